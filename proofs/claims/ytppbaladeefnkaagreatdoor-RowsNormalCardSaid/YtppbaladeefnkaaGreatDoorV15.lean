import Derived.Test.YtppbaladeefnkaaGreatDoorV13
set_option maxRecDepth 100000
set_option maxHeartbeats 400000000
namespace Go.Proofs.YtppbaladeefnkaaGreatDoor
open Go.RowKit Go.Shelf Go.Lib Tryz
def Yt (s:Sc) (l:List Rel) (rows:List Val):List Rf→Ft
 | []=>Ft.zero
 | r::rs=>if (Xs 12 (Gi s l r) rows).code=0 then Yt s l rows rs else Xs 12 (Gi s l r) rows
theorem heap4 (w:World) (A B C D:Obj):((((w.alloc A).alloc B).alloc C).alloc D).heap[w.heap.size]?=some A∧((((w.alloc A).alloc B).alloc C).alloc D).heap[w.heap.size+1]?=some B ∧
  ((((w.alloc A).alloc B).alloc C).alloc D).heap[w.heap.size+1+1]?=some C∧((((w.alloc A).alloc B).alloc C).alloc D).heap[w.heap.size+1+1+1]?=some D:=by
 have e3:(((w.alloc A).alloc B).alloc C).heap.size=w.heap.size+1+1+1:=by simp
 have b4:=Qn (((w.alloc A).alloc B).alloc C) D
 refine ⟨(b4.block _ (by simp;omega)).trans ?_,kE b4 (by simp) (J5 _ _ _ _),kE b4 (by simp) (Zw _ _ _ _),by rw [← e3];exact Qw _ _⟩
 exact ((Qn ((w.alloc A).alloc B) C).block _ (by simp;omega)).trans (Q5 _ _ _)
theorem bal4 (w:World) (A B C D:Obj):Below w.heap.size w ((((w.alloc A).alloc B).alloc C).alloc D):=(Xr w A B C).alloc (Xr w A B C).size _
theorem Oy (S0 S1 S2 S3:Nat→Prop) (s:Sc) (cs:List Value) (lv:Value) (l:List Rel) (t:Tbl) (ct:List Value) (rv:Value) (rows:List Val) (w:World) (hs0:Yn S0 w cs s) (hl0:Sl Z0 S1 w lv l) (ht0:Qt.R S2 w ct t) (hr0:Sl Ql S3 w rv rows) (hkl:∀ t ∈ s.tables,t.key.length≤1000):
  Calls prog 93 #[.agg cs.toArray,lv,.agg ct.toArray,rv] w (Ka S3 w (Yt s l rows t.refs)):=by
 have ht:Qt.R (fun b=>b<w.heap.size) w ct t:=Qt.mono ht0 (fun b hb _=>hb)
 have hr:=hr0.up
 have HS:=Qq hs0;have HL:=Qq hl0;have HRW:=Qq hr;have HKL:=Qq hkl
 obtain ⟨uv,tv,rfl,hu,hts⟩:=hs0
 obtain ⟨up,uc,rfl,_⟩:=hu.len
 obtain ⟨tp,tc,rfl,_⟩:=hts.len
 obtain ⟨lp,lc,rfl,hll⟩:=hl0.len
 obtain ⟨rp,rc,rfl,_⟩:=hr.len
 obtain ⟨cp9,cc9,kp9,kc9,rp9,rc9,k9,s19,n9,s29,p19,n19,c19,p29,n29,c29,p39,n39,c39,a9,z9,hcs,_,_,_,hrf,_⟩:=Zk ht
 simp only [tcs] at hcs
 subst hcs
 have hn:t.refs.length≤1000000:=by obtain ⟨_,_,_,h⟩:=hrf.len;exact h
 obtain ⟨n,hnn⟩:=eX (t.refs.length)
 obtain ⟨res,hres⟩:=eX (Yt s l rows t.refs)
 have HRes:=Qq hres;have HN:=Qq hnn
 rw [hres,hnn]
 rw [hnn] at hn hrf
 have HRF:=Qq hrf
 clear hl0 ht ht0 hr hr0 hu hts hrf hres hkl hnn
 go_enter func93,ntmps93
 go_upto_region 1 with fail
 generalize hW4:(((w.alloc _).alloc _).alloc _).alloc _=w4
 have hb4:Below w.heap.size w w4:=by rw [← hW4];exact bal4 _ _ _ _ _
 obtain ⟨h0,h1,h2,h3⟩:w4.heap[w.heap.size]?=some (.cells #[.slice up s.sums.length uc,.slice tp s.tables.length tc] 26 (0,0))∧w4.heap[w.heap.size+1]?=some (.cells #[.slice lp l.length lc] 28 (0,0))∧w4.heap[w.heap.size+1+1]?=some (.cells #[.string ⟨t.name.toArray⟩,.slice cp9 t.columns.length cc9,.slice kp9 t.key.length kc9,.slice rp9 n rc9,.int .i64 k9,.string s19,.int .i64 n9,.string s29,.slice p19 n19 c19,.slice p29 n29 c29,.slice p39 n39 c39,.int .i64 a9,.int .i64 z9] 37 (0,0)) ∧
   w4.heap[w.heap.size+1+1+1]?=some (.cells zF 94 (0,0)):=by rw [← hW4];exact heap4 _ _ _ _ _
 have c3:=rA3 h2
 have H0:=Qq h0;have H1:=Qq h1;have H3:=Qq h3;have HB4:=Qq hb4
 clear h0 h1 h2 h3 hW4 hb4
 go_wp2_with fail
 go_loopw [15] (fun i wr=>∃ k:Nat,k≤n∧i=.int .i64 k∧Aside (Yt s l rows (t.refs.drop k)=res)∧Below w4.heap.size w4 wr) (fun i _=>n - (intOf i).toNat)
 case atStart=>exact ⟨0,Q8 _,rfl,HRes.out,Qz _ _⟩
 obtain ⟨k,hkn,rfl,hE,hBr⟩:=hrel
 have HBr:=Qq hBr
 have hA0:=kB hBr H0.out
 have hA1:=kB hBr H1.out
 have hA3:=kB hBr H3.out
 have HA0:=Qq hA0;have HA1:=Qq hA1;have HA3:=Qq hA3
 have HBw:=Qq (HB4.out.thn hBr)
 clear hBr hA0 hA1 hA3
 by_cases hlt:k<n
 ·have hi1:(0:Int)≤(k:Int):=by omega
  have hi2:(k:Int)<(n:Int):=by omega
  have hka:k<t.refs.length:=by rw [HN.out];exact hlt
  obtain ⟨r,hx⟩:∃ r,t.refs[k]?=some r:=⟨_,Qx hka⟩
  have hda:t.refs.drop k=r::t.refs.drop (k+1):=by rw [List.drop_eq_getElem_cons hka];rw [Qx hka] at hx;cases hx;rfl
  have hE2:(if (Xs 12 (Gi s l r) rows).code=0 then Yt s l rows (t.refs.drop (k+1)) else Xs 12 (Gi s l r) rows)=res:=by have:=hE.out;rw [hda] at this;exact this
  obtain ⟨ba,oa,cx,hrp,hba,-,-,hrx,hcx⟩:=(HRF.out.below HBw.out).elem hx
  obtain ⟨hcx2,hcl,htl⟩:=hrx
  subst hcx2
  have d0:=hcx 0 _ rfl;have d1:=hcx 1 _ rfl
  simp only [show Jb.k=2 from rfl,Nat.add_zero] at d0 d1
  unfold sv at d0 d1
  have HE2:=Qq hE2
  subst hrp
  clear hE hE2 hda hka hx hcx hcl htl
  go_upto_region 4 with fail
  generalize hW5:wr.alloc _=w5
  have hb5:=eqB hW5 (Qn _ _)
  have h5:=eqH (b:=wr.heap.size) hW5 (Qw _ _)
  have g0:=kB hb5 HA0.out
  have g1:=kB hb5 HA1.out
  have g3:=kB hb5 HA3.out
  have hbw5:=HBw.out.thn hb5
  have HCall:=Qq (Hf 12 126 #[.pointer (some ⟨wr.heap.size,0,none⟩),.pointer (some ⟨w.heap.size,0,none⟩),.pointer (some ⟨w.heap.size+1,0,none⟩)] (enters_of func126 (by kernel_rfl) rfl) (fun b=>S3 b∧b<w.heap.size) (.slice rp rows.length rc) rows (Gi s l r) w5 (HRW.out.below hbw5)
   (Tx wr.heap.size w.heap.size (w.heap.size+1) _ S0 S1 s _ _ _ l r rows w5 (Qk _ _ 0 _ _ _ h5) (Qk _ _ 1 _ _ _ h5) (Qk _ _ 0 _ _ _ g0) (Qk _ _ 1 _ _ _ g0) (Qk _ _ 0 _ _ _ g1) (HS.out.below hbw5) (HL.out.below hbw5) HKL.out))
  obtain ⟨f,hf⟩:=eX (Xs 12 (Gi s l r) rows)
  rw [hf] at HCall HE2
  have G3:=Qq g3;have HB5:=Qq hbw5;have HB45:=Qq (HBr.out.thn hb5)
  clear hf hW5 hb5 h5 g0 g1 g3 hbw5 d0 d1
  go_wp2_with fail
  refine HCall.out.mono ?_
  rintro e w6 ⟨cs',rfl,hf6,hb6⟩
  obtain ⟨p3,k3,p4,k4,q3,l3,q4,l4,hcs,hfl,hfr,hfo⟩:=U5 hf6
  simp only [fcs] at hcs
  subst hcs
  have HR6:=Qq (kB hb6 G3.out)
  have HB6:=Qq (HB5.out.thn hb6);have HB46:=Qq (HB45.out.thn hb6)
  have HFR:=Qq hfr;have HFO:=Qq hfo
  clear hf6 hb6 hfr hfo
  go_upto_region 5 with fail
  generalize hW7:w6.alloc _=w7
  have hb7:=eqB hW7 (Qn _ _)
  have h7:=eqH (b:=w6.heap.size) hW7 (Qw _ _)
  have HR7:=Qq (kB hb7 HR6.out)
  have HB7:=Qq (HB6.out.thn hb7);have HB47:=Qq (HB46.out.thn hb7)
  have HFR7:=Qq (Qh.move HFR.out (.of_below hb7) (fun _ _ h=>h));have HFO7:=Qq (Qh.move HFO.out (.of_below hb7) (fun _ _ h=>h))
  have xx:=fun j=>Qk _ _ j _ _ _ h7
  have x0':=xx 0;have x1:=xx 1;have x2:=xx 2;have x3:=xx 3;have x4:=xx 4;have x5:=xx 5;have x6:=xx 6;have x7:=xx 7;have x8:=xx 8;have x9:=xx 9;have x10:=xx 10;have x11:=xx 11
  simp only [List.getElem?_toArray,List.getElem?_cons_zero,List.getElem?_cons_succ] at x0' x1 x2 x3 x4 x5 x6 x7 x8 x9 x10 x11
  clear hW7 hb7 h7 xx HR6 HB6 HB46 HFR HFO HCall G3 HB5 HB45 HA0 HA1 HA3
  by_cases hc:f.code=0
  ·have HE3:=Qq (show Yt s l rows (t.refs.drop (k+1))=res by have:=HE2.out;rw [if_pos hc] at this;exact this)
   rw [hc] at x0'
   clear HE2
   go_wp2_with fail
   go_roundw
   case measure=>simp [intOf];omega
   case rel=>exact ⟨k+1,by omega,by go_num,HE3.out,HB47.out⟩
  have HE3:=Qq (show f=res by have:=HE2.out;rw [if_neg hc] at this;exact this)
  have hc1:(f.code != 0)=true:=by simpa using hc
  have hc2:decide (f.code=0)=false:=by simpa using hc
  have hc3:(f.code==0)=false:=by simpa using hc
  clear HE2
  have fz:=fun j=>frozen_of_row _ _ j _ _ HR7.out
  have rr:=fun j=>Qk _ _ j _ _ _ HR7.out
  have f0:=fz 0;have f1:=fz 1;have f2:=fz 2;have f3:=fz 3;have f4:=fz 4;have f5:=fz 5;have f6:=fz 6;have f7:=fz 7;have f8:=fz 8;have f9:=fz 9;have f10:=fz 10;have f11:=fz 11
  have r0:=rr 0;have r1:=rr 1;have r2:=rr 2;have r3:=rr 3;have r4:=rr 4;have r5:=rr 5;have r6:=rr 6;have r7:=rr 7;have r8:=rr 8;have r9:=rr 9;have r10:=rr 10;have r11:=rr 11
  simp only [List.getElem?_toArray,List.getElem?_cons_zero,List.getElem?_cons_succ] at r0 r1 r2 r3 r4 r5 r6 r7 r8 r9 r10 r11
  clear fz rr
  go_wp2_with fail
  obtain ⟨W,hW⟩:=eX (Zh w7 (w.heap.size+1+1+1) (.int .i64 f.code) (.string ⟨f.table.toArray⟩) (.int .i64 f.row.kind) (.int .i64 f.row.n) (.string ⟨f.row.s.toArray⟩) (.slice p3 f.row.names.length k3) (.slice p4 f.row.kids.length k4) (.int .i64 f.other.kind) (.int .i64 f.other.n) (.string ⟨f.other.s.toArray⟩) (.slice q3 f.other.names.length l3) (.slice q4 f.other.kids.length l4))
  have q:∀ j,W.cell? ⟨w.heap.size+1+1+1,j,none⟩=#[.int .i64 f.code,.string ⟨f.table.toArray⟩,.int .i64 f.row.kind,.int .i64 f.row.n,.string ⟨f.row.s.toArray⟩,.slice p3 f.row.names.length k3,.slice p4 f.row.kids.length k4,.int .i64 f.other.kind,.int .i64 f.other.n,.string ⟨f.other.s.toArray⟩,.slice q3 f.other.names.length l3,.slice q4 f.other.kids.length l4][j]?:=fun j=>by rw [← hW];exact Zb HR7.out j
  have hoth:∀ b,b≠w.heap.size+1+1+1→W.heap[b]?=w7.heap[b]?:=fun b hb=>by rw [← hW];exact Yz hb
  have hbel:Below w.heap.size w W:=by rw [← hW];exact Z3 HB7.out (by omega)
  show bodyPost _ _ _ _ _ (Zh w7 (w.heap.size+1+1+1) (.int .i64 f.code) (.string ⟨f.table.toArray⟩) (.int .i64 f.row.kind) (.int .i64 f.row.n) (.string ⟨f.row.s.toArray⟩) (.slice p3 f.row.names.length k3) (.slice p4 f.row.kids.length k4) (.int .i64 f.other.kind) (.int .i64 f.other.n) (.string ⟨f.other.s.toArray⟩) (.slice q3 f.other.names.length l3) (.slice q4 f.other.kids.length l4))
  rw [hW]
  have HBel:=Qq hbel;have HOth:=Qq hoth
  have q0:=q 0;have q1:=q 1;have q2:=q 2;have q3':=q 3;have q4':=q 4;have q5:=q 5;have q6:=q 6;have q7:=q 7;have q8:=q 8;have q9:=q 9;have q10:=q 10;have q11:=q 11
  simp only [List.getElem?_toArray,List.getElem?_cons_zero,List.getElem?_cons_succ] at q0 q1 q2 q3' q4' q5 q6 q7 q8 q9 q10 q11
  clear hW hbel q hoth
  refine Q7 (v:=.agg #[.int .i64 f.code,.string ⟨f.table.toArray⟩,.int .i64 f.row.kind,.int .i64 f.row.n,.string ⟨f.row.s.toArray⟩,.slice p3 f.row.names.length k3,.slice p4 f.row.kids.length k4,.int .i64 f.other.kind,.int .i64 f.other.n,.string ⟨f.other.s.toArray⟩,.slice q3 f.other.names.length l3,.slice q4 f.other.kids.length l4]) (by simp [results,results93,go_sem,q0,q1,q2,q3',q4',q5,q6,q7,q8,q9,q10,q11]) rfl ⟨[.int .i64 f.code,.string ⟨f.table.toArray⟩,.int .i64 f.row.kind,.int .i64 f.row.n,.string ⟨f.row.s.toArray⟩,.slice p3 f.row.names.length k3,.slice p4 f.row.kids.length k4,.int .i64 f.other.kind,.int .i64 f.other.n,.string ⟨f.other.s.toArray⟩,.slice q3 f.other.names.length l3,.slice q4 f.other.kids.length l4],rfl,?_,HBel.out⟩
  rw [← HE3.out]
  exact ⟨_,_,rfl,hfl,Qh.move HFR7.out (fun b hb _=>HOth.out b (by have:b<w.heap.size:=hb.2;omega)) (fun _ _ h=>h.1),Qh.move HFO7.out (fun b hb _=>HOth.out b (by have:b<w.heap.size:=hb.2;omega)) (fun _ _ h=>h.1)⟩
 have hr0:res=Ft.zero:=by
  have:=hE.out
  rw [List.drop_eq_nil_of_le (by rw [HN.out];omega)] at this
  exact this.symm
 have hd:decide ((k:Int)<(n:Int))=false:=by simpa using hlt
 have HR0:=Qq hr0
 have fz:=fun j=>frozen_of_row _ _ j _ _ HA3.out
 have rr:=fun j=>Qk _ _ j _ _ _ HA3.out
 have f0:=fz 0;have f1:=fz 1;have f2:=fz 2;have f3:=fz 3;have f4:=fz 4;have f5:=fz 5;have f6:=fz 6;have f7:=fz 7;have f8:=fz 8;have f9:=fz 9;have f10:=fz 10;have f11:=fz 11
 have r0:=rr 0;have r1:=rr 1;have r2:=rr 2;have r3:=rr 3;have r4:=rr 4;have r5:=rr 5;have r6:=rr 6;have r7:=rr 7;have r8:=rr 8;have r9:=rr 9;have r10:=rr 10;have r11:=rr 11
 simp only [List.getElem?_toArray,List.getElem?_cons_zero,List.getElem?_cons_succ] at r0 r1 r2 r3 r4 r5 r6 r7 r8 r9 r10 r11
 clear fz rr hE hr0
 go_wp2_with fail
 obtain ⟨W,hW⟩:=eX (Zh wr (w.heap.size+1+1+1) (.int .i64 0) (.string ⟨#[]⟩) (.int .i64 0) (.int .i64 0) (.string ⟨#[]⟩) (.slice none 0 0) (.slice none 0 0) (.int .i64 0) (.int .i64 0) (.string ⟨#[]⟩) (.slice none 0 0) (.slice none 0 0))
 have q:∀ j,W.cell? ⟨w.heap.size+1+1+1,j,none⟩=zF[j]?:=fun j=>by rw [← hW];exact Zb HA3.out j
 have hoth:∀ b,b≠w.heap.size+1+1+1→W.heap[b]?=wr.heap[b]?:=fun b hb=>by rw [← hW];exact Yz hb
 have hbel:Below w.heap.size w W:=by rw [← hW];exact Z3 HBw.out (by omega)
 show bodyPost _ _ _ _ _ (Zh wr (w.heap.size+1+1+1) (.int .i64 0) (.string ⟨#[]⟩) (.int .i64 0) (.int .i64 0) (.string ⟨#[]⟩) (.slice none 0 0) (.slice none 0 0) (.int .i64 0) (.int .i64 0) (.string ⟨#[]⟩) (.slice none 0 0) (.slice none 0 0))
 rw [hW]
 have HBel:=Qq hbel;have HOth:=Qq hoth
 have q0:=q 0;have q1:=q 1;have q2:=q 2;have q3':=q 3;have q4':=q 4;have q5:=q 5;have q6:=q 6;have q7:=q 7;have q8:=q 8;have q9:=q 9;have q10:=q 10;have q11:=q 11
 simp only [List.getElem?_toArray,List.getElem?_cons_zero,List.getElem?_cons_succ] at q0 q1 q2 q3' q4' q5 q6 q7 q8 q9 q10 q11
 clear hW hbel q hoth
 refine Q7 (v:=.agg zF) (by simp [results,results93,go_sem,q0,q1,q2,q3',q4',q5,q6,q7,q8,q9,q10,q11]) rfl ⟨[.int .i64 0,.string ⟨#[]⟩,.int .i64 0,.int .i64 0,.string ⟨#[]⟩,.slice none 0 0,.slice none 0 0,.int .i64 0,.int .i64 0,.string ⟨#[]⟩,.slice none 0 0,.slice none 0 0],rfl,?_,HBel.out⟩
 rw [HR0.out]
 exact Ug _ _
def Mj (rows:List Val):Ft:=if 256<rows.length then ⟨4,[],Val.zero,Val.zero⟩ else Ft.zero
theorem con1_any (S0 S1 S:Nat→Prop) (t:Tbl) (ct:List Value) (rv:Value) (rows:List Val) (w:World) (ht:Qt.R S0 w ct t) (hr:Sl Ql S1 w rv rows):
  Calls prog 84 #[.agg ct.toArray,rv] w (Ka S w (Mj rows)):=by
 obtain ⟨cp9,cc9,kp9,kc9,rp9,rc9,k9,s19,n9,s29,p19,n19,c19,p29,n29,c29,p39,n39,c39,a9,z9,hcs,_⟩:=Zk ht
 simp only [tcs] at hcs
 subst hcs
 obtain ⟨rp,rc,rfl,hl⟩:=hr.len
 unfold Mj
 clear ht hr
 by_cases h:256<rows.length
 ·rw [if_pos h]
  have hi:(256:Int)<(rows.length:Int):=by omega
  clear h
  go_enter func84,ntmps84
  go_wp2_with fail
  generalize hW:(w.alloc _).alloc _=W
  have hb:=eqB hW (Zv _ _ _)
  have hR:=eqH (b:=w.heap.size+1) hW (Q6 _ _ _)
  refine Q7 (v:=.agg #[.int .i64 4,.string ⟨#[]⟩,.int .i64 0,.int .i64 0,.string ⟨#[]⟩,.slice none 0 0,.slice none 0 0,.int .i64 0,.int .i64 0,.string ⟨#[]⟩,.slice none 0 0,.slice none 0 0]) (by simp [results,results84,go_sem,Qk _ _ _ _ _ _ hR]) rfl ⟨[.int .i64 4,.string ⟨#[]⟩,.int .i64 0,.int .i64 0,.string ⟨#[]⟩,.slice none 0 0,.slice none 0 0,.int .i64 0,.int .i64 0,.string ⟨#[]⟩,.slice none 0 0,.slice none 0 0],rfl,?_,hb⟩
  exact ⟨_,_,rfl,by simp,Zo _ _,Zo _ _⟩
 rw [if_neg h]
 have hi:¬ (256:Int)<(rows.length:Int):=by omega
 have hi2:decide ((256:Int)<(rows.length:Int))=false:=decide_eq_false hi
 clear h
 go_enter func84,ntmps84
 go_wp2_with fail
 generalize hW:(w.alloc _).alloc _=W
 have hb:=eqB hW (Zv _ _ _)
 have hR:=eqH (b:=w.heap.size+1) hW (Q6 _ _ _)
 refine Q7 (v:=.agg zF) (by simp [results,results84,go_sem,Qk _ _ _ _ _ _ hR]) rfl ⟨[.int .i64 0,.string ⟨#[]⟩,.int .i64 0,.int .i64 0,.string ⟨#[]⟩,.slice none 0 0,.slice none 0 0,.int .i64 0,.int .i64 0,.string ⟨#[]⟩,.slice none 0 0,.slice none 0 0],rfl,?_,hb⟩
 exact Ug _ _
theorem con3_any (S0 S1:Nat→Prop) (t:Tbl) (ct:List Value) (rv:Value) (rows:List Val) (K:Val→List Int) (w:World) (ht:Qt.R S0 w ct t) (hr:Sl Ql S1 w rv rows) (hK:Hg t rows K) (hl:rows.length≤100000) (hkl:t.key.length≤1000):
  Calls prog 90 #[.agg ct.toArray,rv] w (Ka S1 w (U7 rows (ust rows.length (rows.map fun r=>kb (K r)) rows.length))):=by
 have HU:=Qq (fun W (hb:Below w.heap.size w W)=>O2 S0 (fun b=>S1 b∧b<w.heap.size) t rows K ct rv W (Qt.frame ht (.of_below hb)) ((hr.mono (fun b hb h=>⟨h,hb⟩)).below hb) hK hl hkl)
 obtain ⟨cp9,cc9,kp9,kc9,rp9,rc9,k9,s19,n9,s29,p19,n19,c19,p29,n29,c29,p39,n39,c39,a9,z9,hcs,_⟩:=Zk ht
 simp only [tcs] at hcs
 subst hcs
 obtain ⟨rp,rc,rfl,_⟩:=hr.len
 obtain ⟨f,hf⟩:=eX (U7 rows (ust rows.length (rows.map fun r=>kb (K r)) rows.length))
 rw [hf] at HU ⊢
 clear ht hr hK hf
 go_enter func90,ntmps90
 go_wp2_with fail
 refine (HU.out _ (Zv _ _ _)).mono ?_
 rintro e w5 ⟨cs',rfl,hf5,hb5⟩
 obtain ⟨p3,k3,p4,k4,q3,l3,q4,l4,hcs,hfl,hfr,hfo⟩:=U5 hf5
 simp only [fcs] at hcs
 subst hcs
 have HR5:=Qq ((hb5.block (w.heap.size+1) (by simp)).trans (Q6 w _ _))
 have HB5:=Qq ((Zv w _ _).thn hb5)
 have HFR:=Qq hfr;have HFO:=Qq hfo;have HFL:=Qq hfl
 have fz:=fun j=>frozen_of_row _ _ j _ _ HR5.out
 have rr:=fun j=>Qk _ _ j _ _ _ HR5.out
 have f0:=fz 0;have f1:=fz 1;have f2:=fz 2;have f3:=fz 3;have f4:=fz 4;have f5:=fz 5;have f6:=fz 6;have f7:=fz 7;have f8:=fz 8;have f9:=fz 9;have f10:=fz 10;have f11:=fz 11
 have r0:=rr 0;have r1:=rr 1;have r2:=rr 2;have r3:=rr 3;have r4:=rr 4;have r5:=rr 5;have r6:=rr 6;have r7:=rr 7;have r8:=rr 8;have r9:=rr 9;have r10:=rr 10;have r11:=rr 11
 simp only [List.getElem?_toArray,List.getElem?_cons_zero,List.getElem?_cons_succ] at r0 r1 r2 r3 r4 r5 r6 r7 r8 r9 r10 r11
 clear fz rr hf5 hb5 hfr hfo hfl
 go_wp2_with fail
 obtain ⟨W,hW⟩:=eX (Zh w5 (w.heap.size+1) (.int .i64 f.code) (.string ⟨f.table.toArray⟩) (.int .i64 f.row.kind) (.int .i64 f.row.n) (.string ⟨f.row.s.toArray⟩) (.slice p3 f.row.names.length k3) (.slice p4 f.row.kids.length k4) (.int .i64 f.other.kind) (.int .i64 f.other.n) (.string ⟨f.other.s.toArray⟩) (.slice q3 f.other.names.length l3) (.slice q4 f.other.kids.length l4))
 have q:∀ j,W.cell? ⟨w.heap.size+1,j,none⟩=#[.int .i64 f.code,.string ⟨f.table.toArray⟩,.int .i64 f.row.kind,.int .i64 f.row.n,.string ⟨f.row.s.toArray⟩,.slice p3 f.row.names.length k3,.slice p4 f.row.kids.length k4,.int .i64 f.other.kind,.int .i64 f.other.n,.string ⟨f.other.s.toArray⟩,.slice q3 f.other.names.length l3,.slice q4 f.other.kids.length l4][j]?:=fun j=>by rw [← hW];exact Zb HR5.out j
 have hoth:∀ b,b≠w.heap.size+1→W.heap[b]?=w5.heap[b]?:=fun b hb=>by rw [← hW];exact Yz hb
 have hbel:Below w.heap.size w W:=by rw [← hW];exact Z3 HB5.out (by omega)
 show bodyPost _ _ _ _ _ (Zh w5 (w.heap.size+1) (.int .i64 f.code) (.string ⟨f.table.toArray⟩) (.int .i64 f.row.kind) (.int .i64 f.row.n) (.string ⟨f.row.s.toArray⟩) (.slice p3 f.row.names.length k3) (.slice p4 f.row.kids.length k4) (.int .i64 f.other.kind) (.int .i64 f.other.n) (.string ⟨f.other.s.toArray⟩) (.slice q3 f.other.names.length l3) (.slice q4 f.other.kids.length l4))
 rw [hW]
 have HBel:=Qq hbel;have HOth:=Qq hoth
 have q0:=q 0;have q1:=q 1;have q2:=q 2;have q3':=q 3;have q4':=q 4;have q5:=q 5;have q6:=q 6;have q7:=q 7;have q8:=q 8;have q9:=q 9;have q10:=q 10;have q11:=q 11
 simp only [List.getElem?_toArray,List.getElem?_cons_zero,List.getElem?_cons_succ] at q0 q1 q2 q3' q4' q5 q6 q7 q8 q9 q10 q11
 clear hW hbel q hoth
 refine Q7 (v:=.agg #[.int .i64 f.code,.string ⟨f.table.toArray⟩,.int .i64 f.row.kind,.int .i64 f.row.n,.string ⟨f.row.s.toArray⟩,.slice p3 f.row.names.length k3,.slice p4 f.row.kids.length k4,.int .i64 f.other.kind,.int .i64 f.other.n,.string ⟨f.other.s.toArray⟩,.slice q3 f.other.names.length l3,.slice q4 f.other.kids.length l4]) (by simp [results,results90,go_sem,q0,q1,q2,q3',q4',q5,q6,q7,q8,q9,q10,q11]) rfl ⟨[.int .i64 f.code,.string ⟨f.table.toArray⟩,.int .i64 f.row.kind,.int .i64 f.row.n,.string ⟨f.row.s.toArray⟩,.slice p3 f.row.names.length k3,.slice p4 f.row.kids.length k4,.int .i64 f.other.kind,.int .i64 f.other.n,.string ⟨f.other.s.toArray⟩,.slice q3 f.other.names.length l3,.slice q4 f.other.kids.length l4],rfl,?_,HBel.out⟩
 exact ⟨_,_,rfl,HFL.out,Qh.move HFR.out (fun b hb _=>HOth.out b (by have:b<w.heap.size:=hb.2;omega)) (fun _ _ h=>h.1),Qh.move HFO.out (fun b hb _=>HOth.out b (by have:b<w.heap.size:=hb.2;omega)) (fun _ _ h=>h.1)⟩
theorem con4_any (B C:Nat) (S0 S1 S2 S3:Nat→Prop) (s:Sc) (uv tv' lv:Value) (l:List Rel) (t:Tbl) (ct:List Value) (rv:Value) (rows:List Val) (w:World) (hB0:w.cell? ⟨B,0,none⟩=some uv) (hB1:w.cell? ⟨B,1,none⟩=some tv') (hC:w.cell? ⟨C,0,none⟩=some lv)
  (hs:Yn S0 w [uv,tv'] s) (hl:Sl Z0 S1 w lv l) (ht:Qt.R S2 w ct t) (hr:Sl Ql S3 w rv rows) (hkl:∀ t ∈ s.tables,t.key.length≤1000):
  Calls prog 92 #[.agg ct.toArray,rv,.pointer (some ⟨B,0,none⟩),.pointer (some ⟨C,0,none⟩)] w (Ka S3 w (Yt s l rows t.refs)):=by
 have HU:=Qq (fun W (hb:Below w.heap.size w W)=>Oy S0 S1 S2 (fun b=>S3 b∧b<w.heap.size) s _ lv l t ct rv rows W (hs.below hb) (hl.below hb) (Qt.frame ht (.of_below hb)) ((hr.mono (fun b hb h=>⟨h,hb⟩)).below hb) hkl)
 obtain ⟨uv',tv2,huv,hu,hts⟩:=hs
 cases huv
 obtain ⟨up,uc,rfl,_⟩:=hu.len
 obtain ⟨tp,tc,rfl,_⟩:=hts.len
 obtain ⟨lp,lc,rfl,_⟩:=hl.len
 obtain ⟨cp9,cc9,kp9,kc9,rp9,rc9,k9,s19,n9,s29,p19,n19,c19,p29,n29,c29,p39,n39,c39,a9,z9,hcs,_⟩:=Zk ht
 simp only [tcs] at hcs
 subst hcs
 obtain ⟨rp,rc,rfl,_⟩:=hr.len
 obtain ⟨f,hf⟩:=eX (Yt s l rows t.refs)
 rw [hf] at HU ⊢
 have hBl:=Qv _ _ hB0
 have hCl:=Qv _ _ hC
 have hBl:B<w.heap.size:=hBl
 have hCl:C<w.heap.size:=hCl
 clear ht hr hf hl hu hts
 go_enter func92,ntmps92
 go_wp2_with fail
 refine (HU.out _ (Zv _ _ _)).mono ?_
 rintro e w5 ⟨cs',rfl,hf5,hb5⟩
 obtain ⟨p3,k3,p4,k4,q3,l3,q4,l4,hcs,hfl,hfr,hfo⟩:=U5 hf5
 simp only [fcs] at hcs
 subst hcs
 have HR5:=Qq ((hb5.block (w.heap.size+1) (by simp)).trans (Q6 w _ _))
 have HB5:=Qq ((Zv w _ _).thn hb5)
 have HFR:=Qq hfr;have HFO:=Qq hfo;have HFL:=Qq hfl
 have fz:=fun j=>frozen_of_row _ _ j _ _ HR5.out
 have rr:=fun j=>Qk _ _ j _ _ _ HR5.out
 have f0:=fz 0;have f1:=fz 1;have f2:=fz 2;have f3:=fz 3;have f4:=fz 4;have f5:=fz 5;have f6:=fz 6;have f7:=fz 7;have f8:=fz 8;have f9:=fz 9;have f10:=fz 10;have f11:=fz 11
 have r0:=rr 0;have r1:=rr 1;have r2:=rr 2;have r3:=rr 3;have r4:=rr 4;have r5:=rr 5;have r6:=rr 6;have r7:=rr 7;have r8:=rr 8;have r9:=rr 9;have r10:=rr 10;have r11:=rr 11
 simp only [List.getElem?_toArray,List.getElem?_cons_zero,List.getElem?_cons_succ] at r0 r1 r2 r3 r4 r5 r6 r7 r8 r9 r10 r11
 clear fz rr hf5 hb5 hfr hfo hfl
 go_wp2_with fail
 obtain ⟨W,hW⟩:=eX (Zh w5 (w.heap.size+1) (.int .i64 f.code) (.string ⟨f.table.toArray⟩) (.int .i64 f.row.kind) (.int .i64 f.row.n) (.string ⟨f.row.s.toArray⟩) (.slice p3 f.row.names.length k3) (.slice p4 f.row.kids.length k4) (.int .i64 f.other.kind) (.int .i64 f.other.n) (.string ⟨f.other.s.toArray⟩) (.slice q3 f.other.names.length l3) (.slice q4 f.other.kids.length l4))
 have q:∀ j,W.cell? ⟨w.heap.size+1,j,none⟩=#[.int .i64 f.code,.string ⟨f.table.toArray⟩,.int .i64 f.row.kind,.int .i64 f.row.n,.string ⟨f.row.s.toArray⟩,.slice p3 f.row.names.length k3,.slice p4 f.row.kids.length k4,.int .i64 f.other.kind,.int .i64 f.other.n,.string ⟨f.other.s.toArray⟩,.slice q3 f.other.names.length l3,.slice q4 f.other.kids.length l4][j]?:=fun j=>by rw [← hW];exact Zb HR5.out j
 have hoth:∀ b,b≠w.heap.size+1→W.heap[b]?=w5.heap[b]?:=fun b hb=>by rw [← hW];exact Yz hb
 have hbel:Below w.heap.size w W:=by rw [← hW];exact Z3 HB5.out (by omega)
 show bodyPost _ _ _ _ _ (Zh w5 (w.heap.size+1) (.int .i64 f.code) (.string ⟨f.table.toArray⟩) (.int .i64 f.row.kind) (.int .i64 f.row.n) (.string ⟨f.row.s.toArray⟩) (.slice p3 f.row.names.length k3) (.slice p4 f.row.kids.length k4) (.int .i64 f.other.kind) (.int .i64 f.other.n) (.string ⟨f.other.s.toArray⟩) (.slice q3 f.other.names.length l3) (.slice q4 f.other.kids.length l4))
 rw [hW]
 have HBel:=Qq hbel;have HOth:=Qq hoth
 have q0:=q 0;have q1:=q 1;have q2:=q 2;have q3':=q 3;have q4':=q 4;have q5:=q 5;have q6:=q 6;have q7:=q 7;have q8:=q 8;have q9:=q 9;have q10:=q 10;have q11:=q 11
 simp only [List.getElem?_toArray,List.getElem?_cons_zero,List.getElem?_cons_succ] at q0 q1 q2 q3' q4' q5 q6 q7 q8 q9 q10 q11
 clear hW hbel q hoth
 refine Q7 (v:=.agg #[.int .i64 f.code,.string ⟨f.table.toArray⟩,.int .i64 f.row.kind,.int .i64 f.row.n,.string ⟨f.row.s.toArray⟩,.slice p3 f.row.names.length k3,.slice p4 f.row.kids.length k4,.int .i64 f.other.kind,.int .i64 f.other.n,.string ⟨f.other.s.toArray⟩,.slice q3 f.other.names.length l3,.slice q4 f.other.kids.length l4]) (by simp [results,results92,go_sem,q0,q1,q2,q3',q4',q5,q6,q7,q8,q9,q10,q11]) rfl ⟨[.int .i64 f.code,.string ⟨f.table.toArray⟩,.int .i64 f.row.kind,.int .i64 f.row.n,.string ⟨f.row.s.toArray⟩,.slice p3 f.row.names.length k3,.slice p4 f.row.kids.length k4,.int .i64 f.other.kind,.int .i64 f.other.n,.string ⟨f.other.s.toArray⟩,.slice q3 f.other.names.length l3,.slice q4 f.other.kids.length l4],rfl,?_,HBel.out⟩
 exact ⟨_,_,rfl,HFL.out,Qh.move HFR.out (fun b hb _=>HOth.out b (by have:b<w.heap.size:=hb.2;omega)) (fun _ _ h=>h.1),Qh.move HFO.out (fun b hb _=>HOth.out b (by have:b<w.heap.size:=hb.2;omega)) (fun _ _ h=>h.1)⟩
theorem sat2_any (X:Nat) (S:Nat→Prop) (t:Tbl) (ct:List Value) (rows:List Val) (p:Val→Bool) (w:World) (hct:∀ j u,ct[j]?=some u→w.cell? ⟨X,j,none⟩=some u) (hXl:X<w.heap.size) (ht:Qt.R S w ct t) (hsi:Ux t.check=true)
  (hev:∀ x ∈ rows,EvV t.check (Gu x) (J9 (p x))∧x.names.length≤x.kids.length):Xp prog 95 #[.pointer (some ⟨X,0,none⟩)] Ql S rows p w:=by
 intro W x cs hb hx hr
 have hxr:=Qt.frame ht (.of_below hb)
 have HC:=Qq (fun W' (h':Below W.heap.size W W')=>sat_ok S S t x ct cs (p x) W' (Qt.frame hxr (.of_below h')) (Qh.move (show Qh S W cs x from hr) (.of_below h') (fun _ _ h=>h)) hsi (hev x hx).1 (hev x hx).2)
 obtain ⟨cp9,cc9,kp9,kc9,rp9,rc9,k9,s19,n9,s29,p19,n19,c19,p29,n29,c29,p39,n39,c39,a9,z9,hcs,_⟩:=Zk hxr
 simp only [tcs] at hcs
 subst hcs
 obtain ⟨p3,k3,p4,k4,hcs,_⟩:=Qh.cells (show Qh S W cs x from hr)
 simp only [vcs] at hcs
 subst hcs
 have d:=fun j u hj=>(hb.cell (p:=⟨X,j,none⟩) hXl).trans (hct j u hj)
 have d0:=d 0 _ rfl
 have d1:=d 1 _ rfl
 have d2:=d 2 _ rfl
 have d3:=d 3 _ rfl
 have d4:=d 4 _ rfl
 have d5:=d 5 _ rfl
 have d6:=d 6 _ rfl
 have d7:=d 7 _ rfl
 have d8:=d 8 _ rfl
 have d9:=d 9 _ rfl
 have d10:=d 10 _ rfl
 have d11:=d 11 _ rfl
 have d12:=d 12 _ rfl
 have hXW:X<W.heap.size:=Qv W _ d0
 show Calls prog 95 #[.agg #[.int .i64 x.kind,.int .i64 x.n,.string ⟨x.s.toArray⟩,.slice p3 x.names.length k3,.slice p4 x.kids.length k4],.pointer (some ⟨X,0,none⟩)] W (fun e w'=>e=.returned (.bool (p x))∧Below W.heap.size W w')
 generalize p x=b at HC ⊢
 clear d hct ht hb hx hr hxr hev hsi
 go_enter func95,ntmps95
 go_wp2_with (go_at_call 96;refine (HC.out _ (Qn _ _)).mono ?_;rintro e w' ⟨rfl,hw⟩)
 go_ret
 exact ⟨rfl,(Qn _ _).thn hw⟩
theorem con5_any (S0 S3:Nat→Prop) (t:Tbl) (ct:List Value) (rv:Value) (rows:List Val) (p:Val→Bool) (w:World) (ht:Qt.R S0 w ct t) (hr:Sl Ql S3 w rv rows) (hsi:Ux t.check=true)
  (hev:∀ x ∈ rows,EvV t.check (Gu x) (J9 (p x))∧x.names.length≤x.kids.length):
  Calls prog 94 #[.agg ct.toArray,rv] w (Ka S3 w (Xs 13 p rows)):=by
 have HU:=Qq (fun W (hb:Below w.heap.size w W) (hct:∀ j u,ct[j]?=some u→W.cell? ⟨w.heap.size,j,none⟩=some u) (hl:w.heap.size<W.heap.size)=>Hf 13 95 #[.pointer (some ⟨w.heap.size,0,none⟩)] (enters_of func95 (by kernel_rfl) rfl) (fun b=>S3 b∧b<w.heap.size) rv rows p W ((hr.mono (fun b hb h=>⟨h,hb⟩)).below hb)
  (fun W' x cs h1 h2 h3=>sat2_any w.heap.size (fun _=>True) t ct rows p W hct hl (Qt.mono (Qt.frame ht (.of_below hb)) (fun _ _ _=>trivial)) hsi hev W' x cs h1 h2 (Qh.move h3 (.refl _ _) (fun _ _ _=>trivial))))
 obtain ⟨cp9,cc9,kp9,kc9,rp9,rc9,k9,s19,n9,s29,p19,n19,c19,p29,n29,c29,p39,n39,c39,a9,z9,hcs,_⟩:=Zk ht
 simp only [tcs] at hcs
 subst hcs
 obtain ⟨rp,rc,rfl,_⟩:=hr.len
 obtain ⟨f,hf⟩:=eX (Xs 13 p rows)
 rw [hf] at HU ⊢
 clear ht hr hf hev hsi
 go_enter func94,ntmps94
 go_wp2_with fail
 refine (HU.out _ (Zv _ _ _) (fun j u hj=>by rw [Qk _ _ j _ _ _ (Q5 w _ _)];simpa using hj) (by simp;omega)).mono ?_
 rintro e w5 ⟨cs',rfl,hf5,hb5⟩
 obtain ⟨p3,k3,p4,k4,q3,l3,q4,l4,hcs,hfl,hfr,hfo⟩:=U5 hf5
 simp only [fcs] at hcs
 subst hcs
 have HR5:=Qq ((hb5.block (w.heap.size+1) (by simp)).trans (Q6 w _ _))
 have HB5:=Qq ((Zv w _ _).thn hb5)
 have HFR:=Qq hfr;have HFO:=Qq hfo;have HFL:=Qq hfl
 have fz:=fun j=>frozen_of_row _ _ j _ _ HR5.out
 have rr:=fun j=>Qk _ _ j _ _ _ HR5.out
 have f0:=fz 0;have f1:=fz 1;have f2:=fz 2;have f3:=fz 3;have f4:=fz 4;have f5:=fz 5;have f6:=fz 6;have f7:=fz 7;have f8:=fz 8;have f9:=fz 9;have f10:=fz 10;have f11:=fz 11
 have r0:=rr 0;have r1:=rr 1;have r2:=rr 2;have r3:=rr 3;have r4:=rr 4;have r5:=rr 5;have r6:=rr 6;have r7:=rr 7;have r8:=rr 8;have r9:=rr 9;have r10:=rr 10;have r11:=rr 11
 simp only [List.getElem?_toArray,List.getElem?_cons_zero,List.getElem?_cons_succ] at r0 r1 r2 r3 r4 r5 r6 r7 r8 r9 r10 r11
 clear fz rr hf5 hb5 hfr hfo hfl
 go_wp2_with fail
 obtain ⟨W,hW⟩:=eX (Zh w5 (w.heap.size+1) (.int .i64 f.code) (.string ⟨f.table.toArray⟩) (.int .i64 f.row.kind) (.int .i64 f.row.n) (.string ⟨f.row.s.toArray⟩) (.slice p3 f.row.names.length k3) (.slice p4 f.row.kids.length k4) (.int .i64 f.other.kind) (.int .i64 f.other.n) (.string ⟨f.other.s.toArray⟩) (.slice q3 f.other.names.length l3) (.slice q4 f.other.kids.length l4))
 have q:∀ j,W.cell? ⟨w.heap.size+1,j,none⟩=#[.int .i64 f.code,.string ⟨f.table.toArray⟩,.int .i64 f.row.kind,.int .i64 f.row.n,.string ⟨f.row.s.toArray⟩,.slice p3 f.row.names.length k3,.slice p4 f.row.kids.length k4,.int .i64 f.other.kind,.int .i64 f.other.n,.string ⟨f.other.s.toArray⟩,.slice q3 f.other.names.length l3,.slice q4 f.other.kids.length l4][j]?:=fun j=>by rw [← hW];exact Zb HR5.out j
 have hoth:∀ b,b≠w.heap.size+1→W.heap[b]?=w5.heap[b]?:=fun b hb=>by rw [← hW];exact Yz hb
 have hbel:Below w.heap.size w W:=by rw [← hW];exact Z3 HB5.out (by omega)
 show bodyPost _ _ _ _ _ (Zh w5 (w.heap.size+1) (.int .i64 f.code) (.string ⟨f.table.toArray⟩) (.int .i64 f.row.kind) (.int .i64 f.row.n) (.string ⟨f.row.s.toArray⟩) (.slice p3 f.row.names.length k3) (.slice p4 f.row.kids.length k4) (.int .i64 f.other.kind) (.int .i64 f.other.n) (.string ⟨f.other.s.toArray⟩) (.slice q3 f.other.names.length l3) (.slice q4 f.other.kids.length l4))
 rw [hW]
 have HBel:=Qq hbel;have HOth:=Qq hoth
 have q0:=q 0;have q1:=q 1;have q2:=q 2;have q3':=q 3;have q4':=q 4;have q5:=q 5;have q6:=q 6;have q7:=q 7;have q8:=q 8;have q9:=q 9;have q10:=q 10;have q11:=q 11
 simp only [List.getElem?_toArray,List.getElem?_cons_zero,List.getElem?_cons_succ] at q0 q1 q2 q3' q4' q5 q6 q7 q8 q9 q10 q11
 clear hW hbel q hoth
 refine Q7 (v:=.agg #[.int .i64 f.code,.string ⟨f.table.toArray⟩,.int .i64 f.row.kind,.int .i64 f.row.n,.string ⟨f.row.s.toArray⟩,.slice p3 f.row.names.length k3,.slice p4 f.row.kids.length k4,.int .i64 f.other.kind,.int .i64 f.other.n,.string ⟨f.other.s.toArray⟩,.slice q3 f.other.names.length l3,.slice q4 f.other.kids.length l4]) (by simp [results,results94,go_sem,q0,q1,q2,q3',q4',q5,q6,q7,q8,q9,q10,q11]) rfl ⟨[.int .i64 f.code,.string ⟨f.table.toArray⟩,.int .i64 f.row.kind,.int .i64 f.row.n,.string ⟨f.row.s.toArray⟩,.slice p3 f.row.names.length k3,.slice p4 f.row.kids.length k4,.int .i64 f.other.kind,.int .i64 f.other.n,.string ⟨f.other.s.toArray⟩,.slice q3 f.other.names.length l3,.slice q4 f.other.kids.length l4],rfl,?_,HBel.out⟩
 exact ⟨_,_,rfl,HFL.out,Qh.move HFR.out (fun b hb _=>HOth.out b (by have:b<w.heap.size:=hb.2;omega)) (fun _ _ h=>h.1),Qh.move HFO.out (fun b hb _=>HOth.out b (by have:b<w.heap.size:=hb.2;omega)) (fun _ _ h=>h.1)⟩
end Go.Proofs.YtppbaladeefnkaaGreatDoor
