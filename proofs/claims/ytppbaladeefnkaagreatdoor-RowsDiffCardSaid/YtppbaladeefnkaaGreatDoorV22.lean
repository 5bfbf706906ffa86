import Derived.Test.YtppbaladeefnkaaGreatDoorV20
set_option maxRecDepth 100000
set_option maxHeartbeats 400000000
namespace Go.Proofs.YtppbaladeefnkaaGreatDoor
open Go.RowKit Go.Shelf Go.Lib Tryz
def Zl:Rd Rel where
 k:=2
 R S w cs x:=∃ v,cs=[sv x.table,v]∧x.table.length≤1000000∧Sl Ql S w v x.rows∧CapV v x.rows.length
 len h:=by obtain ⟨v,rfl,_⟩:=h;rfl
 frame h hA:=by obtain ⟨v,rfl,h1,h2,h3⟩:=h;exact ⟨v,rfl,h1,h2.frame hA,h3⟩
 mono h hS:=by obtain ⟨v,rfl,h1,h2,h3⟩:=h;exact ⟨v,rfl,h1,h2.mono hS,h3⟩
theorem Gy {S:Nat→Prop} {w:World} {cs:List Value} {x:Rel} (h:Zl.R S w cs x):Z0.R S w cs x:=by obtain ⟨v,rfl,h1,h2,_⟩:=h;exact ⟨v,rfl,h1,h2⟩
theorem Sl.rel {S:Nat→Prop} {w:World} {v:Value} {l:List Rel} (h:Sl Zl S w v l):Sl Z0 S w v l:=by
 obtain ⟨p,cap,h1,h2,h3⟩:=h
 refine ⟨p,cap,h1,h2,fun hne=>?_⟩
 obtain ⟨b,off,e,hS,hb,hc⟩:=h3 hne
 refine ⟨b,off,e,hS,hb,fun i x hx=>?_⟩
 obtain ⟨cs,hcs,hr⟩:=hc i x hx
 exact ⟨cs,hcs,Gy hr⟩
theorem Cs.rel {S:Nat→Prop} {w:World} {css:List (List Value)} {l:List Rel} (h:Cs Zl S w css l):Cs Z0 S w css l:=⟨h.len,fun i c x hc hx=>Gy (h.R i c x hc hx)⟩
theorem Own.rel {E:TypeId} {S:Nat→Prop} {B:Nat} {w:World} {v:Value} {l:List Rel} {css:List (List Value)} (h:Own Zl E S B w v l css):Own Z0 E S B w v l css:=⟨h.row,h.cs.rel⟩
theorem relc_one:∀ S w cs x,Zl.R S w cs x→∀ u ∈ cs,u.oneCell'=true:=fun S w cs x h=>Pz S w cs x (Gy h)
theorem Gh {S:Nat→Prop} {E:TypeId} {B:Nat} {w:World} {g n cap:Nat} {l:List Rel} {css:List (List Value)} {i:Nat} {x:Rel} {rv':Value} {zs:List Val} (hn:l.length=n) (h:Own Zl E S B w (.slice (some ⟨g,0,none⟩) n cap) l css) (hi:l[i]?=some x)
  (hs:Sl Ql (But S (.slice (some ⟨g,0,none⟩) n cap)) w rv' zs) (hc':CapV rv' zs.length):
  ∃ css',Own Zl E S B (w.setCell ⟨g,i*2+1,none⟩ rv') (.slice (some ⟨g,0,none⟩) n cap) (l.set i ⟨x.table,zs⟩) css':=by
 subst hn
 have hil:=(Qj hi).1
 obtain ⟨c,hc⟩:∃ c,css[i]?=some c:=⟨_,Qx (by rw [h.cs.len];exact hil)⟩
 obtain ⟨rv,rfl,htl,_⟩:=h.cs.R i c x hc hi
 have hA:Vm (But S (.slice (some ⟨g,0,none⟩) l.length cap)) w (w.setCell ⟨g,i*2+1,none⟩ rv'):=fun b hS _=>Qg (fun e=>hS.2 (by rw [e];rfl))
 refine ⟨css.set i [sv x.table,rv'],⟨?_,⟨by rw [List.length_set,List.length_set];exact h.cs.len,fun j d y hd hy=>?_⟩⟩⟩
 ·rw [List.length_set,← Em css i _ rv rv' h.cs.all hc]
  exact (h.row.stored (i*2+1) rv').1
 by_cases e:j=i
 ·subst e
  rw [List.getElem?_set_self hil] at hy
  rw [List.getElem?_set_self (by rw [h.cs.len];exact hil)] at hd
  cases hd;cases hy
  exact ⟨rv',rfl,htl,hs.frame hA,hc'⟩
 rw [List.getElem?_set_ne (Ne.symm e)] at hd hy
 exact Zl.frame (h.cs.R j d y hd hy) hA
theorem Own.weak {T:Type} {r:Rd T} {E:TypeId} {S S':Nat→Prop} {B B':Nat} {w:World} {v:Value} {xs:List T} {css:List (List Value)} (h:Own r E S B w v xs css) (hB:B'≤B) (hS:∀ b,b<w.heap.size→S b→S' b):Own r E S' B' w v xs css:=by
 refine ⟨⟨h.row.1,?_⟩,h.cs.move (.refl _ _) (fun b hb hs=>⟨hS b hb hs.1,hs.2⟩)⟩
 rcases h.row.2 with hn | ⟨g,cap,cur,rfl,hg,rest⟩
 ·exact .inl hn
 exact .inr ⟨g,cap,cur,rfl,by omega,rest⟩
def Lj (S:Nat→Prop) (w:World) (l:List Rel) (e:Ending) (w':World):Prop:=∃ p cap css,e=.returned (.slice p l.length cap)∧Own Zl 57 (fun b=>S b∨w.heap.size≤b) w.heap.size w' (.slice p l.length cap) l css∧Below w.heap.size w w'
theorem F6 (S:Nat→Prop) (lv:Value) (l:List Rel) (w:World) (hl0:Sl Zl S w lv l) (hl1:l.length≤1000):
  Calls prog 59 #[lv] w fun e w'=>∃ p cap css,e=.returned (.slice p l.length cap)∧Own Zl 57 (fun b=>S b∧b<w.heap.size) w.heap.size w' (.slice p l.length cap) l css∧Below w.heap.size w w':=by
 have hl:Sl Zl (But (fun b=>S b∧b<w.heap.size) (.slice none 0 0)) w lv l:=hl0.mono (fun b hb h=>⟨⟨h,hb⟩,fun e=>by cases e⟩)
 have HL:=Qq hl
 obtain ⟨p,cap,rfl,_⟩:=hl.len
 clear hl0 hl
 obtain ⟨i0,j1,j2,j3,j4⟩:=Za (P:=prog) (t:=57) (z:=.agg #[.string ⟨#[]⟩,.slice none 0 0]) (n:=2) (b:=40) (by kernel_rfl)
 have HJ:=Qq j1;have HJ2:=Qq j2;have HJ3:=Qq j3;have HJ4:=Qq j4
 clear j1 j2 j3 j4
 obtain ⟨n,hn⟩:=eX (l.length)
 rw [hn] at HL hl1 ⊢
 have hn1:([]:List Rel).length+l.length=n:=by rw [hn];simp
 have HN1:=Qq hn1
 clear hn hn1
 go_enter func59,ntmps59
 go_wp2_with (at_builtin;refine Yq (r:=Zl) (by decide) relc_one rfl (.tmp 4) (.tmp 5) _ rfl 57 i0 (.agg #[.string ⟨#[]⟩,.slice none 0 0]) 40 underlying28 HJ.out HJ2.out HJ3.out HJ4.out rfl (by omega) (fun b=>S b∧b<w.heap.size) w.heap.size w (.slice none 0 0) [] [] rfl (Own.nil _ _ _ _ _) (.slice p n cap) l rfl HL.out n HN1.out (by omega) (by omega) ?_;intro p4 c4 css4 w4 hO4 hL4;have HO4:=Qq hO4;have HL4:=Qq hL4;clear hO4 hL4)
 go_ret
 exact ⟨p4,c4,css4,rfl,HO4.out,HL4.out.below⟩
theorem D9 {l:List Rel} {x:Bs} {v:Val} (h:Ym l x=none):Uv l x v=l:=by unfold Uv;rw [h]
theorem Dn {l:List Rel} {x:Bs} {v:Val} {i:Nat} {r:Rel} (h:Ym l x=some i) (hr:l[i]?=some r):Uv l x v=l.set i ⟨r.table,Vc r.rows v⟩:=by unfold Uv;rw [h];simp [List.getD_eq_getElem?_getD,hr]
theorem Ut (l:List Rel) (x:Bs) (v:Val):(Uv l x v).length=l.length:=by unfold Uv;split <;> simp
theorem Jc (S:Nat→Prop) (lv:Value) (l:List Rel) (x:Bs) (v:Val) (cv:List Value) (w:World) (hl0:Sl Zl S w lv l) (hv0:Qh S w cv v) (hl1:l.length≤1000) (hr1:∀ r ∈ l,r.rows.length≤1000):
  Calls prog 23 #[lv,sv x,.agg cv.toArray] w (Lj S w (Uv l x v)):=by
 have hl:=hl0.up
 have hv:Qh (fun b=>S b∧b<w.heap.size) w cv v:=hv0.move (.refl _ _) (fun b hb h=>⟨h,hb⟩)
 have HCo:=Qq (fun W (hb:Below w.heap.size w W)=>F6 _ lv l W (hl.below hb) hl1)
 obtain ⟨p0,cap0,rfl,_⟩:=hl.len
 obtain ⟨p3,k3,p4,k4,hcv,_⟩:=Qh.cells hv
 have HV:=Qq hv
 simp only [vcs] at hcv
 subst hcv
 clear hl0 hv0 hl hv
 unfold sv
 go_enter func23,ntmps23
 go_wp2_with fail
 refine (HCo.out _ (Qn _ _)).mono ?_
 rintro e w1 ⟨p,cap,css,rfl,hO,hb1⟩
 have hX1:=(hb1.block w.heap.size (by simp)).trans (Qw _ _)
 have hO1:Own Zl 57 (fun b=>S b∧b<w.heap.size) (w.heap.size+1) w1 (.slice p l.length cap) l css:=hO.weak (by simp) (fun b _ h=>h.1)
 have HB1:=Qq ((Qn w _).thn hb1);have HX1:=Qq hX1;have HO1:=Qq hO1
 have hsz1:w.heap.size<w1.heap.size:=Qf hX1
 have HF:=Qq (Uh (fun b=>S b∨w.heap.size≤b) (.slice p l.length cap) l x w1 (hO1.rel.sl (S':=fun b=>S b∨w.heap.size≤b) (by omega) (fun b hb=>.inr (by omega)) (fun b _ h=>.inl h.1)))
 unfold sv at HF
 clear hb1 hX1 hO hO1 HCo
 rcases Vk l x with ⟨hr,hi⟩ | ⟨i,r,hr,hi,hx⟩
 ·have hR:=D9 (v:=v) hr
  rw [hi] at HF
  have HRR:=Qq hR
  clear hr hi hR
  go_wp2_with (go_at_call 37;refine HF.out.mono ?_;rintro e w' ⟨rfl,rfl⟩)
  go_ret
  unfold Lj
  rw [HRR.out]
  exact ⟨p,cap,css,rfl,HO1.out.weak (by omega) (fun b _ h=>.inl h.1),HB1.out⟩
 have hR:=Dn (v:=v) hr hx
 rw [hi] at HF
 have hlen:(Uv l x v).length=l.length:=Ut l x v
 have HRR:=Qq hR;have HLen:=Qq hlen
 have hil:=(Qj hx).1
 have hr2:=hr1 r (Qy hx)
 obtain ⟨g,cap',hpv,hgB,hgs⟩:=HO1.out.row.form (by omega)
 simp only [Value.slice.injEq] at hpv
 obtain ⟨rfl,-,rfl⟩:=hpv
 obtain ⟨c,hc⟩:∃ c,css[i]?=some c:=⟨_,Qx (by rw [HO1.out.cs.len];exact hil)⟩
 obtain ⟨rv,rfl,htl,hrv,hcap⟩:=HO1.out.cs.R i c r hc hx
 have l1:=HO1.out.row.cellAt (i*2+1) (by show _<l.length*2;omega)
 rw [show css.flatten[i*2+1]?=some rv from Yg (k:=2) HO1.out.cs.all hc (j:=1) rfl] at l1
 have f1:=HO1.out.row.frozenAt (i*2+1)
 obtain ⟨q,qc,rfl,_⟩:=hrv.len
 have hi1:(0:Int)≤(i:Int):=by omega
 have hi2:(i:Int)<(l.length:Int):=by omega
 have hi3:decide (0≤(i:Int))=true:=by simp
 obtain ⟨x0,x1,x2,x3,x4⟩:=row5 HX1.out
 have HRV:=Qq (hrv.mono (S':=fun b=>S b∧b<w.heap.size) (fun b _ h=>h.1));have HCap:=Qq hcap;have HX:=Qq hx
 have HPut:=Qq (fun W (hb:Below w1.heap.size w1 W)=>put_any (fun b=>S b∧b<w.heap.size) (.slice q r.rows.length qc) r.rows v [.int .i64 v.kind,.int .i64 v.n,.string ⟨v.s.toArray⟩,.slice p3 v.names.length k3,.slice p4 v.kids.length k4] W ((HRV.out).below hb) HCap.out (HV.out.move (.of_below (HB1.out.thn hb)) (fun _ _ h=>h)) hr2)
 clear hr hi hR hlen hx hc hrv hcap
 go_upto_region 4 with (go_at_call 37;refine HF.out.mono ?_;rintro e w' ⟨rfl,rfl⟩)
 go_region_with (go_at_call 60;refine (HPut.out _ (Qz _ _).drew).mono ?_;rintro e w5 ⟨p5,c5,rfl,hc5,hs5,hb5⟩;have hB5:=((Qz _ w1).drew).thn hb5;have HS5:=Qq hs5;have HC5:=Qq hc5;have HB5:=Qq hB5;have f5:=(hB5.frozen (p:=⟨g,i*2+1,none⟩) hgs).trans f1;have l5:=(hB5.cell (p:=⟨g,i*2+1,none⟩) hgs).trans l1;clear hs5 hc5 hb5 hB5)
 all_goals
  go_wp2_with fail
  go_ret
  obtain ⟨css',hO6⟩:=Gh (zs:=Vc r.rows v) rfl ((HO1.out.weak (S':=fun b=>S b∨w.heap.size≤b) (B':=w.heap.size) (by omega) (fun b _ h=>.inl h.1)).below HB5.out) HX.out (rv':=.slice p5 (Vc r.rows v).length c5) (HS5.out.mono (S':=But (fun b=>S b∨w.heap.size≤b) (.slice (some ⟨g,0,none⟩) l.length cap)) (fun b _ h=>by
   rcases h with h | h
   ·exact ⟨.inl h.1,fun e=>by have e':b=g:=Qb e;have:=h.2;omega⟩
   have h':w1.heap.size≤b:=by simpa using h
   exact ⟨.inr (by omega),fun e=>by have e':b=g:=Qb e;omega⟩)) ⟨_,_,rfl,HC5.out⟩
  unfold Lj
  rw [HLen.out,HRR.out]
  exact ⟨_,_,css',rfl,hO6,(HB1.out.thn HB5.out).setCell (p:=⟨g,i*2+1,none⟩) (by show w.heap.size≤g;omega) _⟩
theorem L0 {A B:Type} (p:A→B→Bool) {a:List A} {b:List B} {k:Nat} {x:A} {y:B} (hx:a[k]?=some x) (hy:b[k]?=some y):eqL p (a.drop k) (b.drop k)=(p x y&&eqL p (a.drop (k+1)) (b.drop (k+1))):=by
 obtain ⟨hk,rfl⟩:=Qj hx
 obtain ⟨hk',rfl⟩:=Qj hy
 rw [List.drop_eq_getElem_cons hk,List.drop_eq_getElem_cons hk'];rfl
theorem Jp (S S':Nat→Prop) (av bv:Value) (a b:List Val) (w:World) (ha:Sl Ql S w av a) (hb:Sl Ql S' w bv b):
  Calls prog 13 #[av,bv] w fun e w'=>e=.returned (.bool (eqL eqv a b))∧Gr w w':=by
 obtain ⟨pa,ca,rfl,hla⟩:=ha.len
 obtain ⟨pb,cb,rfl,hlb⟩:=hb.len
 have HA:=Qq ha;have HB:=Qq hb
 have mixed:prog.follows .mixedOrders=true:=by kernel_rfl
 obtain ⟨r,hr⟩:=eX (eqL eqv a b)
 rw [hr]
 have HR:=Qq hr
 clear ha hb hr
 by_cases hlen:a.length=b.length
 ·obtain ⟨n,hn⟩:=eX (a.length)
  have hm:b.length=n:=by omega
  have HN:=Qq hn;have HM:=Qq hm
  rw [hn] at HA hla ⊢
  rw [hm] at HB hlb ⊢
  have hq:((n:Int) != (n:Int))=false:=by simp
  clear hn hm hlen
  go_enter func13,ntmps13
  go_wp2_with fail
  go_loopw [5] (fun i wr=>∃ k:Nat,k≤n∧i=.int .i64 k∧Aside (eqL eqv (a.drop k) (b.drop k)=r)∧Aside (Gr w wr)) (fun i _=>n - (intOf i).toNat)
  case atStart=>exact ⟨0,Q8 _,rfl,HR.out,Gr.refl _⟩
  obtain ⟨k,hk,rfl,A,hG⟩:=hrel
  have HG:=Qq (show Gr w wr from hG);have HE:=Qq (show eqL eqv (a.drop k) (b.drop k)=r from A)
  clear hG A
  by_cases hlt:k<n
  ·have hi1:(0:Int)≤(k:Int):=by omega
   have hi2:(k:Int)<(n:Int):=by omega
   obtain ⟨x,hx⟩:∃ x,a[k]?=some x:=⟨_,Qx (by rw [HN.out];exact hlt)⟩
   obtain ⟨y,hy⟩:∃ y,b[k]?=some y:=⟨_,Qx (by rw [HM.out];exact hlt)⟩
   obtain ⟨ga,oa,p3,k3,p4,k4,rfl,hga,hva,d0,d1,d2,d3,d4⟩:=(HA.out.below HG.out.bl).val hx
   obtain ⟨gb,ob,q3,l3,q4,l4,rfl,hgb,hvb,e0,e1,e2,e3,e4⟩:=(HB.out.below HG.out.bl).val hy
   have hcg:=Uk hva hvb
   have D0:=Qs hga d0;have D1:=Qs hga d1;have D2:=Qs hga d2;have D3:=Qs hga d3;have D4:=Qs hga d4
   have E0:=Qs hgb e0;have E1:=Qs hgb e1;have E2:=Qs hgb e2;have E3:=Qs hgb e3;have E4:=Qs hgb e4
   have hce:=Hi x y
   have hst:=L0 eqv hx hy
   rw [HE.out] at hst
   generalize Z1 x y=c at hcg hce
   have HCE:=Qq hce;have HST:=Qq hst
   clear hx hy hva hvb d0 d1 d2 d3 d4 e0 e1 e2 e3 e4 hce hst
   by_cases hq:(c==0)=true
   ·have hq2:(c != 0)=false:=by simpa using hq
    have hst2:eqL eqv (a.drop (k+1)) (b.drop (k+1))=r:=by rw [HST.out,← HCE.out,hq,Bool.true_and]
    have HST2:=Qq hst2
    clear hst2 hq
    go_wp2_with fail
    go_quiet_grown (first | (go_at_call 17;refine Calls.grown_of (hcg _ _)))
    go_wp2_with fail
    go_roundw
    case measure=>simp [intOf];omega
    case rel=>exact ⟨k+1,by omega,by go_num,HST2.out,HG.out.thn (Z7 _ _ _)⟩
   have hq2:(c != 0)=true:=by simpa using hq
   have hr0:r=false:=by rw [HST.out,← HCE.out,Bool.not_eq_true _ |>.mp hq,Bool.false_and]
   subst hr0
   clear hq
   go_wp2_with fail
   go_quiet_grown (first | (go_at_call 17;refine Calls.grown_of (hcg _ _)))
   go_wp2_with fail
   go_ret
   exact ⟨rfl,HG.out.thn (Z7 _ _ _)⟩
  have hltz:¬ (k:Int)<(n:Int):=by omega
  have:k=n:=by omega
  subst this
  have hr0:r=true:=by
   rw [← HE.out,List.drop_eq_nil_of_le (by rw [HN.out];exact Q9 _),List.drop_eq_nil_of_le (by rw [HM.out];exact Q9 _)];rfl
  subst hr0
  go_wp2_with fail
  go_ret
  exact ⟨rfl,HG.out⟩
 have hr0:r=false:=by rw [← HR.out];exact Ud eqv a b hlen
 subst hr0
 have hq:((a.length:Int) != (b.length:Int))=true:=by rw [bne_iff_ne];omega
 clear hlen
 go_enter func13,ntmps13
 go_wp2_with fail
 go_ret
 exact ⟨rfl,Gr.refl _⟩
theorem Mq {s:Sc} {k:Nat} {x:Tbl} (hx:s.tables[k]?=some x):(Yh s).take (k+1)=(Yh s).take k++[⟨x.name,[]⟩]:=by
 unfold Yh
 rw [← List.map_take,← List.map_take]
 obtain ⟨hk,rfl⟩:=Qj hx
 rw [List.take_succ_eq_append_getElem hk,List.map_append];rfl
theorem O4 (S:Nat→Prop) (s:Sc) (cs:List Value) (w:World) (hs:Yn S w cs s) (hl0:s.tables.length≤1000):
  Calls prog 30 #[.agg cs.toArray] w (Lj (fun _=>False) w (Yh s)):=by
 obtain ⟨uv,tv,rfl,hu,ht0⟩:=hs
 have ht:Sl Qt (fun b=>b<w.heap.size) w tv s.tables:=ht0.mono (fun b hb _=>hb)
 obtain ⟨up,uc,rfl,_⟩:=hu.len
 obtain ⟨tp,tc,rfl,_⟩:=ht.len
 have HT:=Qq ht
 clear hu ht ht0
 obtain ⟨i0,j1,j2,j3,j4⟩:=Za (P:=prog) (t:=57) (z:=.agg #[.string ⟨#[]⟩,.slice none 0 0]) (n:=2) (b:=40) (by kernel_rfl)
 have HJ:=Qq j1;have HJ2:=Qq j2;have HJ3:=Qq j3;have HJ4:=Qq j4
 clear j1 j2 j3 j4
 unfold Lj
 have hle:(Yh s).length=s.tables.length:=by unfold Yh;simp
 rw [hle]
 obtain ⟨n,hn⟩:=eX (s.tables.length)
 rw [hn] at HT hl0 ⊢
 have HN:=Qq hn;have HLe:=Qq hle
 clear hn hle
 go_enter func30,ntmps30
 go_wp2_with fail
 generalize hW1:w.alloc _=W1
 have hb1:=eqB hW1 (Qn _ _)
 have hX1:=eqH (b:=w.heap.size) hW1 (Qw _ _)
 have HB1:=Qq hb1;have HX1:=Qq hX1
 clear hW1 hb1 hX1
 go_loopw [3,4] (fun o i wr=>∃ (k:Nat) (p:Option Addr) (cap:Nat),k≤n∧i=.int .i64 k∧o=.slice p k cap∧Below (w.heap.size+1) W1 wr∧(∃ css,Own Zl 57 (fun _=>False) (w.heap.size+1) wr (.slice p k cap) ((Yh s).take k) css)) (fun _ i _=>n - (intOf i).toNat)
 case atStart=>exact ⟨0,none,0,Q8 _,rfl,rfl,Qz _ _,[],Own.nil _ _ _ _ _⟩
 obtain ⟨k,p,cap,hkn,rfl,rfl,hBr,css,hO⟩:=hrel
 have hsz:=Qf HX1.out
 have hXr:=kE hBr (by omega) HX1.out
 have hbw:Below w.heap.size w wr:=HB1.out.trans (hBr.mono (by omega))
 have hsr:=hBr.size
 have HBr:=Qq hBr;have HBw:=Qq hbw;have HO:=Qq hO
 obtain ⟨c0,c1⟩:=row2 hXr
 clear hXr hBr hbw hO
 have hll:((Yh s).take k).length=k:=by rw [List.length_take,HLe.out,HN.out];omega
 have HLL:=Qq hll
 clear hll
 by_cases hlt:k<n
 ·have hi1:(0:Int)≤(k:Int):=by omega
  have hi2:(k:Int)<(n:Int):=by omega
  obtain ⟨x,hx⟩:∃ x,s.tables[k]?=some x:=⟨_,Qx (by rw [HN.out];exact hlt)⟩
  obtain ⟨b,off,cs,rfl,hbl,_,_,hR,hc⟩:=(HT.out.below HBw.out).elem hx
  obtain ⟨cp9,cc9,kp9,kc9,rp9,rc9,k9,s19,n9,s29,p19,n19,c19,p29,n29,c29,p39,n39,c39,a9,z9,hcs,hxl,_⟩:=Zk hR
  simp only [tcs] at hcs
  subst hcs
  have d0:=hc 0 _ rfl
  rw [show Qt.k=13 from rfl,Nat.add_zero] at d0
  have hR1:Zl.R (But (fun _=>False) (.slice p k cap)) wr [.string ⟨x.name.toArray⟩,.slice none 0 0] ⟨x.name,[]⟩:=⟨_,rfl,hxl,Sl.nil _ _ _,⟨_,_,rfl,Q9 _⟩⟩
  have HR1:=Qq hR1
  have htk:=Mq hx
  have HTK:=Qq htk
  clear hx hc hR hR1 htk
  go_wp2_with (at_builtin;refine Zm (r:=Zl) (by decide) rfl (.tmp 12) (.tmp 20) _ rfl 57 i0 (.agg #[.string ⟨#[]⟩,.slice none 0 0]) 40 underlying28 HJ.out HJ2.out HJ3.out HJ4.out rfl (by omega) (fun _=>False) (w.heap.size+1) wr (.slice p k cap) ((Yh s).take k) css [.string ⟨x.name.toArray⟩,.slice none 0 0] ⟨x.name,[]⟩ rfl HO.out rfl HR1.out (by simp [Value.oneCell']) k HLL.out (by omega) (by omega) ?_;intro p7 cap7 css7 w7 hO7 hL7;have HO7:=Qq hO7;have HL7:=Qq hL7;clear hO7 hL7)
  go_roundw
  case measure=>simp [intOf];omega
  case rel=>
   refine ⟨k+1,p7,cap7,by omega,by go_num,rfl,HBr.out.trans HL7.out.below,css7,?_⟩
   rw [HTK.out];exact HO7.out
 have hkn':k=n:=by omega
 subst hkn'
 go_wp2_with fail
 go_ret
 have htk:(Yh s).take k=Yh s:=List.take_of_length_le (by rw [HLe.out,HN.out];exact Q9 _)
 have hO2:=HO.out
 rw [htk] at hO2
 exact ⟨p,cap,css,rfl,hO2.weak (by omega) (fun b _ h=>h.elim),HBw.out⟩
theorem V6 {P:Program} (k:Nat) (w:World) (dT sT ty elem:TypeId) (g o dLen dCap:Nat) (a:Addr) (sLen sCap:Nat) (cur:Array Value) (t:TypeId) (cs:List Value)
  (hu:P.underlying dT=some (.slice elem)) (hs:(P.info? elem).map (·.size)=some k)
  (hg:w.heap[g]?=some (.cells cur t (0,0))) (hn:cs.length=Nat.min sLen dLen*k)
  (hsrc:∀ j v,cs[j]?=some v→w.cell? (a.add j)=some v) (hfit:o+cs.length≤cur.size) (h1:∀ v ∈ cs,v.oneCell'=true):
  (Builtin.copy_ #[dT,sT] ty #[.slice (some ⟨g,o,none⟩) dLen dCap,.slice (some a) sLen sCap]).run P w=
   .ok (goInt (Nat.min sLen dLen)) (w.setRow g (cur.toList.take o++cs++cur.toList.drop (o+cs.length)).toArray):=by
 have hl:=run_loadCells_list (P:=P) w a cs hsrc
 have hst:=run_storeCells_at P g o t cs 0 cur w hg (by simpa using hfit) h1
 cases hq:P.info? elem with
 | none=>simp [hq] at hs
 | some i=>
  have hi:i.size=k:=by simpa [hq] using hs
  simp [Builtin.copy_,run_underlying hu,Builtin.lenOf,Builtin.firstCells,sizeOf,typeInfo,hq,hi,← hn,hl,hst]
theorem insRoom (S:Nat→Prop) (B:Nat) (w:World) (g n cap i:Nat) (xs:List Val) (css:List (List Value)) (y:Val) (cy:List Value) (qb qo c:Nat) (hO:Own Ql 44 S B w (.slice (some ⟨g,0,none⟩) n cap) xs css) (hn:xs.length=n) (hi:i<n) (hroom:n+1≤cap) (hqb:qb≠g)
  (hy:Qh (But S (.slice (some ⟨g,0,none⟩) n cap)) w cy y) (hcy:∀ j u,cy[j]?=some u→w.cell? ⟨qb,qo+j,none⟩=some u) (hl:n≤100000)
  (tA:TypeId) (kA:Nat) (hsa:w.shape? qb=some (tA,kA)) (hfa:w.frozen? ⟨qb,qo,none⟩=false) (hfe:w.frozen? ⟨qb,kA,none⟩=false):
  Calls prog 58 #[.slice (some ⟨g,0,none⟩) n cap,.int .i64 i,.slice (some ⟨qb,qo,none⟩) 1 c] w (fun e w'=>e=.returned (.slice (some ⟨g,0,none⟩) (n+1) cap)∧∃ X,w'.heap[g]?=some (.cells X 44 (0,0))∧X.size=cap*5∧X.toList.take ((n+1)*5)=(css.take i).flatten++cy++(css.drop i).flatten∧(∀ k,k≠g→w'.heap[k]?=w.heap[k]?)∧w'.heap.size=w.heap.size∧w.grownBy w' (some g)):=by
 obtain ⟨i0,j1,j2,j3,j4⟩:=Za (P:=prog) (t:=44) (z:=.agg zV) (n:=5) (b:=80) (by kernel_rfl)
 have mixed:prog.follows .mixedOrders=true:=by kernel_rfl
 have hsz:(prog.info? 44).map (·.size)=some 5:=by rw [j1];simp [j3]
 rcases hO.row.2 with ⟨h,_⟩ | ⟨g',cap',cur,hv,hgB,hgc,hnc,hcm,hcs,htk⟩
 ·cases h
 simp only [Value.slice.injEq,Option.some.injEq,Addr.mk.injEq] at hv
 obtain ⟨⟨rfl,-,-⟩,-,rfl⟩:=hv
 have hal:=hO.cs.all
 have hflat:=hO.cs.flat
 have hcl:css.length=n:=by rw [hO.cs.len,hn]
 obtain ⟨A,hA⟩:=eX ((css.take i).flatten)
 obtain ⟨D,hD⟩:=eX ((css.drop i).flatten)
 have hAD:css.flatten=A++D:=by rw [← hA,← hD,← List.flatten_append,List.take_append_drop]
 have hAl:A.length=i*5:=by rw [← hA,Xn (fun c hc=>hal c (List.mem_of_mem_take hc)),List.length_take,hcl,Nat.min_eq_left (by omega)];rfl
 have hDl:D.length=(n - i)*5:=by rw [← hD,Xn (fun c hc=>hal c (List.mem_of_mem_drop hc)),List.length_drop,hcl];rfl
 have hcells:∀ j v,(A++D)[j]?=some v→w.cell? ⟨g,j,none⟩=some v:=by
  intro j v hj
  rw [← hAD,← htk,List.getElem?_take] at hj
  split at hj
  ·rw [Qk w g j cur _ (0,0) hgc];simpa using hj
  cases hj
 have h1D:∀ v ∈ D,v.oneCell'=true:=by
  intro u hu
  rw [← hD] at hu
  obtain ⟨cc,hcm',huc⟩:=List.mem_flatten.1 hu
  obtain ⟨j,hj⟩:=List.getElem?_of_mem (List.mem_of_mem_drop hcm')
  have hjl:=(Qj hj).1
  exact Zu _ w cc _ (hO.cs.R j cc _ hj (Qx (by rw [← hO.cs.len];exact hjl))) u huc
 have hcyl:cy.length=5:=Ql.len hy
 have h1y:∀ v ∈ cy,v.oneCell'=true:=Zu _ w cy y hy
 have hov:∀ lb cb,(callFunc 102 #[.slice (some ⟨qb,qo,none⟩) 1 c,.slice (some ⟨g,(i+1)*5,none⟩) lb cb]).run prog w=.ok (.value (.bool false)) w:=fun lb cb=>by
  rw [run_callFunc_extern func102 (by kernel_rfl) (by kernel_rfl) (by kernel_rfl) (e:=Extern.SlicesOverlaps.overlaps #[40,40] #[4]) (by kernel_rfl),
   Lib.run_overlaps_apart w 40 4 44 underlying40 5 sizeOf44 ⟨qb,qo,none⟩ ⟨g,(i+1)*5,none⟩ 1 c lb cb hqb tA 44 kA (cap*5) hsa (by unfold World.shape?;rw [hgc];simp [hcs];rfl) (by omega) hfa hfe]
  rfl
 have hk5:Ql.k=5:=rfl
 have hm1:Nat.min (n+1 - i) (n+1 - (i+1))=n - i:=(show min (n+1 - i) (n+1 - (i+1))=n - i by omega)
 have hm2:Nat.min 1 (n+1 - i)=1:=(show min 1 (n+1 - i)=1 by omega)
 rw [hk5] at hcs htk hflat
 rw [hn] at htk
 have hcsl:cur.toList.length=cap*5:=by simpa using hcs
 have hDat:∀ j v,D[j]?=some v→w.cell? ⟨g,i*5+j,none⟩=some v:=fun j v hj=>hcells _ v (by rw [List.getElem?_append_right (by omega),hAl,Nat.add_sub_cancel_left];exact hj)
 obtain ⟨X1,hX1⟩:∃ X1,X1=(cur.toList.take ((i+1)*5)++D++cur.toList.drop ((i+1)*5+D.length)).toArray:=⟨_,rfl⟩
 have hcp1:∀ ty dc sc,(Builtin.copy_ #[40,40] ty #[.slice (some ⟨g,(i+1)*5,none⟩) (n+1 - (i+1)) dc,.slice (some ⟨g,i*5,none⟩) (n+1 - i) sc]).run prog w.drew=.ok (goInt (n - i:Nat)) (w.drew.setRow g X1):=fun ty dc sc=>by
  have h:=V6 (P:=prog) 5 w.drew 40 40 ty 44 g ((i+1)*5) (n+1 - (i+1)) dc ⟨g,i*5,none⟩ (n+1 - i) sc cur 44 D underlying40 hsz hgc (by rw [hDl,hm1]) (fun j v hj=>by rw [Addr.add_lit];exact hDat j v hj) (by simp only [hDl,hcs];omega) h1D
  rw [← hX1,hm1] at h
  exact h
 obtain ⟨W1,hW1⟩:∃ W1,W1=w.drew.setRow g X1:=⟨_,rfl⟩
 have hg1:W1.heap[g]?=some (.cells X1 44 (0,0)):=by rw [hW1];exact setRow_heap _ _ _ _ _ _ hgc
 have ho1:∀ k,k≠g→W1.heap[k]?=w.heap[k]?:=fun k hk=>by rw [hW1,setRow_other _ _ _ _ hk];rfl
 rw [← hW1] at hcp1
 have hX1l:X1.toList.length=cap*5:=by rw [hX1];simp only [List.length_append,List.length_take,List.length_drop,hcsl,hDl];rw [Nat.min_eq_left (by omega)];omega
 have hX1s:X1.size=cap*5:=by simpa using hX1l
 obtain ⟨X2,hX2⟩:∃ X2,X2=(X1.toList.take (i*5)++cy++X1.toList.drop (i*5+cy.length)).toArray:=⟨_,rfl⟩
 have hcp2:∀ ty dc,(Builtin.copy_ #[40,40] ty #[.slice (some ⟨g,i*5,none⟩) (n+1 - i) dc,.slice (some ⟨qb,qo,none⟩) 1 c]).run prog W1=.ok (goInt 1) (W1.setRow g X2):=fun ty dc=>by
  have h:=V6 (P:=prog) 5 W1 40 40 ty 44 g (i*5) (n+1 - i) dc ⟨qb,qo,none⟩ 1 c X1 44 cy underlying40 hsz hg1 (by rw [hcyl,hm2]) (fun j v hj=>by rw [Addr.add_lit];exact (World.cell?_of_block (ho1 qb hqb)).trans (hcy j v hj)) (by rw [hcyl,hX1s];omega) h1y
  rw [← hX2,hm2] at h
  exact h
 have hend:(W1.setRow g X2).heap[g]?=some (.cells X2 44 (0,0))∧X2.size=cap*5∧X2.toList.take ((n+1)*5)=A++cy++D∧(∀ k,k≠g→(W1.setRow g X2).heap[k]?=w.heap[k]?)∧(W1.setRow g X2).heap.size=w.heap.size∧w.grownBy (W1.setRow g X2) (some g):=by
  have hs2:(W1.setRow g X2).heap.size=w.heap.size:=by rw [hW1];simp [World.setRow]
  refine ⟨setRow_heap _ _ _ _ _ _ hg1,?_,?_,fun k hk=>(setRow_other _ _ _ _ hk).trans (ho1 k hk),hs2,⟨by rw [hW1];rfl,by rw [hW1];rfl,by rw [hW1];rfl,by rw [hs2];exact Q9 _,fun k _ hk=>(setRow_other _ _ _ _ (fun e=>hk (by rw [e]))).trans (ho1 k (fun e=>hk (by rw [e])))⟩⟩
  ·rw [hX2];simp only [List.size_toArray,List.length_append,List.length_take,List.length_drop,hX1l,hcyl];rw [Nat.min_eq_left (by omega)];omega
  have hcA:cur.toList.take (i*5)=A:=by
   have:(cur.toList.take (n*5)).take (i*5)=A:=by rw [htk,hAD,List.take_append_of_le_length (by omega),List.take_of_length_le (by omega)]
   rwa [List.take_take,Nat.min_eq_left (by omega)] at this
  have e1:X1.toList.take (i*5)=A:=by
   rw [hX1,List.toList_toArray,List.append_assoc,List.take_append_of_le_length (by rw [List.length_take,hcsl,Nat.min_eq_left (by omega)];omega),List.take_take,Nat.min_eq_left (by omega),hcA]
  have e2:X1.toList.drop (i*5+cy.length)=D++cur.toList.drop ((i+1)*5+D.length):=by
   rw [hX1,List.toList_toArray,List.append_assoc,hcyl,List.drop_append_of_le_length (by rw [List.length_take,hcsl,Nat.min_eq_left (by omega)];omega),List.drop_eq_nil_of_le (by rw [List.length_take,hcsl,Nat.min_eq_left (by omega)];omega),List.nil_append]
  rw [hX2,List.toList_toArray,e1,e2,← List.append_assoc,List.take_append_of_le_length (by simp only [List.length_append,hAl,hcyl,hDl];omega),List.take_of_length_le (by simp only [List.length_append,hAl,hcyl,hDl];omega)]
 rw [show css.take i=css.take i from rfl] at hA
 rw [hA,hD]
 have HE:=Qq hend
 clear hend hW1 hX1 hX2 hX1l hX1s hm1 hm2 hDat hcells htk hcs hcsl hAD hA hD hO hal hy hcy h1D h1y ho1 hg1
 have hz2:¬ ((i:Int)=(n:Int)):=by omega
 have hw1:IntKind.i64.wrap ((i:Int)+1)=(i:Int)+1:=by rw [IntKind.wrap_i64];omega
 have hw2:IntKind.i64.wrap ((n:Int)+1)=(n:Int)+1:=by rw [IntKind.wrap_i64];omega
 have hr3:¬ ((cap:Int)<(n:Int)+1):=by omega
 have hb1:(0:Int)≤(i:Int)+1:=by omega
 have hb0:(0:Int)≤(i:Int):=by omega
 have hb4:¬ (cap=i+1):=by omega
 have hb5:¬ (cap=i):=by omega
 have htn:((i:Int)+1).toNat=i+1:=by omega
 have hin:i≤n:=by omega
 have hb6:(i:Int)≤(n:Int)+1:=by omega
 go_enter func58,ntmps58
 go_wp2_with (simp only [hov])
 go_region_law_o (refine step_copy_runI rfl _ _ 40 40 rfl _ _ (by simp [Act.eval,Act.put]) (by simp [Act.eval,Act.put]) (hcp1 _ (cap - (i+1)) (cap - i)) ?_)
 go_wp2_with (at_builtin;refine wpList_copy_runI _ rfl _ _ 40 40 rfl _ _ (by simp [Act.eval,Act.put]) (by simp [Act.eval,Act.put]) (hcp2 _ (cap - i)) ?_)
 go_ret
 exact ⟨rfl,_,HE.out⟩
theorem insGrow (S:Nat→Prop) (B:Nat) (w:World) (g n i:Nat) (xs:List Val) (css:List (List Value)) (y:Val) (cy:List Value) (qb qo c:Nat) (hO:Own Ql 44 S B w (.slice (some ⟨g,0,none⟩) n n) xs css) (hn:xs.length=n) (hi:i<n)
  (hy:Qh (But S (.slice (some ⟨g,0,none⟩) n n)) w cy y) (hcy:∀ j u,cy[j]?=some u→w.cell? ⟨qb,qo+j,none⟩=some u) (hl:n≤100000)
  (hqw:qb<w.heap.size):
  Calls prog 58 #[.slice (some ⟨g,0,none⟩) n n,.int .i64 i,.slice (some ⟨qb,qo,none⟩) 1 c] w (fun e w'=>∃ G,e=.returned (.slice (some ⟨w.heap.size,0,none⟩) (n+1) G)∧n+1≤G∧G≤maxLen∧∃ X,w'.heap[w.heap.size]?=some (.cells X 44 (0,0))∧X.size=G*5∧X.toList.take ((n+1)*5)=(css.take i).flatten++cy++(css.drop i).flatten∧(∀ k,k<w.heap.size→w'.heap[k]?=w.heap[k]?)∧w'.heap.size=w.heap.size+1∧w.grownBy w' (some g)):=by
 obtain ⟨i0,j1,j2,j3,j4⟩:=Za (P:=prog) (t:=44) (z:=.agg zV) (n:=5) (b:=80) (by kernel_rfl)
 have mixed:prog.follows .mixedOrders=true:=by kernel_rfl
 have hsz:(prog.info? 44).map (·.size)=some 5:=by rw [j1];simp [j3]
 rcases hO.row.2 with ⟨h,_⟩ | ⟨g',cap',cur,hv,hgB,hgc,hnc,hcm,hcs,htk⟩
 ·cases h
 simp only [Value.slice.injEq,Option.some.injEq,Addr.mk.injEq] at hv
 obtain ⟨⟨rfl,-,-⟩,-,rfl⟩:=hv
 have hal:=hO.cs.all
 have hflat:=hO.cs.flat
 have hcl:css.length=n:=by rw [hO.cs.len,hn]
 obtain ⟨A,hA⟩:=eX ((css.take i).flatten)
 obtain ⟨D,hD⟩:=eX ((css.drop i).flatten)
 have hAD:css.flatten=A++D:=by rw [← hA,← hD,← List.flatten_append,List.take_append_drop]
 have hAl:A.length=i*5:=by rw [← hA,Xn (fun c hc=>hal c (List.mem_of_mem_take hc)),List.length_take,hcl,Nat.min_eq_left (by omega)];rfl
 have hDl:D.length=(n - i)*5:=by rw [← hD,Xn (fun c hc=>hal c (List.mem_of_mem_drop hc)),List.length_drop,hcl];rfl
 have hcells:∀ j v,(A++D)[j]?=some v→w.cell? ⟨g,j,none⟩=some v:=by
  intro j v hj
  rw [← hAD,← htk,List.getElem?_take] at hj
  split at hj
  ·rw [Qk w g j cur _ (0,0) hgc];simpa using hj
  cases hj
 have h1D:∀ v ∈ D,v.oneCell'=true:=by
  intro u hu
  rw [← hD] at hu
  obtain ⟨cc,hcm',huc⟩:=List.mem_flatten.1 hu
  obtain ⟨j,hj⟩:=List.getElem?_of_mem (List.mem_of_mem_drop hcm')
  have hjl:=(Qj hj).1
  exact Zu _ w cc _ (hO.cs.R j cc _ hj (Qx (by rw [← hO.cs.len];exact hjl))) u huc
 have hcyl:cy.length=5:=Ql.len hy
 have h1y:∀ v ∈ cy,v.oneCell'=true:=Zu _ w cy y hy
 have hk5:Ql.k=5:=rfl
 have hm1:Nat.min (n+1 - i) (n+1 - (i+1))=n - i:=(show min (n+1 - i) (n+1 - (i+1))=n - i by omega)
 have hm2:Nat.min 1 (n+1 - i)=1:=(show min 1 (n+1 - i)=1 by omega)
 rw [hk5] at hcs htk hflat
 rw [hn] at htk
 have hcsl:cur.toList.length=n*5:=by simpa using hcs
 have hDat:∀ j v,D[j]?=some v→w.cell? ⟨g,i*5+j,none⟩=some v:=fun j v hj=>hcells _ v (by rw [List.getElem?_append_right (by omega),hAl,Nat.add_sub_cancel_left];exact hj)
 have h1A:∀ v ∈ A,v.oneCell'=true:=by
  intro u hu
  rw [← hA] at hu
  obtain ⟨cc,hcm',huc⟩:=List.mem_flatten.1 hu
  obtain ⟨j,hj⟩:=List.getElem?_of_mem (List.mem_of_mem_take hcm')
  have hjl:=(Qj hj).1
  exact Zu _ w cc _ (hO.cs.R j cc _ hj (Qx (by rw [← hO.cs.len];exact hjl))) u huc
 have hgw:g<w.heap.size:=(Array.getElem?_eq_some_iff.1 hgc).1
 have hold:(Builtin.firstCells i0.size i (.slice (some ⟨g,0,none⟩) i n)).run prog w.drew=.ok A.toArray w.drew:=by
  rw [j3]
  exact run_firstCells_some w.drew 5 i ⟨g,0,none⟩ i n A hAl (fun j v hj=>by
   rw [Addr.add_lit,Nat.zero_add]
   exact hcells j v (by rw [List.getElem?_append_left (Qj hj).1];exact hj))
 have hik:i+(n+1 - i)=n+1:=by omega
 have hkk:(n:Int)+1 - (i:Int)=((n+1 - i:Nat):Int):=by omega
 obtain ⟨G,hG⟩:∃ G,G=grownCap w (n+1) n 44:=⟨_,rfl⟩
 obtain ⟨ROW,hROW⟩:∃ ROW:Array Value,ROW=A.toArray++Builtin.zeroCells (Value.agg zV).cells (n+1 - i)++Builtin.zeroCells (Value.agg zV).cells (G - (n+1)):=⟨_,rfl⟩
 have hrz:∀ ty,(Builtin.append_ #[40,3] ty #[.slice (some ⟨g,0,none⟩) i n,.int .i64 ((n:Int)+1 - (i:Int))]).run prog w=.ok (.slice (some ⟨w.heap.size,0,none⟩) (n+1) G) (w.drew.alloc (.cells ROW 44)):=fun ty=>by
  have h:=Lib.run_append_grow_zeros w 40 3 ty 44 i0 _ .i64 .i64 underlying40 underlying3 j1 j2 (some ⟨g,0,none⟩) i n A hold (n+1 - i) (by omega) (by rw [j3];decide) (by omega) (by omega) (by rw [j4];omega) (by rw [j4,hik];exact growslice_fits (by omega) (by omega))
  rw [hik,← hG,← hROW] at h
  rw [hkk]
  exact h
 have hGn:n+1≤G:=by rw [hG];exact grownCap_ge w _ _ _
 have hGm:G≤maxLen:=by rw [hG];exact grownCap_le_maxLen w (n+1) n _ (by unfold maxLen;omega)
 have hRs:ROW.size=G*5:=by
  rw [hROW]
  simp [Builtin.zeroCells,Value.cells,hAl]
  omega
 have hRA:ROW.toList.take (i*5)=A:=by
  rw [hROW]
  simp only [Array.toList_append,List.append_assoc]
  rw [List.take_append_of_le_length (by omega),List.take_of_length_le (by omega)]
 obtain ⟨W1,hW1⟩:∃ W1,W1=w.drew.alloc (.cells ROW 44):=⟨_,rfl⟩
 rw [← hW1] at hrz
 have hg1:W1.heap[w.heap.size]?=some (.cells ROW 44 (0,0)):=by rw [hW1];exact Qw w.drew _
 have ho1:∀ k,k<w.heap.size→W1.heap[k]?=w.heap[k]?:=fun k hk=>by rw [hW1];exact Go.heap_alloc_old w.drew _ hk
 have hs1:W1.heap.size=w.heap.size+1:=by rw [hW1];simp
 have hgr1:w.grownBy W1 (some g):=by rw [hW1];exact ⟨rfl,rfl,rfl,by simp,fun k hk _=>Go.heap_alloc_old w.drew _ hk⟩
 clear hW1
 have hm1:Nat.min 1 (n+1 - i)=1:=(show min 1 (n+1 - i)=1 by omega)
 have hm2:Nat.min (n - i) (n+1 - (i+1))=n - i:=(show min (n - i) (n+1 - (i+1))=n - i by omega)
 obtain ⟨X1,hX1⟩:∃ X1,X1=(ROW.toList.take (i*5)++cy++ROW.toList.drop (i*5+cy.length)).toArray:=⟨_,rfl⟩
 have hcp1:∀ ty,(Builtin.copy_ #[40,40] ty #[.slice (some ⟨w.heap.size,i*5,none⟩) (n+1 - i) (G - i),.slice (some ⟨qb,qo,none⟩) 1 c]).run prog W1=.ok (goInt 1) (W1.setRow w.heap.size X1):=fun ty=>by
  have h:=V6 (P:=prog) 5 W1 40 40 ty 44 w.heap.size (i*5) (n+1 - i) (G - i) ⟨qb,qo,none⟩ 1 c ROW 44 cy underlying40 hsz hg1 (by rw [hcyl,hm1]) (fun j v hj=>by rw [Addr.add_lit];exact (World.cell?_of_block (ho1 qb hqw)).trans (hcy j v hj)) (by rw [hcyl,hRs];omega) h1y
  rw [← hX1,hm1] at h
  exact h
 have hX1l:X1.toList.length=G*5:=by
  have:ROW.toList.length=G*5:=by simpa using hRs
  rw [hX1];simp only [List.length_append,List.length_take,List.length_drop,this,hcyl];rw [Nat.min_eq_left (by omega)];omega
 have hX1s:X1.size=G*5:=by simpa using hX1l
 have hX1A:X1.toList.take (i*5+5)=A++cy:=by
  rw [hX1,List.toList_toArray,hRA,List.take_append_of_le_length (by simp only [List.length_append,hAl,hcyl];omega),List.take_of_length_le (by simp only [List.length_append,hAl,hcyl];omega)]
 obtain ⟨W2,hW2⟩:∃ W2,W2=W1.setRow w.heap.size X1:=⟨_,rfl⟩
 rw [← hW2] at hcp1
 have hg2:W2.heap[w.heap.size]?=some (.cells X1 44 (0,0)):=by rw [hW2];exact setRow_heap _ _ _ _ _ _ hg1
 have ho2:∀ k,k<w.heap.size→W2.heap[k]?=w.heap[k]?:=fun k hk=>by rw [hW2,setRow_other _ _ _ _ (by omega)];exact ho1 k hk
 have hs2:W2.heap.size=w.heap.size+1:=by rw [hW2,← hs1];simp [World.setRow]
 have hgr2:w.grownBy W2 (some g):=by rw [hW2];exact ⟨hgr1.os,hgr1.tape,hgr1.output,by rw [← hW2,hs2];omega,fun k hk h=>(setRow_other _ _ _ _ (by omega)).trans (hgr1.block k hk h)⟩
 clear hW2
 obtain ⟨X2,hX2⟩:∃ X2,X2=(X1.toList.take ((i+1)*5)++D++X1.toList.drop ((i+1)*5+D.length)).toArray:=⟨_,rfl⟩
 have hcp2:∀ ty,(Builtin.copy_ #[40,40] ty #[.slice (some ⟨w.heap.size,(i+1)*5,none⟩) (n+1 - (i+1)) (G - (i+1)),.slice (some ⟨g,i*5,none⟩) (n - i) (n - i)]).run prog W2.drew=.ok (goInt (n - i:Nat)) (W2.drew.setRow w.heap.size X2):=fun ty=>by
  have h:=V6 (P:=prog) 5 W2.drew 40 40 ty 44 w.heap.size ((i+1)*5) (n+1 - (i+1)) (G - (i+1)) ⟨g,i*5,none⟩ (n - i) (n - i) X1 44 D underlying40 hsz hg2 (by rw [hDl,hm2]) (fun j v hj=>by rw [Addr.add_lit];exact (World.cell?_of_block (w:=w) (ho2 g hgw)).trans (hDat j v hj)) (by rw [hDl,hX1s];omega) h1D
  rw [← hX2,hm2] at h
  exact h
 have hend:(W2.drew.setRow w.heap.size X2).heap[w.heap.size]?=some (.cells X2 44 (0,0))∧X2.size=G*5∧X2.toList.take ((n+1)*5)=A++cy++D∧(∀ k,k<w.heap.size→(W2.drew.setRow w.heap.size X2).heap[k]?=w.heap[k]?)∧(W2.drew.setRow w.heap.size X2).heap.size=w.heap.size+1∧w.grownBy (W2.drew.setRow w.heap.size X2) (some g):=by
  have hs3:(W2.drew.setRow w.heap.size X2).heap.size=w.heap.size+1:=by rw [← hs2];simp [World.setRow]
  refine ⟨setRow_heap _ _ _ _ _ _ hg2,?_,?_,fun k hk=>(setRow_other _ _ _ _ (by omega)).trans (ho2 k hk),hs3,⟨hgr2.os,hgr2.tape,hgr2.output,by rw [hs3];omega,fun k hk h=>(setRow_other _ _ _ _ (by omega)).trans (hgr2.block k hk h)⟩⟩
  ·rw [hX2];simp only [List.size_toArray,List.length_append,List.length_take,List.length_drop,hX1l,hDl];rw [Nat.min_eq_left (by omega)];omega
  rw [hX2,List.toList_toArray,show (i+1)*5=i*5+5 by omega,hX1A,List.take_append_of_le_length (by simp only [List.length_append,hAl,hcyl,hDl];omega),List.take_of_length_le (by simp only [List.length_append,hAl,hcyl,hDl];omega)]
 rw [hA,hD]
 have HE:=Qq hend
 have hz2:¬ ((i:Int)=(n:Int)):=by omega
 have hw1:IntKind.i64.wrap ((i:Int)+1)=(i:Int)+1:=by rw [IntKind.wrap_i64];omega
 have hw2:IntKind.i64.wrap ((n:Int)+1)=(n:Int)+1:=by rw [IntKind.wrap_i64];omega
 have hw3:IntKind.i64.wrap ((n:Int)+1 - (i:Int))=(n:Int)+1 - (i:Int):=by rw [IntKind.wrap_i64];omega
 have hb1:(0:Int)≤(i:Int)+1:=by omega
 have hb0:(0:Int)≤(i:Int):=by omega
 have hb5:¬ (n=i):=by omega
 have hb7:¬ (G=i):=by omega
 have hb8:¬ (G=i+1):=by omega
 have htn:((i:Int)+1).toNat=i+1:=by omega
 have hin:i≤n:=by omega
 have hb6:(i:Int)≤(n:Int)+1:=by omega
 have hb9:(i:Int)≤(n:Int):=by omega
 have hb10:¬ (n=i):=by omega
 have HGn:=Qq hGn;have HGm:=Qq hGm
 clear hend hX1 hX2 hX1l hX1s hX1A hm1 hm2 hDat hcells htk hcs hcsl hAD hA hD hO hal hy hcy h1D h1y h1A ho1 hg1 ho2 hg2 hs1 hs2 hgr1 hgr2 hRs hRA hROW hG hold hik hkk hGm hgw hqw hgc
 go_enter func58,ntmps58
 go_wp2_with (first
  | (at_builtin;refine Lib.wpList_append_run _ rfl _ _ _ _ rfl _ _ rfl rfl _ _ (hrz _) ?_)
  | (at_builtin;refine wpList_copy_runI _ rfl _ _ 40 40 rfl _ _ (by simp [Act.eval,Act.put]) (by simp [Act.eval,Act.put]) (hcp1 _) ?_))
 go_region_law_o (refine step_copy_runI rfl _ _ 40 40 rfl _ _ (by simp [Act.eval,Act.put]) (by simp [Act.eval,Act.put]) (hcp2 _) ?_)
 go_wp2_with fail
 go_ret
 exact ⟨_,rfl,HGn.out,HGm.out,_,HE.out⟩
end Go.Proofs.YtppbaladeefnkaaGreatDoor
