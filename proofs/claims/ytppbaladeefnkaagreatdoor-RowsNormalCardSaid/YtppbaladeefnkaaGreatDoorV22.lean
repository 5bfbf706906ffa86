import Derived.Test.YtppbaladeefnkaaGreatDoorV20
set_option maxRecDepth 100000
set_option maxHeartbeats 400000000
namespace Go.Proofs.YtppbaladeefnkaaGreatDoor
open Go.RowKit Go.Shelf Go.Lib Tryz
def Zl:Rd Rel where
 k:=2
 R S w cs x:=∃ v,cs=[sv x.table,v]∧x.table.length≤1000000∧Sl Ql S w v x.rows∧CapV v x.rows.length
 len h:=by obtain ⟨v,rfl,_⟩:=h;rfl
 frame h hA:=by obtain ⟨v,rfl,h1,h2,h3⟩:=h;exact ⟨v,rfl,h1,h2.frame hA,h3⟩
 mono h hS:=by obtain ⟨v,rfl,h1,h2,h3⟩:=h;exact ⟨v,rfl,h1,h2.mono hS,h3⟩
theorem Gy {S:Nat→Prop} {w:World} {cs:List Value} {x:Rel} (h:Zl.R S w cs x):Z0.R S w cs x:=by obtain ⟨v,rfl,h1,h2,_⟩:=h;exact ⟨v,rfl,h1,h2⟩
theorem Sl.rel {S:Nat→Prop} {w:World} {v:Value} {l:List Rel} (h:Sl Zl S w v l):Sl Z0 S w v l:=by
 obtain ⟨p,cap,h1,h2,h3⟩:=h
 refine ⟨p,cap,h1,h2,fun hne=>?_⟩
 obtain ⟨b,off,e,hS,hb,hc⟩:=h3 hne
 refine ⟨b,off,e,hS,hb,fun i x hx=>?_⟩
 obtain ⟨cs,hcs,hr⟩:=hc i x hx
 exact ⟨cs,hcs,Gy hr⟩
theorem Cs.rel {S:Nat→Prop} {w:World} {css:List (List Value)} {l:List Rel} (h:Cs Zl S w css l):Cs Z0 S w css l:=⟨h.len,fun i c x hc hx=>Gy (h.R i c x hc hx)⟩
theorem Own.rel {E:TypeId} {S:Nat→Prop} {B:Nat} {w:World} {v:Value} {l:List Rel} {css:List (List Value)} (h:Own Zl E S B w v l css):Own Z0 E S B w v l css:=⟨h.row,h.cs.rel⟩
theorem relc_one:∀ S w cs x,Zl.R S w cs x→∀ u ∈ cs,u.oneCell'=true:=fun S w cs x h=>Pz S w cs x (Gy h)
theorem Gh {S:Nat→Prop} {E:TypeId} {B:Nat} {w:World} {g n cap:Nat} {l:List Rel} {css:List (List Value)} {i:Nat} {x:Rel} {rv':Value} {zs:List Val} (hn:l.length=n) (h:Own Zl E S B w (.slice (some ⟨g,0,none⟩) n cap) l css) (hi:l[i]?=some x)
  (hs:Sl Ql (But S (.slice (some ⟨g,0,none⟩) n cap)) w rv' zs) (hc':CapV rv' zs.length):
  ∃ css',Own Zl E S B (w.setCell ⟨g,i*2+1,none⟩ rv') (.slice (some ⟨g,0,none⟩) n cap) (l.set i ⟨x.table,zs⟩) css':=by
 subst hn
 have hil:=(Qj hi).1
 obtain ⟨c,hc⟩:∃ c,css[i]?=some c:=⟨_,Qx (by rw [h.cs.len];exact hil)⟩
 obtain ⟨rv,rfl,htl,_⟩:=h.cs.R i c x hc hi
 have hA:Vm (But S (.slice (some ⟨g,0,none⟩) l.length cap)) w (w.setCell ⟨g,i*2+1,none⟩ rv'):=fun b hS _=>Qg (fun e=>hS.2 (by rw [e];rfl))
 refine ⟨css.set i [sv x.table,rv'],⟨?_,⟨by rw [List.length_set,List.length_set];exact h.cs.len,fun j d y hd hy=>?_⟩⟩⟩
 ·rw [List.length_set,← Em css i _ rv rv' h.cs.all hc]
  exact (h.row.stored (i*2+1) rv').1
 by_cases e:j=i
 ·subst e
  rw [List.getElem?_set_self hil] at hy
  rw [List.getElem?_set_self (by rw [h.cs.len];exact hil)] at hd
  cases hd;cases hy
  exact ⟨rv',rfl,htl,hs.frame hA,hc'⟩
 rw [List.getElem?_set_ne (Ne.symm e)] at hd hy
 exact Zl.frame (h.cs.R j d y hd hy) hA
theorem Own.weak {T:Type} {r:Rd T} {E:TypeId} {S S':Nat→Prop} {B B':Nat} {w:World} {v:Value} {xs:List T} {css:List (List Value)} (h:Own r E S B w v xs css) (hB:B'≤B) (hS:∀ b,b<w.heap.size→S b→S' b):Own r E S' B' w v xs css:=by
 refine ⟨⟨h.row.1,?_⟩,h.cs.move (.refl _ _) (fun b hb hs=>⟨hS b hb hs.1,hs.2⟩)⟩
 rcases h.row.2 with hn | ⟨g,cap,cur,rfl,hg,rest⟩
 ·exact .inl hn
 exact .inr ⟨g,cap,cur,rfl,by omega,rest⟩
def Lj (S:Nat→Prop) (w:World) (l:List Rel) (e:Ending) (w':World):Prop:=∃ p cap css,e=.returned (.slice p l.length cap)∧Own Zl 57 (fun b=>S b∨w.heap.size≤b) w.heap.size w' (.slice p l.length cap) l css∧Below w.heap.size w w'
theorem F6 (S:Nat→Prop) (lv:Value) (l:List Rel) (w:World) (hl0:Sl Zl S w lv l) (hl1:l.length≤1000):
  Calls prog 59 #[lv] w fun e w'=>∃ p cap css,e=.returned (.slice p l.length cap)∧Own Zl 57 (fun b=>S b∧b<w.heap.size) w.heap.size w' (.slice p l.length cap) l css∧Below w.heap.size w w':=by
 have hl:Sl Zl (But (fun b=>S b∧b<w.heap.size) (.slice none 0 0)) w lv l:=hl0.mono (fun b hb h=>⟨⟨h,hb⟩,fun e=>by cases e⟩)
 have HL:=Qq hl
 obtain ⟨p,cap,rfl,_⟩:=hl.len
 clear hl0 hl
 obtain ⟨i0,j1,j2,j3,j4⟩:=Za (P:=prog) (t:=57) (z:=.agg #[.string ⟨#[]⟩,.slice none 0 0]) (n:=2) (b:=40) (by kernel_rfl)
 have HJ:=Qq j1;have HJ2:=Qq j2;have HJ3:=Qq j3;have HJ4:=Qq j4
 clear j1 j2 j3 j4
 obtain ⟨n,hn⟩:=eX (l.length)
 rw [hn] at HL hl1 ⊢
 have hn1:([]:List Rel).length+l.length=n:=by rw [hn];simp
 have HN1:=Qq hn1
 clear hn hn1
 go_enter func59,ntmps59
 go_wp2_with (at_builtin;refine Yq (r:=Zl) (by decide) relc_one rfl (.tmp 4) (.tmp 5) _ rfl 57 i0 (.agg #[.string ⟨#[]⟩,.slice none 0 0]) 40 underlying28 HJ.out HJ2.out HJ3.out HJ4.out rfl (by omega) (fun b=>S b∧b<w.heap.size) w.heap.size w (.slice none 0 0) [] [] rfl (Own.nil _ _ _ _ _) (.slice p n cap) l rfl HL.out n HN1.out (by omega) (by omega) ?_;intro p4 c4 css4 w4 hO4 hL4;have HO4:=Qq hO4;have HL4:=Qq hL4;clear hO4 hL4)
 go_ret
 exact ⟨p4,c4,css4,rfl,HO4.out,HL4.out.below⟩
theorem D9 {l:List Rel} {x:Bs} {v:Val} (h:Ym l x=none):Uv l x v=l:=by unfold Uv;rw [h]
theorem Dn {l:List Rel} {x:Bs} {v:Val} {i:Nat} {r:Rel} (h:Ym l x=some i) (hr:l[i]?=some r):Uv l x v=l.set i ⟨r.table,Vc r.rows v⟩:=by unfold Uv;rw [h];simp [List.getD_eq_getElem?_getD,hr]
theorem Ut (l:List Rel) (x:Bs) (v:Val):(Uv l x v).length=l.length:=by unfold Uv;split <;> simp
theorem Jc (S:Nat→Prop) (lv:Value) (l:List Rel) (x:Bs) (v:Val) (cv:List Value) (w:World) (hl0:Sl Zl S w lv l) (hv0:Qh S w cv v) (hl1:l.length≤1000) (hr1:∀ r ∈ l,r.rows.length≤1000):
  Calls prog 23 #[lv,sv x,.agg cv.toArray] w (Lj S w (Uv l x v)):=by
 have hl:=hl0.up
 have hv:Qh (fun b=>S b∧b<w.heap.size) w cv v:=hv0.move (.refl _ _) (fun b hb h=>⟨h,hb⟩)
 have HCo:=Qq (fun W (hb:Below w.heap.size w W)=>F6 _ lv l W (hl.below hb) hl1)
 obtain ⟨p0,cap0,rfl,_⟩:=hl.len
 obtain ⟨p3,k3,p4,k4,hcv,_⟩:=Qh.cells hv
 have HV:=Qq hv
 simp only [vcs] at hcv
 subst hcv
 clear hl0 hv0 hl hv
 unfold sv
 go_enter func23,ntmps23
 go_wp2_with fail
 refine (HCo.out _ (Qn _ _)).mono ?_
 rintro e w1 ⟨p,cap,css,rfl,hO,hb1⟩
 have hX1:=(hb1.block w.heap.size (by simp)).trans (Qw _ _)
 have hO1:Own Zl 57 (fun b=>S b∧b<w.heap.size) (w.heap.size+1) w1 (.slice p l.length cap) l css:=hO.weak (by simp) (fun b _ h=>h.1)
 have HB1:=Qq ((Qn w _).thn hb1);have HX1:=Qq hX1;have HO1:=Qq hO1
 have hsz1:w.heap.size<w1.heap.size:=Qf hX1
 have HF:=Qq (Uh (fun b=>S b∨w.heap.size≤b) (.slice p l.length cap) l x w1 (hO1.rel.sl (S':=fun b=>S b∨w.heap.size≤b) (by omega) (fun b hb=>.inr (by omega)) (fun b _ h=>.inl h.1)))
 unfold sv at HF
 clear hb1 hX1 hO hO1 HCo
 rcases Vk l x with ⟨hr,hi⟩ | ⟨i,r,hr,hi,hx⟩
 ·have hR:=D9 (v:=v) hr
  rw [hi] at HF
  have HRR:=Qq hR
  clear hr hi hR
  go_wp2_with (go_at_call 37;refine HF.out.mono ?_;rintro e w' ⟨rfl,rfl⟩)
  go_ret
  unfold Lj
  rw [HRR.out]
  exact ⟨p,cap,css,rfl,HO1.out.weak (by omega) (fun b _ h=>.inl h.1),HB1.out⟩
 have hR:=Dn (v:=v) hr hx
 rw [hi] at HF
 have hlen:(Uv l x v).length=l.length:=Ut l x v
 have HRR:=Qq hR;have HLen:=Qq hlen
 have hil:=(Qj hx).1
 have hr2:=hr1 r (Qy hx)
 obtain ⟨g,cap',hpv,hgB,hgs⟩:=HO1.out.row.form (by omega)
 simp only [Value.slice.injEq] at hpv
 obtain ⟨rfl,-,rfl⟩:=hpv
 obtain ⟨c,hc⟩:∃ c,css[i]?=some c:=⟨_,Qx (by rw [HO1.out.cs.len];exact hil)⟩
 obtain ⟨rv,rfl,htl,hrv,hcap⟩:=HO1.out.cs.R i c r hc hx
 have l1:=HO1.out.row.cellAt (i*2+1) (by show _<l.length*2;omega)
 rw [show css.flatten[i*2+1]?=some rv from Yg (k:=2) HO1.out.cs.all hc (j:=1) rfl] at l1
 have f1:=HO1.out.row.frozenAt (i*2+1)
 obtain ⟨q,qc,rfl,_⟩:=hrv.len
 have hi1:(0:Int)≤(i:Int):=by omega
 have hi2:(i:Int)<(l.length:Int):=by omega
 have hi3:decide (0≤(i:Int))=true:=by simp
 obtain ⟨x0,x1,x2,x3,x4⟩:=row5 HX1.out
 have HRV:=Qq (hrv.mono (S':=fun b=>S b∧b<w.heap.size) (fun b _ h=>h.1));have HCap:=Qq hcap;have HX:=Qq hx
 have HPut:=Qq (fun W (hb:Below w1.heap.size w1 W)=>put_any (fun b=>S b∧b<w.heap.size) (.slice q r.rows.length qc) r.rows v [.int .i64 v.kind,.int .i64 v.n,.string ⟨v.s.toArray⟩,.slice p3 v.names.length k3,.slice p4 v.kids.length k4] W ((HRV.out).below hb) HCap.out (HV.out.move (.of_below (HB1.out.thn hb)) (fun _ _ h=>h)) hr2)
 clear hr hi hR hlen hx hc hrv hcap
 go_upto_region 4 with (go_at_call 37;refine HF.out.mono ?_;rintro e w' ⟨rfl,rfl⟩)
 go_region_with (go_at_call 60;refine (HPut.out _ (Qz _ _).drew).mono ?_;rintro e w5 ⟨p5,c5,rfl,hc5,hs5,hb5⟩;have hB5:=((Qz _ w1).drew).thn hb5;have HS5:=Qq hs5;have HC5:=Qq hc5;have HB5:=Qq hB5;have f5:=(hB5.frozen (p:=⟨g,i*2+1,none⟩) hgs).trans f1;have l5:=(hB5.cell (p:=⟨g,i*2+1,none⟩) hgs).trans l1;clear hs5 hc5 hb5 hB5)
 all_goals
  go_wp2_with fail
  go_ret
  obtain ⟨css',hO6⟩:=Gh (zs:=Vc r.rows v) rfl ((HO1.out.weak (S':=fun b=>S b∨w.heap.size≤b) (B':=w.heap.size) (by omega) (fun b _ h=>.inl h.1)).below HB5.out) HX.out (rv':=.slice p5 (Vc r.rows v).length c5) (HS5.out.mono (S':=But (fun b=>S b∨w.heap.size≤b) (.slice (some ⟨g,0,none⟩) l.length cap)) (fun b _ h=>by
   rcases h with h | h
   ·exact ⟨.inl h.1,fun e=>by have e':b=g:=Qb e;have:=h.2;omega⟩
   have h':w1.heap.size≤b:=by simpa using h
   exact ⟨.inr (by omega),fun e=>by have e':b=g:=Qb e;omega⟩)) ⟨_,_,rfl,HC5.out⟩
  unfold Lj
  rw [HLen.out,HRR.out]
  exact ⟨_,_,css',rfl,hO6,(HB1.out.thn HB5.out).setCell (p:=⟨g,i*2+1,none⟩) (by show w.heap.size≤g;omega) _⟩
theorem L0 {A B:Type} (p:A→B→Bool) {a:List A} {b:List B} {k:Nat} {x:A} {y:B} (hx:a[k]?=some x) (hy:b[k]?=some y):eqL p (a.drop k) (b.drop k)=(p x y&&eqL p (a.drop (k+1)) (b.drop (k+1))):=by
 obtain ⟨hk,rfl⟩:=Qj hx
 obtain ⟨hk',rfl⟩:=Qj hy
 rw [List.drop_eq_getElem_cons hk,List.drop_eq_getElem_cons hk'];rfl
theorem Jp (S S':Nat→Prop) (av bv:Value) (a b:List Val) (w:World) (ha:Sl Ql S w av a) (hb:Sl Ql S' w bv b):
  Calls prog 13 #[av,bv] w fun e w'=>e=.returned (.bool (eqL eqv a b))∧Gr w w':=by
 obtain ⟨pa,ca,rfl,hla⟩:=ha.len
 obtain ⟨pb,cb,rfl,hlb⟩:=hb.len
 have HA:=Qq ha;have HB:=Qq hb
 have mixed:prog.follows .mixedOrders=true:=by kernel_rfl
 obtain ⟨r,hr⟩:=eX (eqL eqv a b)
 rw [hr]
 have HR:=Qq hr
 clear ha hb hr
 by_cases hlen:a.length=b.length
 ·obtain ⟨n,hn⟩:=eX (a.length)
  have hm:b.length=n:=by omega
  have HN:=Qq hn;have HM:=Qq hm
  rw [hn] at HA hla ⊢
  rw [hm] at HB hlb ⊢
  have hq:((n:Int) != (n:Int))=false:=by simp
  clear hn hm hlen
  go_enter func13,ntmps13
  go_wp2_with fail
  go_loopw [5] (fun i wr=>∃ k:Nat,k≤n∧i=.int .i64 k∧Aside (eqL eqv (a.drop k) (b.drop k)=r)∧Aside (Gr w wr)) (fun i _=>n - (intOf i).toNat)
  case atStart=>exact ⟨0,Q8 _,rfl,HR.out,Gr.refl _⟩
  obtain ⟨k,hk,rfl,A,hG⟩:=hrel
  have HG:=Qq (show Gr w wr from hG);have HE:=Qq (show eqL eqv (a.drop k) (b.drop k)=r from A)
  clear hG A
  by_cases hlt:k<n
  ·have hi1:(0:Int)≤(k:Int):=by omega
   have hi2:(k:Int)<(n:Int):=by omega
   obtain ⟨x,hx⟩:∃ x,a[k]?=some x:=⟨_,Qx (by rw [HN.out];exact hlt)⟩
   obtain ⟨y,hy⟩:∃ y,b[k]?=some y:=⟨_,Qx (by rw [HM.out];exact hlt)⟩
   obtain ⟨ga,oa,p3,k3,p4,k4,rfl,hga,hva,d0,d1,d2,d3,d4⟩:=(HA.out.below HG.out.bl).val hx
   obtain ⟨gb,ob,q3,l3,q4,l4,rfl,hgb,hvb,e0,e1,e2,e3,e4⟩:=(HB.out.below HG.out.bl).val hy
   have hcg:=Uk hva hvb
   have D0:=Qs hga d0;have D1:=Qs hga d1;have D2:=Qs hga d2;have D3:=Qs hga d3;have D4:=Qs hga d4
   have E0:=Qs hgb e0;have E1:=Qs hgb e1;have E2:=Qs hgb e2;have E3:=Qs hgb e3;have E4:=Qs hgb e4
   have hce:=Hi x y
   have hst:=L0 eqv hx hy
   rw [HE.out] at hst
   generalize Z1 x y=c at hcg hce
   have HCE:=Qq hce;have HST:=Qq hst
   clear hx hy hva hvb d0 d1 d2 d3 d4 e0 e1 e2 e3 e4 hce hst
   by_cases hq:(c==0)=true
   ·have hq2:(c != 0)=false:=by simpa using hq
    have hst2:eqL eqv (a.drop (k+1)) (b.drop (k+1))=r:=by rw [HST.out,← HCE.out,hq,Bool.true_and]
    have HST2:=Qq hst2
    clear hst2 hq
    go_wp2_with fail
    go_quiet_grown (first | (go_at_call 17;refine Calls.grown_of (hcg _ _)))
    go_wp2_with fail
    go_roundw
    case measure=>simp [intOf];omega
    case rel=>exact ⟨k+1,by omega,by go_num,HST2.out,HG.out.thn (Z7 _ _ _)⟩
   have hq2:(c != 0)=true:=by simpa using hq
   have hr0:r=false:=by rw [HST.out,← HCE.out,Bool.not_eq_true _ |>.mp hq,Bool.false_and]
   subst hr0
   clear hq
   go_wp2_with fail
   go_quiet_grown (first | (go_at_call 17;refine Calls.grown_of (hcg _ _)))
   go_wp2_with fail
   go_ret
   exact ⟨rfl,HG.out.thn (Z7 _ _ _)⟩
  have hltz:¬ (k:Int)<(n:Int):=by omega
  have:k=n:=by omega
  subst this
  have hr0:r=true:=by
   rw [← HE.out,List.drop_eq_nil_of_le (by rw [HN.out];exact Q9 _),List.drop_eq_nil_of_le (by rw [HM.out];exact Q9 _)];rfl
  subst hr0
  go_wp2_with fail
  go_ret
  exact ⟨rfl,HG.out⟩
 have hr0:r=false:=by rw [← HR.out];exact Ud eqv a b hlen
 subst hr0
 have hq:((a.length:Int) != (b.length:Int))=true:=by rw [bne_iff_ne];omega
 clear hlen
 go_enter func13,ntmps13
 go_wp2_with fail
 go_ret
 exact ⟨rfl,Gr.refl _⟩
theorem Mq {s:Sc} {k:Nat} {x:Tbl} (hx:s.tables[k]?=some x):(Yh s).take (k+1)=(Yh s).take k++[⟨x.name,[]⟩]:=by
 unfold Yh
 rw [← List.map_take,← List.map_take]
 obtain ⟨hk,rfl⟩:=Qj hx
 rw [List.take_succ_eq_append_getElem hk,List.map_append];rfl
theorem O4 (S:Nat→Prop) (s:Sc) (cs:List Value) (w:World) (hs:Yn S w cs s) (hl0:s.tables.length≤1000):
  Calls prog 30 #[.agg cs.toArray] w (Lj (fun _=>False) w (Yh s)):=by
 obtain ⟨uv,tv,rfl,hu,ht0⟩:=hs
 have ht:Sl Qt (fun b=>b<w.heap.size) w tv s.tables:=ht0.mono (fun b hb _=>hb)
 obtain ⟨up,uc,rfl,_⟩:=hu.len
 obtain ⟨tp,tc,rfl,_⟩:=ht.len
 have HT:=Qq ht
 clear hu ht ht0
 obtain ⟨i0,j1,j2,j3,j4⟩:=Za (P:=prog) (t:=57) (z:=.agg #[.string ⟨#[]⟩,.slice none 0 0]) (n:=2) (b:=40) (by kernel_rfl)
 have HJ:=Qq j1;have HJ2:=Qq j2;have HJ3:=Qq j3;have HJ4:=Qq j4
 clear j1 j2 j3 j4
 unfold Lj
 have hle:(Yh s).length=s.tables.length:=by unfold Yh;simp
 rw [hle]
 obtain ⟨n,hn⟩:=eX (s.tables.length)
 rw [hn] at HT hl0 ⊢
 have HN:=Qq hn;have HLe:=Qq hle
 clear hn hle
 go_enter func30,ntmps30
 go_wp2_with fail
 generalize hW1:w.alloc _=W1
 have hb1:=eqB hW1 (Qn _ _)
 have hX1:=eqH (b:=w.heap.size) hW1 (Qw _ _)
 have HB1:=Qq hb1;have HX1:=Qq hX1
 clear hW1 hb1 hX1
 go_loopw [3,4] (fun o i wr=>∃ (k:Nat) (p:Option Addr) (cap:Nat),k≤n∧i=.int .i64 k∧o=.slice p k cap∧Below (w.heap.size+1) W1 wr∧(∃ css,Own Zl 57 (fun _=>False) (w.heap.size+1) wr (.slice p k cap) ((Yh s).take k) css)) (fun _ i _=>n - (intOf i).toNat)
 case atStart=>exact ⟨0,none,0,Q8 _,rfl,rfl,Qz _ _,[],Own.nil _ _ _ _ _⟩
 obtain ⟨k,p,cap,hkn,rfl,rfl,hBr,css,hO⟩:=hrel
 have hsz:=Qf HX1.out
 have hXr:=kE hBr (by omega) HX1.out
 have hbw:Below w.heap.size w wr:=HB1.out.trans (hBr.mono (by omega))
 have hsr:=hBr.size
 have HBr:=Qq hBr;have HBw:=Qq hbw;have HO:=Qq hO
 obtain ⟨c0,c1⟩:=row2 hXr
 clear hXr hBr hbw hO
 have hll:((Yh s).take k).length=k:=by rw [List.length_take,HLe.out,HN.out];omega
 have HLL:=Qq hll
 clear hll
 by_cases hlt:k<n
 ·have hi1:(0:Int)≤(k:Int):=by omega
  have hi2:(k:Int)<(n:Int):=by omega
  obtain ⟨x,hx⟩:∃ x,s.tables[k]?=some x:=⟨_,Qx (by rw [HN.out];exact hlt)⟩
  obtain ⟨b,off,cs,rfl,hbl,_,_,hR,hc⟩:=(HT.out.below HBw.out).elem hx
  obtain ⟨cp9,cc9,kp9,kc9,rp9,rc9,k9,s19,n9,s29,p19,n19,c19,p29,n29,c29,p39,n39,c39,a9,z9,hcs,hxl,_⟩:=Zk hR
  simp only [tcs] at hcs
  subst hcs
  have d0:=hc 0 _ rfl
  rw [show Qt.k=13 from rfl,Nat.add_zero] at d0
  have hR1:Zl.R (But (fun _=>False) (.slice p k cap)) wr [.string ⟨x.name.toArray⟩,.slice none 0 0] ⟨x.name,[]⟩:=⟨_,rfl,hxl,Sl.nil _ _ _,⟨_,_,rfl,Q9 _⟩⟩
  have HR1:=Qq hR1
  have htk:=Mq hx
  have HTK:=Qq htk
  clear hx hc hR hR1 htk
  go_wp2_with (at_builtin;refine Zm (r:=Zl) (by decide) rfl (.tmp 12) (.tmp 20) _ rfl 57 i0 (.agg #[.string ⟨#[]⟩,.slice none 0 0]) 40 underlying28 HJ.out HJ2.out HJ3.out HJ4.out rfl (by omega) (fun _=>False) (w.heap.size+1) wr (.slice p k cap) ((Yh s).take k) css [.string ⟨x.name.toArray⟩,.slice none 0 0] ⟨x.name,[]⟩ rfl HO.out rfl HR1.out (by simp [Value.oneCell']) k HLL.out (by omega) (by omega) ?_;intro p7 cap7 css7 w7 hO7 hL7;have HO7:=Qq hO7;have HL7:=Qq hL7;clear hO7 hL7)
  go_roundw
  case measure=>simp [intOf];omega
  case rel=>
   refine ⟨k+1,p7,cap7,by omega,by go_num,rfl,HBr.out.trans HL7.out.below,css7,?_⟩
   rw [HTK.out];exact HO7.out
 have hkn':k=n:=by omega
 subst hkn'
 go_wp2_with fail
 go_ret
 have htk:(Yh s).take k=Yh s:=List.take_of_length_le (by rw [HLe.out,HN.out];exact Q9 _)
 have hO2:=HO.out
 rw [htk] at hO2
 exact ⟨p,cap,css,rfl,hO2.weak (by omega) (fun b _ h=>h.elim),HBw.out⟩
end Go.Proofs.YtppbaladeefnkaaGreatDoor
