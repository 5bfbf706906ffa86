import Derived.Test.YtdpibdpbgokmoaaGreatDoorC32
set_option maxRecDepth 100000
set_option maxHeartbeats 400000000
namespace Go.Proofs.YtdpibdpbgokmoaaGreatDoor
open Go.RowKit Go.Shelf Go.Lib Tryz
theorem Own.wide {T:Type} {r:Rd T} {E:TypeId} {S S':Nat→Prop} {B:Nat} {w:World} {v:Value} {xs:List T} {css:List (List Value)} (h:Own r E S B w v xs css) (hS:∀ b,b<w.heap.size→S b→S' b):Own r E S' B w v xs css:=
 ⟨h.row,h.cs.move (.refl _ _) (fun b hb h=>⟨hS b hb h.1,h.2⟩)⟩
def CloneOwn (k n:Int) (s:Bs) (ns:List Bs) (ks:List Val) (w:World) (e:Ending) (w':World):Prop:=
 ∃ np ncap kp kcap css,e=.returned (.agg #[k,n,s,.slice np ns.length ncap,.slice kp ks.length kcap])∧Own Ze 36 (fun b=>w≤b) w w' (.slice kp ks.length kcap) ks css∧Below w w w'∧Sl Zh (fun b=>w≤b∧some b≠(Value.slice kp ks.length kcap).ownBlock) w' (.slice np ns.length ncap) ns
theorem cloneOwn (k n:Int) (s:Bs) (ns:List Bs) (ks:List Val) (S0:Nat→Prop) (cs:List Value) (w:World) (hx0:Z9 S0 w cs (.mk k n s ns ks)):Calls prog 125 #[cs] w (CloneOwn k n s ns ks w):=by
 have ih:∀ x ∈ ks,E5 x:=fun x _=>Fe x
 have hx:Z9 (fun b=>b<w) w cs (.mk k n s ns ks):=hx0.move (.refl _ _) (fun b hb _=>hb)
 clear hx0
 obtain ⟨nv,kv,rfl,hs,hn,hk⟩:=Vn.1 hx
 have cN:ns.length≤1000000:=by obtain ⟨_,_,_,h⟩:=hn.len;exact h
 have dX:ks.length≤1000000:=by obtain ⟨_,_,_,h⟩:=hk.len;exact h
 obtain ⟨HN,HK,HI⟩:=Qqo hn hk ih
 clear hx hn hk ih
 unfold sv
 go_enter func125,ntmps125
 go_upto_region 1 with fail
 go_cut [12] (fun _ wx=>∃ np I kp A U,Jf w k n s ns ks np I kp A U 0 wx∧Cs Ze (fun b=>b<w) w U ks)
 case first=>
  go_region_with (first | (go_at_call 162;refine (Hf _ nv ns _ (HN.out.below (by first | exact (Zt _ _ _).drew | exact (Zt _ _ _).drew.thn aP.out | exact (Zt _ _ _).drew.thn aQ.out))).mono ?_;rintro e w1 ⟨np,I,dY,rfl,bK,aL⟩;obtain ⟨aE,aG⟩:=Ho aL;have cP:=aL.size;have aP:=Qq aL;have bZ:=Qq bK;clear aL bK;(try simp at cP);have cK:w.heap.size<w1.heap.size:=Qqj;have cM:w.heap.size+1<w1.heap.size:=Qqj;have dI:w1.cell? ⟨w,3,none⟩=some nv:=(by first | (rw [aE _ _ (by simp;omega)];simp) | (rw [aE _ _ Qqw];assumption));have dN:w1.frozen? ⟨w,3,none⟩=false:=(by first | (rw [aG _ _ (by simp;omega)];simp) | (rw [aG _ _ Qqw];assumption));have dJ:w1.cell? ⟨w,4,none⟩=some kv:=(by first | (rw [aE _ _ (by simp;omega)];simp) | (rw [aE _ _ Qqw];assumption));have dO:w1.frozen? ⟨w,4,none⟩=false:=(by first | (rw [aG _ _ (by simp;omega)];simp) | (rw [aG _ _ Qqw];assumption));clear aE aG) | (go_at_call 49;refine (Hg _ kv ks _ (HK.out.below (by first | exact (Zt _ _ _).drew | exact (Zt _ _ _).drew.thn aP.out | exact (Zt _ _ _).drew.thn aQ.out))).mono ?_;rintro e w2 ⟨kp,A,U,rfl,bL,aM⟩;obtain ⟨aF,aH⟩:=Ho aM;have cQ:=aM.size;have aQ:=Qq aM;have aS:=Qq bL;clear aM bL;(try simp only [World.size_drew,World.size_alloc] at cQ);have dR:w.heap.size<w2.heap.size:=Qqj;have dV:w.heap.size+1<w2.heap.size:=Qqj;have dK:w2.cell? ⟨w,3,none⟩=some nv:=(by first | (rw [aF _ _ (by simp;omega)];simp) | (rw [aF _ _ Qqw];assumption));have dP:w2.frozen? ⟨w,3,none⟩=false:=(by first | (rw [aH _ _ (by simp;omega)];simp) | (rw [aH _ _ Qqw];assumption));have dL:w2.cell? ⟨w,4,none⟩=some kv:=(by first | (rw [aF _ _ (by simp;omega)];simp) | (rw [aF _ _ Qqw];assumption));have dQ:w2.frozen? ⟨w,4,none⟩=false:=(by first | (rw [aH _ _ (by simp;omega)];simp) | (rw [aH _ _ Qqw];assumption));clear aF aH))
  all_goals
   go_wp2_with fail
   go_meet
   have b1:=aP.out
   have b2:=aQ.out
   have bE:=b1.block w (by simp;omega)
   have aO:=b1.block (w+1) Qqk
   rw [heap_drew,Q5] at bE
   rw [heap_drew,Q6] at aO
   have cJ:=kE b2 cK bE
   have bF:=kE b2 cM aO
   have bH:Below w w w2:=(Zt _ _ _).drew.thn (b1.thn b2)
   refine ⟨np,I,kp,A,U,⟨(bH.setCell (p:=⟨w,3,none⟩) (Q9 _) _).setCell (p:=⟨w,4,none⟩) (Q9 _) _,?_,?_,?_,⟨[],rfl,?_,⟨rfl,fun i c x hc=>by simp at hc⟩⟩⟩,?_⟩
   ·exact Qi _ _ _ _ _ _ (Qi _ _ _ _ _ _ cJ)
   ·rw [Za Qqk,Za Qqk];exact bF
   ·refine ((sl_str bZ.out cN Qqk).mono (S':=fun b=>w+2≤b∧some b≠(Value.slice kp ks.length A).ownBlock) (fun b hb h=>⟨h,fun e=>?_⟩)).frame (fun b hb aA=>?_)
    ·have:=(aS.out.row.lt b e.symm).1
     omega
    rw [Za (by show b≠w;omega),Za (by show b≠w;omega)]
    exact b2.block b aA
   ·refine Vw aS.out.row Qqj (fun b hb aA=>?_)
    rw [Za (by show b≠w;omega),Za (by show b≠w;omega)]
   exact (aS.out.cs.move (S':=fun b=>b<w) (.refl _ _) (fun b _ h=>h.1)).move (fun b hb _=>(bH.block b hb).symm) (fun b _ h=>h)
 obtain ⟨np,I,kp,A,U,T,bD⟩:=hcut
 have HC:=Qq bD;have HM:=Qq T
 obtain ⟨c0,c1,c2,c3,c4⟩:=row5 T.box
 clear bD T
 go_wp2_with fail
 go_loopw [16] (fun i wr=>∃ M:Nat,M≤ks.length∧i=.int .i64 M∧Jf w k n s ns ks np I kp A U M wr) (fun i _=>ks.length - (intOf i).toNat)
 case atStart=>exact ⟨0,Q8 _,rfl,HM.out⟩
 obtain ⟨M,dW,rfl,T⟩:=hrel
 have c0:=Qk _ _ 0 _ _ _ T.box;have c1:=Qk _ _ 1 _ _ _ T.box;have c2:=Qk _ _ 2 _ _ _ T.box;have c3:=Qk _ _ 3 _ _ _ T.box;have c4:=Qk _ _ 4 _ _ _ T.box
 have r0:=Qk _ _ 0 _ _ _ T.res;have r1:=Qk _ _ 1 _ _ _ T.res;have r2:=Qk _ _ 2 _ _ _ T.res;have r3:=Qk _ _ 3 _ _ _ T.res;have r4:=Qk _ _ 4 _ _ _ T.res
 have fr:=fun j=>Qn _ _ j _ _ T.res
 have dB:=(Array.getElem?_eq_some_iff.1 T.res).1
 simp only [Qf,Qg,Qh] at c0 c1 c2 c3 c4 r0 r1 r2 r3 r4
 have Y:=Qq T
 by_cases aA:M<ks.length
 ·obtain ⟨x,hx⟩:∃ x,ks[M]?=some x:=⟨_,Qx aA⟩
  obtain ⟨V,aI,G,D⟩:=T.kids
  obtain ⟨g,cap,bJ,dS,O⟩:=G.form Qqj
  simp only [Qr] at bJ
  obtain ⟨rfl,-,rfl⟩:=bJ
  obtain ⟨oc,aV⟩:∃ oc,U[M]?=some oc:=⟨_,Qx (by rw [HC.out.len];exact aA)⟩
  have aX:=HC.out.R M oc x aV hx
  obtain ⟨p3,k3,p4,k4,rfl,_⟩:=Z9.cells (show Z9 _ w oc x from aX)
  have aD:∀ y ∈ V++U.drop M,y.length=5:=by
   intro y hy
   rcases Z4.1 hy with h | h
   ·exact D.all y h
   exact HC.out.all y (Zw h)
  have aT:(V++U.drop M)[M]?=some (vcs x p3 k3 p4 k4):=by
   rw [Zx Qqj,List.getElem?_drop,aI,Nat.sub_self,Nat.add_zero];exact aV
  have J:∀ (j:Nat) u,(vcs x p3 k3 p4 k4)[j]?=some u→wr.cell? ⟨g,M*5+j,none⟩=some u:=by
   intro j u hu
   have h5:j<5:=(Qj hu).1
   rw [G.cellAt _ Qqj]
   exact V6 aD aT hu
  have d0:=J 0 _ rfl;have d1:=J 1 _ rfl;have d2:=J 2 _ rfl;have d3:=J 3 _ rfl;have d4:=J 4 _ rfl
  rw [Nat.add_zero] at d0
  have fz:=fun j=>G.frozenAt j
  have dT:(0:Int)≤(M:Int):=Qqj
  have dU:(M:Int)<(ks.length:Int):=Qqj
  have dC:w.heap.size≠wr.heap.size:=Qqj
  have dD:w.heap.size+1≠wr.heap.size:=Qqj
  have dE:g≠wr.heap.size:=Qqj
  obtain ⟨HX,HV,HA,dF,HR⟩:=Qqr hx aX aD aT G;obtain ⟨dH,HL,aB,dG⟩:=Qqp D aI fz fr
  clear hx aX aD aT G D aI J aV T fz fr r0 r1 r2 r3 r4 c0 c1 c2 c3
  go_upto_region 5 with fail
  obtain ⟨W5,aK⟩:=eX (wr.alloc (.cells (Qqg x p3 k3 p4 k4) 36))
  have aU:=eqB aK (Zg _ _)
  have bM:=eqH (b:=wr.heap.size) aK (Qw _ _)
  rw [aK]
  obtain ⟨x0,x1,x2,x3,x4⟩:=row5 bM
  have c5:=kD aU Qqj c4
  have aR:=Qq aU
  have cD:=c4
  clear aK aU bM c4
  go_region_with (first | (go_at_call 125;refine (HI.out x (Qy HX.out) _ (vcs x p3 k3 p4 k4) _ (Z9.move HV.out (.of_below (Y.out.below.thn aR.out.drew)) Qzx)).mono ?_;rintro e w4 ⟨dM,rfl,aW,bG⟩;obtain ⟨q3,l3,q4,l4,bI,_⟩:=Z9.cells aW;simp only [vcs] at bI;subst bI;have N:=Qq (aR.out.drew.thn bG);have cA:=Qq aW;clear aW bG;have e4:=kD N.out Qqj cD;have g0:=kD N.out O d0;have g1:=kD N.out O d1;have g2:=kD N.out O d2;have g3:=kD N.out O d3;have g4:=kD N.out O d4;have f0:=(N.out.frozen (p:=⟨g,M*5,none⟩) O).trans (aB.out (M*5));have f1:=(N.out.frozen (p:=⟨g,M*5+1,none⟩) O).trans (aB.out (M*5+1));have f2:=(N.out.frozen (p:=⟨g,M*5+2,none⟩) O).trans (aB.out (M*5+2));have f3:=(N.out.frozen (p:=⟨g,M*5+3,none⟩) O).trans (aB.out (M*5+3));have f4:=(N.out.frozen (p:=⟨g,M*5+4,none⟩) O).trans (aB.out (M*5+4))))
  all_goals
   go_wp2_with fail
   go_roundw
   case measure=>simp [intOf];omega
   case rel=>exact ⟨M+1,Qqj,by go_num,Y.out.next HX.out HC.out N.out (aR.out.size) cA.out⟩
 obtain rfl:M=ks.length:=Qqj
 obtain ⟨cE,cF,cG,cH,cI⟩:=Qzj fr
 clear fr
 go_wp2_with fail
 have Z:=Qi _ _ 4 _ _ (.slice kp ks.length A) (Qi _ _ 3 _ _ (.slice np ns.length I) (Qi _ _ 2 _ _ (.string ⟨s.toArray⟩) (Qi _ _ 1 _ _ (.int .i64 n) (Qi _ _ 0 _ _ (.int .i64 k) Y.out.res))))
 have q0:=Qk _ _ 0 _ _ _ Z;have q1:=Qk _ _ 1 _ _ _ Z;have q2:=Qk _ _ 2 _ _ _ Z;have q3:=Qk _ _ 3 _ _ _ Z;have q4:=Qk _ _ 4 _ _ _ Z
 simp only [List.setIfInBounds_toArray,List.set_cons_zero,List.set_cons_succ,Qf,Qg,Qh] at q0 q1 q2 q3 q4
 obtain ⟨V,aI,G,D⟩:=Y.out.kids
 rw [Qu (by rw [HC.out.len];exact Q9 _),List.append_nil] at G
 rw [Zj (Q9 _)] at D
 have bC:Hid (Own Ze 36 (fun b=>w+2≤b) (w+2) wr (.slice kp ks.length A) ks V):=Qq ⟨G,D⟩
 clear aI G D
 obtain ⟨WF,aC⟩:=eX ((((((wr.setCell ⟨w+1,0,none⟩ (.int .i64 k)).setCell ⟨w+1,1,none⟩ (.int .i64 n)).setCell ⟨w+1,2,none⟩ (.string ⟨s.toArray⟩)).setCell ⟨w+1,3,none⟩ (.slice np ns.length I)).setCell ⟨w+1,4,none⟩ (.slice kp ks.length A)))
 rw [aC] at q0 q1 q2 q3 q4 ⊢
 have cB:=Qq aC
 clear Z aC c0 c1 c2 c3 c4 r0 r1 r2 r3 r4 cE cF cG cH cI
 refine Q7 (v:=.agg #[k,n,s,.slice np ns.length I,.slice kp ks.length A]) (by simp [results,results125,go_sem,q0,q1,q2,q3,q4]) rfl ⟨np,I,kp,A,V,rfl,?_,?_,?_⟩
 all_goals rw [← cB.out]
 ·refine bC.out.move Qqj (fun b hb h=>?_) |>.wide (fun b _ h=>?_)
  ·exact Xo (by
    rcases h with h | h
    ·have:w.heap.size+2≤b:=h
     omega
    have:=(bC.out.row.lt b h).1
    omega)
  have:w.heap.size+2≤b:=h
  show w≤b
  omega
 ·exact ((((Y.out.below.setCell (p:=⟨w+1,0,none⟩) (Nat.le_succ _) _).setCell (p:=⟨w+1,1,none⟩) (Nat.le_succ _) _).setCell (p:=⟨w+1,2,none⟩) (Nat.le_succ _) _).setCell (p:=⟨w+1,3,none⟩) (Nat.le_succ _) _).setCell (p:=⟨w+1,4,none⟩) (Nat.le_succ _) _
 refine (Y.out.names.frame (fun b hS aA=>?_)).mono (fun b _ hS=>?_)
 ·exact Xo (by have:w.heap.size+2≤b:=hS.1;omega)
 have:w.heap.size+2≤b:=hS.1
 exact ⟨Qqj,hS.2⟩
def put7 (W:World) (R:Nat) (a0 a1 a2 a3 a4 a5 a6:Value):World:=(((((((W.setCell ⟨R,0,none⟩ a0).setCell ⟨R,1,none⟩ a1).setCell ⟨R,2,none⟩ a2).setCell ⟨R,3,none⟩ a3).setCell ⟨R,4,none⟩ a4).setCell ⟨R,5,none⟩ a5).setCell ⟨R,6,none⟩ a6)
theorem Rs {B R:Nat} {w W:World} {a0 a1 a2 a3 a4 a5 a6:Value} (h:Below B w W) (hR:B≤R):Below B w (put7 W R a0 a1 a2 a3 a4 a5 a6):=
 ((((((h.setCell (p:=⟨R,0,none⟩) hR _).setCell (p:=⟨R,1,none⟩) hR _).setCell (p:=⟨R,2,none⟩) hR _).setCell (p:=⟨R,3,none⟩) hR _).setCell (p:=⟨R,4,none⟩) hR _).setCell (p:=⟨R,5,none⟩) hR _).setCell (p:=⟨R,6,none⟩) hR _
theorem Ba {w w':World} {nm:Bs} {kids:List Val} {p:Option Addr} {c:Nat} (hc:B0 nm) (hl:kids.length≤1) (hk:∀ x ∈ kids,Y2 x) (hs:nm.length≤1000000) (hv:Sl Ze (fun b=>w≤b) w' (.slice p kids.length c) kids) (hb:Below w w w'):Dg w (.returned (.agg #[.int .i64 3,Qqd,nm,Qqf,.slice p kids.length c])) w':=
 ⟨.mk 3 0 nm [] kids,none,0,p,c,rfl,.make nm kids hc hl hk,hl,Y8 hs (Sl.nil _ _ _) hv,hb⟩
theorem Rc (s:Sc) (hsg:J0 s.sums) (nm:Bs) (tn:Int) (names:List Bs) (kids:List Ty) (n:Int) (hn0:0≤n) (hn1:n≤1000000) (S0 S1:Nat→Prop) (cs ct:List Value) (w:World) (hs:Xu S0 w cs s) (ht:Xf S1 w ct (.mk 3 nm tn names kids)):
  Calls prog 66 #[cs,ct,n] w (Dg w):=by
 have bO:=Qq hs
 obtain ⟨uv,tv,rfl,hu,cR⟩:=hs
 obtain ⟨up,uc,rfl,_⟩:=hu.len
 obtain ⟨tp,tc,rfl,_⟩:=cR.len
 obtain ⟨q3,l3,q4,l4,rfl,_⟩:=ht.cells'
 obtain ⟨m,hm⟩:=eX (s.sums.length)
 rw [hm] at hu bO ⊢
 have fG:m≤1000000:=by obtain ⟨_,_,_,h⟩:=hu.len;omega
 obtain ⟨HU,HM,HG⟩:=Qqo hu hm hsg
 have cP:0≤n.tdiv 7∧n.tdiv 7≤1000000:=by
  rw [Int.tdiv_eq_ediv_of_nonneg hn0];omega
 obtain ⟨q7,eE⟩:=eX (n.tdiv 7)
 rw [eE] at cP
 obtain ⟨cQ,eT⟩:=cP
 clear hu cR ht hm hsg
 go_enter func66,ntmps66
 go_wp2_with fail
 generalize T:(((w.alloc _).alloc _).alloc _).alloc _=W1
 have cG:=eqB T (Zu (Zu (Zu (Zg w _) _) _) _)
 have cC:=eqH (b:=w.heap.size) T (Zb (Zb (Zb (Y6 rfl _) _) _) _)
 have cD:=eqH (b:=w.heap.size+1) T (Zb (Zb (Y6 Qqk _) _) _)
 have cE:=eqH (b:=w.heap.size+1+1) T (Zb (Y6 Qqk _) _)
 have cB:=eqH (b:=w.heap.size+1+1+1) T (Y6 Qqk _)
 obtain ⟨dA,bN,dG,aD,eV⟩:=Qqr cG cC cD cE cB
 clear T cG cC cD cB cE
 go_loopw [8,9,10] (fun t8 _ _ wr=>∃ k:Nat,k≤m∧t8=.int .i64 k∧Aside (Below W1 W1 wr)) (fun t8 _ _ _=>m - (intOf t8).toNat)
 case atStart=>exact ⟨0,Q8 _,rfl,Qz _ _⟩
 obtain ⟨k,hk,rfl,cA⟩:=hrel
 have O:=Qq (show Below W1 W1 wr from cA)
 have aV:=Qq (dA.out.thn O.out)
 clear cA
 have bH:=Z8 aD.out
 have bB:=kB O.out bN.out
 have bC:=kB O.out dG.out
 have cF:=kE O.out bH aD.out
 obtain ⟨aW,V,eW⟩:=Qqo cF bB bC
 have c0:=rA0 bB;have b1:=rA1 bC
 clear bB bC cF
 by_cases hlt2:k<m
 ·have fE:(0:Int)≤(k:Int):=Qqj
  have fF:(k:Int)<(m:Int):=Qqj
  obtain ⟨u,hu⟩:∃ u,s.sums[k]?=some u:=⟨_,Qx (by rw [HM.out];exact hlt2)⟩
  obtain ⟨ub,aO,fM,eG,fI,_,_,eF,bF⟩:=(HU.out.below aV.out).elem hu
  subst eG
  obtain ⟨eZ,cS,fH,bG⟩:=eF
  subst cS
  obtain ⟨cp,cc,aN,dV⟩:=bG.len
  obtain ⟨p,hp⟩:=eX (u.ctors.length)
  rw [hp] at aN dV
  subst aN
  have d0:=bF 0 _ rfl;have d1:=bF 1 _ rfl
  rw [show Uu.k=2 from rfl] at d0 d1
  rw [Nat.add_zero] at d0
  unfold sv at d0
  obtain ⟨dC,HP,dE⟩:=Qqo bG hp (HG.out u (Qy hu))
  clear hu bF bG hp
  by_cases he:u.name=nm
  ·have hq:(u.name==nm)=true:=by rw [he];simp
   clear he
   by_cases hp0:p=0
   ·have hg:¬ (0:Int)<(p:Int):=Qqj
    go_upto_region 12 with fail
    go_quiet (fail)
    go_wp2_with fail
    go_roundw
    case measure=>simp [intOf];omega
    case rel=>exact ⟨k+1,Qqj,by go_num,O.out.thn (Yq _ _)⟩
   have hg:(0:Int)<(p:Int):=Qqj
   obtain ⟨m8,eB⟩:=eX (n.tmod (p:Int))
   have cI:=G8 n p hn0 hg
   rw [eB] at cI
   obtain ⟨eR,eS⟩:=cI
   obtain ⟨j,rfl⟩:∃ j:Nat,m8=(j:Int):=⟨m8.toNat,Qqj⟩
   have dX:j<p:=Qqj
   obtain ⟨c,hc⟩:∃ c,u.ctors[j]?=some c:=⟨_,Qx (by rw [HP.out];exact dX)⟩
   obtain ⟨cb,A,eY,dW,fD,_,_,⟨fL,cL,cM,aA⟩,D⟩:=dC.out.elem hc
   subst dW;subst cL
   obtain ⟨tk,ts,bJ,t3,n3,k3,t4,n4,k4,rfl⟩:=aA.cells
   have e0:=D 0 _ rfl;have e1:=D 1 _ rfl;have e2:=D 2 _ rfl;have e3:=D 3 _ rfl;have e4:=D 4 _ rfl;have e5:=D 5 _ rfl;have e6:=D 6 _ rfl
   rw [show Gg.k=7 from rfl] at e0 e1 e2 e3 e4 e5 e6
   rw [Nat.add_zero] at e0
   unfold sv at e0
   have dI:=Qq aA;have aT:=Qq (dE.out c (Qy hc))
   clear hc D aA
   go_upto_region 12 with fail
   go_quiet (fail)
   obtain ⟨U,bI⟩:=eX (wr.drewN nq)
   have bE:Below wr wr U:=by rw [← bI];exact Yq _ _
   rw [bI]
   have aR:=Qq bE
   have I:∀ {b j:Nat} {x:Value},wr.cell? ⟨b,j,none⟩=some x→U.cell? ⟨b,j,none⟩=some x:=fun hx=>kC bE hx
   have c0:=I c0;have d1:=I d1;have e0:=I e0;have e1:=I e1;have e2:=I e2;have e3:=I e3;have e4:=I e4;have e5:=I e5;have e6:=I e6
   clear I bI bE hq d0 b1
   go_upto_region 13 with fail
   refine let_mvar% ?Lq1:=fun w':World=>Qqa w' w 0 (Qqb ub aO m uc)∧Qqa w' ub (aO+k*2+1) (Qqb cb A p cc)∧Qqa w' cb (A+j*7) c.name∧Qqa w' cb (A+j*7+1) (.bool c.has)∧Qqa w' cb (A+j*7+2) tk∧Qqa w' cb (A+j*7+3) (.string ts)∧Qqa w' cb (A+j*7+4) bJ∧Qqa w' cb (A+j*7+5) (.slice t3 n3 k3)∧Qqa w' cb (A+j*7+6) (.slice t4 n4 k4)∧Below U U w';?_
   have HS:∀ w',Below U U w'→?Lq1 w':=by
    intro w' h
    have I:∀ {b j:Nat} {u:Value},U.cell? ⟨b,j,none⟩=some u→w'.cell? ⟨b,j,none⟩=some u:=fun hc=>kC h hc
    exact ⟨I c0,I d1,I e0,I e1,I e2,I e3,I e4,I e5,I e6,h⟩
   obtain ⟨bM,V,aS,aL,aB,bP⟩:=U9 HS (fun w' h=>h.2.2.2.2.2.2.2.2.2)
   have HP:=fun w' x0 x1 x2 x3 x4 x5 x6 h=>bP.out (put7 w' U x0 x1 x2 x3 x4 x5 x6) (Rs (aL.out w' h) (Q9 _))
   unfold put7 at HP
   have bL:=Qq HP
   clear HS HP c0 d1 e0 e1 e2 e3 e4 e5 e6
   go_cut [9] from 33 to 89 (fun t9 wx=>∃ G,t9=.pointer (some ⟨G,0,none⟩)∧wx.heap[G]?=some (.cells #[c.name,.bool c.has,tk,.string ts,bJ,.slice t3 n3 k3,.slice t4 n4 k4] 58 (0,0))∧Below U U wx∧U.heap.size≤G)
   case first=>
    go_region_held3 ?Lq1 (first | with_reducible exact bM.out | with_reducible exact aS.out _ (aB.out _ _ V.out) | with_reducible exact aB.out _ _ V.out | with_reducible exact bL.out _ _ _ _ _ _ _ _ (aS.out _ (aB.out _ _ V.out))) (fail)
    all_goals
     go_wp2_with fail
     go_meet
     exact ⟨U.heap.size,rfl,Qw _ _,(Zg _ _).drew,Q9 _⟩
   obtain ⟨G,rfl,hG,aG,fB⟩:=hcut
   have aC:=Qq (O.out.thn (aR.out.thn aG));have bR:=Qq (aV.out.thn (aR.out.thn aG))
   have dH:=Qq (dI.out.move (.of_below (aR.out.thn aG)) Qzx)
   have fC:=Z8 hG
   have HG:=Qq hG
   clear bM V aS aL aB bL bP aG
   have g0:=rA0 hG;have g1:=rA1 hG;have g2:=rA2 hG;have g3:=rA3 hG;have g4:=rA4 hG;have g5:=rA5 hG;have g6:=rA6 hG
   clear hG
   have dZ:w.heap.size+1+1<wc.heap.size:=Qqq aC.out.size
   cases hhas:c.has with
   | false=>
    rw [hhas] at g1
    go_upto_region 17 with fail
    generalize hV:wc.alloc _=V1
    have J:=eqB hV (Zg _ _)
    have hv:=eqH (b:=wc.heap.size) hV (Qw _ _)
    have aE:=kE (aC.out.thn J) bH aD.out
    obtain ⟨v0,v1,v2,v3,v4⟩:=row5 hv
    obtain ⟨y0,y1,y2,y3,y4⟩:=row5 aE
    obtain ⟨f0,f1,f2,f3,f4⟩:=frz5 aE
    have dO:=Qq aE;have aQ:=Qq (bR.out.thn J)
    clear hV hv aE J g0 g1 g2 g3 g4 g5 g6
    go_wp2_with fail
    show bodyPost _ _ _ _ _ (Zl V1 (w+1+1) (.int .i64 3) Qqd c.name Qqf Qqf)
    exact Q7 (v:=.agg #[.int .i64 3,Qqd,c.name,Qqf,Qqf]) (by simp [results,results66,go_sem,Zd dO.out]) rfl (Ba (kids:=[]) aT.out.2 (Q8 _) (fun x h=>by simp at h) cM (Sl.nil _ _ _) (Zc aQ.out Qqj))
   | true=>
    rw [hhas] at g1
    have bA:=kB aC.out bN.out
    obtain ⟨s0,s1⟩:=row2 bA
    have eP:=Qq bA
    clear bA
    go_upto_region 15 with fail
    generalize hV:wc.alloc _=V1
    have J:=eqB hV (Zg _ _)
    have hv:=eqH (b:=wc.heap.size) hV (Qw _ _)
    obtain ⟨aQ,bQ,aU⟩:=Qqo (aC.out.thn J) (bR.out.thn J) hv
    have dK:=Qq (Bg s c.arg aT.out.1 q7 cQ S0 _ _ [tk,.string ts,bJ,.slice t3 n3 k3,.slice t4 n4 k4] V1 (bO.out.below bQ.out) (dH.out.move (.of_below J) Qzx))
    have M:∀ {b j:Nat} {x:Value},wc.cell? ⟨b,j,none⟩=some x→V1.cell? ⟨b,j,none⟩=some x:=fun hx=>kC J hx
    have g1:=M g1;have g2:=M g2;have g3:=M g3;have g4:=M g4;have g5:=M g5;have g6:=M g6;have s0:=M s0;have s1:=M s1
    clear hV hv J M g0
    go_upto_region 17 with (go_at_call 66;refine dK.out.mono ?_;rintro e N ⟨v,r3,o3,r4,o4,rfl,cN,_,cU,aF⟩;unfold vcs;have fJ:wc.heap.size<N.heap.size:=Qa (Z8 aU.out) aF.size;have aI:=kB aF aU.out;have v4:=Qk _ _ 4 _ _ _ aI;have dP:=fA 4 aI;simp only [Qf,Qg,Qh] at v4;obtain ⟨dJ,dL,dD,aP⟩:=Qqp aI cU cN aF;clear aI cU cN aF)
    generalize Y:World.alloc _ _=W9
    have cJ:Below wc N (N.setCell ⟨wc,4,none⟩ (.slice (some ⟨N,0,none⟩) 1 1)):=(Qz _ _).setCell (p:=⟨wc,4,none⟩) (Q9 _) _
    have aK:(N.setCell ⟨wc,4,none⟩ (.slice (some ⟨N,0,none⟩) 1 1)).heap.size=N.heap.size:=Qqk
    have fK:=aP.out.size
    have eQ:=Z8 aU.out
    have Z:Below wc N W9:=by rw [← Y];exact cJ.alloc (by rw [aK];omega) _
    have cV:W9.heap[wc.heap.size]?=some (.cells #[.int .i64 3,Qqd,c.name,Qqf,Qqb N 0 1 1] 36 (0,0)):=by
     rw [← Y]
     exact Zb (Qi _ _ 4 _ _ _ dJ.out) _
    have cO:W9.heap[N.heap.size]?=some (.cells (Qqg v r3 o3 r4 o4) 36 (0,0)):=by
     rw [← Y]
     exact Y6 aK _
    have cH:Below w w W9:=(bQ.out.thn aP.out).trans (Z.mono Qqj)
    have aJ:W9.heap[w.heap.size+1+1]?=some (.cells zV 36 (0,0)):=kE Z dZ (((aQ.out.thn aP.out).block _ bH).trans aD.out)
    have cW:Z9 (fun b=>V1≤b∧b<N) W9 (vcs v r3 o3 r4 o4) v:=(dL.out.move (S':=fun b=>V1≤b∧b<N) (.refl _ _) (fun b hb h=>⟨h,hb⟩)).move (fun b hb dY=>by
     rw [← Y,Below.heap_alloc _ _ _ (by rw [aK];exact dY),Za (show b≠wc from by have h1:V1.heap.size≤b:=hb.1;omega)]) Qzx
    obtain ⟨v0,v1,v2,v3,v4⟩:=row5 cV
    obtain ⟨y0,y1,y2,y3,y4⟩:=row5 aJ
    obtain ⟨f0,f1,f2,f3,f4⟩:=frz5 aJ
    obtain ⟨dM,dF,dB,dN⟩:=Qqp cW cO cH aJ
    clear Y cV cO cH aJ cW Z dP cJ aK
    have eU:w.heap.size+1+1<N.heap.size:=Qqj
    go_wp2_with fail
    show bodyPost _ _ _ _ _ (Zl W9 (w+1+1) (.int .i64 3) Qqd c.name Qqf (Qqb N 0 1 1))
    refine Q7 (v:=.agg #[.int .i64 3,Qqd,c.name,Qqf,Qqb N 0 1 1]) (by simp [results,results66,go_sem,Zd dN.out]) rfl (Ba (kids:=[v]) aT.out.2 Qqk (fun x h=>by simp only [Z3,Z2,or_false] at h;subst h;exact dD.out) cM ?_ (Zc dB.out Qqj))
    exact Y4 (xs:=[v]) ((Zf Qqj).trans dF.out) (by show w≤N.heap.size;omega) (Cs.one (r:=Ze) ((dM.out.move (fun b hb _=>Zf (by have:=hb.1;omega)) (fun b _ h=>by show w≤b;have:=h.1;omega)))) rfl rfl Qqk
  have hq:(u.name==nm)=false:=by rw [← Qt,beq_iff_eq];exact he
  clear he
  go_upto_region 12 with fail
  go_quiet (fail)
  go_wp2_with fail
  go_roundw
  case measure=>simp [intOf];omega
  case rel=>exact ⟨k+1,Qqj,by go_num,O.out.thn (Yq _ _)⟩
 have hq:¬ (k:Int)<(m:Int):=Qqj
 obtain ⟨y0,y1,y2,y3,y4⟩:=row5 aW.out
 obtain ⟨f0,f1,f2,f3,f4⟩:=frz5 aW.out
 go_wp2_with fail
 show bodyPost _ _ _ _ _ (Zl wr (w+1+1) Qqd Qqd Qqe Qqf Qqf)
 exact Q7 (v:=.agg zV) (by simp [results,results66,go_sem,Zd aW.out]) rfl (Jl (s:=[]) (.int 0 Qqx) Qqk (Zc aV.out Qqj))
end Go.Proofs.YtdpibdpbgokmoaaGreatDoor
