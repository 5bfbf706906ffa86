import Derived.Test.YtdpibdpbgokmoaaGreatDoorC09
import Derived.Test.YtdpibdpbgokmoaaGreatDoorC08
set_option maxRecDepth 100000
set_option maxHeartbeats 400000000
namespace Go.Proofs.YtdpibdpbgokmoaaGreatDoor
open Go.RowKit Go.Shelf Go.Lib Tryz
def atP {T:Type} (p:T→Bool) (xs:List T):Option T:=match xs.findIdx? p with
 | none=>none
 | some i=>xs[i]?
theorem Ve {T:Type} (p:T→Bool) (xs:List T):(V5 p xs=-1∧atP p xs=none)∨∃ (i:Nat) (x:T),V5 p xs=i∧xs[i]?=some x∧atP p xs=some x:=by
 unfold V5 atP
 cases h:xs.findIdx? p with
 | none=>exact .inl ⟨rfl,rfl⟩
 | some i=>
  obtain ⟨hi,_,_⟩:=List.findIdx?_eq_some_iff_getElem.1 h
  exact .inr ⟨i,xs[i],rfl,Qx hi,Qx hi⟩
def Jj (s:Sc) (l:List Rel) (tn:Bs) (key:List Val):Option Val:=match Y0 s.tables tn,atP (fun r=>decide (r.table=tn)) l with
 | some t,some r=>if key.length=0 then none else atP (lkP t.key key) r.rows
 | _,_=>none
def LookIs (w:World) (o:Option Val) (e:Ending) (w':World):Prop:=
 ∃ cs',e=.returned (.tuple #[.agg cs'.toArray,.bool o.isSome])∧Z9 (fun _=>True) w' cs' (o.getD Val.zero)∧Below w w w'
theorem Jq (w:World) (A B C:Obj):(((w.alloc A).alloc B).alloc C).heap[w.heap.size+1]?=some B:=
 ((Zg ((w.alloc A).alloc B) C).block (w+1) Qqk).trans (Q6 w A B)
def LookIsS (S:Nat→Prop) (w:World) (o:Option Val) (e:Ending) (w':World):Prop:=
 ∃ cs',e=.returned (.tuple #[.agg cs'.toArray,.bool o.isSome])∧Z9 S w' cs' (o.getD Val.zero)∧Below w w w'
theorem Nr (S0 S1 S2:Nat→Prop) (s:Sc) (cs:List Value) (lv:Value) (l:List Rel) (tn:Bs) (kv:Value) (key:List Val) (w:World) (hs:Xu S0 w cs s) (hl0:Sl Y7 S1 w lv l) (hkv0:Sl Ze S2 w kv key) (hkl:∀ t ∈ s.tables,t.key.length≤1000):
  Calls prog 87 #[cs,lv,sv tn,kv] w (LookIsS S1 w (Jj s l tn key)):=by
 have hl:=hl0.up
 have aP:Sl Ze (fun b=>b<w) w kv key:=hkv0.mono (fun b hb _=>hb)
 have HT:=Qq (fun W (hb:Below w w W)=>C8 S0 s cs tn W (hs.below hb))
 have HX:=Qq (fun W (hb:Below w w W)=>My _ lv l tn W (hl.below hb))
 obtain ⟨uv,tv,rfl,hu,ht⟩:=hs
 obtain ⟨up,uc,rfl,_⟩:=hu.len
 obtain ⟨tp,tc,rfl,_⟩:=ht.len
 obtain ⟨lp,lc,rfl,dK⟩:=hl.len
 obtain ⟨kp,kc,rfl,cQ⟩:=aP.len
 have HL:=Qq hl;have cB:=Qq aP
 have bU:((Y0 s.tables tn).getD Tbl.zero).key.length≤1000:=by
  cases h:Y0 s.tables tn with
  | none=>simp [Tbl.zero]
  | some t=>exact hkl t (List.mem_of_find?_eq_some h)
 have aQ:Jj s l tn key=(match Y0 s.tables tn,atP (fun r=>decide (r.table=tn)) l with
  | some t,some r=>if key.length=0 then none else atP (lkP t.key key) r.rows
  | _,_=>none):=rfl
 obtain ⟨o,ho⟩:=eX (Jj s l tn key)
 rw [ho] at aQ ⊢
 have aJ:=Qq aQ;have aY:=Qq bU
 clear aQ bU ho hl hl0 aP hkv0 hu ht hkl
 unfold sv at HT HX ⊢
 go_enter func87,ntmps87
 go_wp2_with fail
 refine (HT.out _ (Xm _ _ _ _)).mono ?_
 rintro e w1 ⟨ct,rfl,hT,aA⟩
 obtain ⟨T,aM⟩:=eX ((Y0 s.tables tn).getD Tbl.zero)
 rw [aM] at hT aY
 obtain ⟨cZ,cY,dM,dL,dV,dU,k9,dW,n9,dX,dR,dO,cV,dS,dP,cW,dT,dQ,cX,a9,z9,bR,_⟩:=Yj hT
 simp only [tcs] at bR
 subst bR
 obtain ⟨bE,bF,aH⟩:=Qqo aM hT ((Xm _ _ _ _).thn aA)
 have bJ:=(aA.block (w+1) Qqk).trans (Jq w _ _ _)
 have bL:=(aA.block (w+1+1) Qqk).trans (Zi w _ _ _)
 have aW:=Qq bJ;have aZ:=Qq bL
 clear aM hT aA bJ bL
 obtain ⟨ok,aR⟩:=eX ((Y0 s.tables tn).isSome)
 rw [aR]
 have aK:=Qq aR
 clear aR
 go_upto_region 2 with fail
 generalize aN:w1.alloc _=w5
 have O:=eqB aN (Zg _ _)
 have aO:=eqH (b:=w1.heap.size) aN (Qw _ _)
 obtain ⟨X,hX⟩:=eX (w1.heap.size)
 have bK:=kB O aW.out
 have bM:=kB O aZ.out
 have bO:=Zn.frame bF.out (.of_below O)
 have aF:=aH.out.thn O
 have cL:=aH.out.size
 rw [hX] at aO cL ⊢
 obtain ⟨bH,aX,bA,bD,aI⟩:=Qqr aO bK bM bO aF
 clear O aO aN hX bK bM bO aF aW aZ bF aH HT
 go_wp2_with fail
 refine (HX.out _ aI.out).mono ?_
 rintro e w3 ⟨rfl,I⟩
 have bP:=kB I bH.out
 have aL:=kB I aX.out
 have G:=kB I bA.out
 have bN:=Zn.frame bD.out (.of_below I)
 have aE:=aI.out.thn I
 have k0:=Qk _ _ 0 _ _ _ aL
 obtain ⟨r0,r1,r2,r3,r4⟩:=frz5 G
 have y0:=Qk _ _ 0 _ _ _ G;have y1:=Qk _ _ 1 _ _ _ G;have y2:=Qk _ _ 2 _ _ _ G;have y3:=Qk _ _ 3 _ _ _ G;have y4:=Qk _ _ 4 _ _ _ G
 simp only [Qf,Qg,Qh] at k0 y0 y1 y2 y3 y4
 obtain ⟨bG,cU,M,cE,A⟩:=Qqr bP aL G bN aE
 clear I bP aL G bN aE bH aX bA bD aI HX
 rcases Ve (fun r:Rel=>decide (r.table=tn)) l with ⟨hi,ha⟩ | ⟨i,rl,hi,aS,ha⟩
 ·-- no such relation
  have J:o=none:=by rw [aJ.out,ha];cases Y0 s.tables tn <;> rfl
  have HO:=Qq J
  rw [hi]
  clear J hi ha
  cases ok
  ·go_wp2_with fail
   show bodyPost _ _ _ _ _ (Zl w3 (w+1+1) Qqd Qqd Qqe Qqf Qqf)
   refine Q7 (v:=.tuple #[.agg zV,.bool false]) (by simp [results,results87,go_sem,Zd M.out]) rfl ?_
   rw [HO.out]
   exact ⟨_,rfl,Yw _ _,Zc A.out Qqj⟩
  go_wp2_with fail
  show bodyPost _ _ _ _ _ (Zl w3 (w+1+1) Qqd Qqd Qqe Qqf Qqf)
  refine Q7 (v:=.tuple #[.agg zV,.bool false]) (by simp [results,results87,go_sem,Zd M.out]) rfl ?_
  rw [HO.out]
  exact ⟨_,rfl,Yw _ _,Zc A.out Qqj⟩
 obtain ⟨lb,cS,dN,cJ,cI,_,_,⟨rv,bW,_,aC⟩,bV⟩:=HL.out.elem aS
 subst bW
 have dD:i<l.length:=(Qj aS).1
 have d1:=bV 1 rv rfl
 subst cJ
 rw [hi]
 have dA:(0:Int)≤(i:Int):=Qqj
 have dB:(i:Int)<(l.length:Int):=Qqj
 have dC:decide ((i:Int)<0)=false:=Qqk
 obtain ⟨rp,rc,rfl,cR⟩:=aC.len
 have V:=Qq aJ.out
 rw [ha] at V
 clear aJ hi ha aS bV
 cases ok with
 | false=>
  have J:o=none:=by
   have h:=V.out
   have h2:=aK.out
   cases hn:Y0 s.tables tn with
   | none=>rw [hn] at h;exact h
   | some t=>rw [hn] at h2;cases h2
  have HO:=Qq J
  clear J d1
  go_wp2_with fail
  show bodyPost _ _ _ _ _ (Zl w3 (w+1+1) Qqd Qqd Qqe Qqf Qqf)
  refine Q7 (v:=.tuple #[.agg zV,.bool false]) (by simp [results,results87,go_sem,Zd M.out]) rfl ?_
  rw [HO.out]
  exact ⟨_,rfl,Yw _ _,Zc A.out Qqj⟩
 | true=>
  have J:o=if key.length=0 then none else atP (lkP T.key key) rl.rows:=by
   have h:=V.out
   have h2:=aK.out
   have h3:=bE.out
   cases hn:Y0 s.tables tn with
   | none=>rw [hn] at h2;cases h2
   | some t=>rw [hn] at h h3;rw [show T=t from h3.symm];exact h
  clear V aK bE
  by_cases hk0:key.length=0
  ·rw [if_pos hk0] at J
   have HO:=Qq J
   clear J d1
   rw [hk0] at k0
   go_wp2_with fail
   show bodyPost _ _ _ _ _ (Zl w3 (w+1+1) Qqd Qqd Qqe Qqf Qqf)
   refine Q7 (v:=.tuple #[.agg zV,.bool false]) (by simp [results,results87,go_sem,Zd M.out]) rfl ?_
   rw [HO.out]
   exact ⟨_,rfl,Yw _ _,Zc A.out Qqj⟩
  rw [if_neg hk0] at J
  have dI:((key.length:Int)==0)=false:=by simpa using hk0
  have dJ:decide ((key.length:Int)=0)=false:=by simpa using hk0
  have Y:=Qq J
  have cC:=Qq (aC.mono (S':=fun _=>True) (fun _ _ _=>trivial))
  have bC:=Qq aC
  have e1:=kD A.out cI d1
  rw [show Y7.k=2 from rfl] at e1
  have HI:=Qq (H8 Tryz.ixVal Ze isAgg36 sizeOf36 127 #[Qqc X,Qqc (w+1)] (enters_of func127 Qqy rfl) (fun _=>True) (.slice rp rl.rows.length rc) rl.rows w3 _ (cC.out.below A.out)
   (Qja X (w+1) (fun _=>True) T _ (.slice kp key.length kc) key rl.rows w3 (fun j u h=>by rw [Qk _ _ j _ _ _ bG.out];simpa using h) (Z8 bG.out) cE.out aY.out k0 ((cB.out.below A.out).mono (fun _ _ _=>trivial))))
  clear J aC d1
  go_wp2_with fail
  refine HI.out.mono ?_
  rintro e w6 ⟨rfl,aB⟩
  have Z:=kB aB M.out
  have aG:=A.out.thn aB
  clear r0 r1 r2 r3 r4 y0 y1 y2 y3 y4
  obtain ⟨r0,r1,r2,r3,r4⟩:=frz5 Z
  obtain ⟨y0,y1,y2,y3,y4⟩:=row5 Z
  have e2:=kC aB e1
  have bB:=Qq Z;have D:=Qq aG
  clear Z aG aB e1 HI
  rcases Ve (lkP T.key key) rl.rows with ⟨hj,N⟩ | ⟨j,u,hj,hu,N⟩
  ·rw [N] at Y
   rw [hj]
   have HO:=Y
   clear hj N
   go_wp2_with fail
   show bodyPost _ _ _ _ _ (Zl w6 (w+1+1) Qqd Qqd Qqe Qqf Qqf)
   refine Q7 (v:=.tuple #[.agg zV,.bool false]) (by simp [results,results87,go_sem,Zd bB.out]) rfl ?_
   rw [HO.out]
   exact ⟨_,rfl,Yw _ _,Zc D.out Qqj⟩
  rw [N] at Y
  obtain ⟨xb,cT,p3,k3,p4,k4,cK,U,bX,g0,g1,g2,g3,g4⟩:=bC.out.val hu
  subst cK
  have dH:j<rl.rows.length:=(Qj hu).1
  have dE:(0:Int)≤(j:Int):=Qqj
  have dF:(j:Int)<(rl.rows.length:Int):=Qqj
  have dG:decide ((j:Int)<0)=false:=Qqk
  rw [hj]
  have t0:=kD D.out U g0;have t1:=kD D.out U g1;have t2:=kD D.out U g2;have t3:=kD D.out U g3;have t4:=kD D.out U g4
  have cF:=Qq bX
  clear g0 g1 g2 g3 g4 bX hj N hu
  go_wp2_with fail
  show bodyPost _ _ _ _ _ (Qqm w6 (w+1+1) u p3 k3 p4 k4)
  refine Q7 (v:=.tuple #[.agg (Qqg u p3 k3 p4 k4),.bool true]) (by simp [results,results87,go_sem,Zd bB.out]) rfl ?_
  rw [Y.out]
  refine ⟨_,rfl,?_,Zc D.out Qqj⟩
  exact Z9.move cF.out (fun b hb _=>(Zf (by have:=hb.2;omega)).trans (D.out.block b hb.2)) (fun _ _ h=>h.1)
theorem Rt (S0 S1 S2:Nat→Prop) (s:Sc) (cs:List Value) (lv:Value) (l:List Rel) (tn:Bs) (kv:Value) (key:List Val) (w:World) (hs:Xu S0 w cs s) (hl0:Sl Y7 S1 w lv l) (hkv0:Sl Ze S2 w kv key) (hkl:∀ t ∈ s.tables,t.key.length≤1000):
  Calls prog 87 #[cs,lv,sv tn,kv] w (LookIs w (Jj s l tn key)):=
 (Nr S0 S1 S2 s cs lv l tn kv key w hs hl0 hkv0 hkl).mono fun _ _ ⟨cs',h1,h2,h3⟩=>⟨cs',h1,h2.move (.refl _ _) (fun _ _ _=>trivial),h3⟩
end Go.Proofs.YtdpibdpbgokmoaaGreatDoor
