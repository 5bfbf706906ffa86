import Derived.Test.YtlanplhphiikjaaGreatDoorF19
import Derived.Test.YtlanplhphiikjaaGreatDoorF12
set_option maxRecDepth 100000
set_option maxHeartbeats 400000000
namespace Go.Proofs.YtlanplhphiikjaaGreatDoor
open Go.RowKit Go.Shelf Go.Lib Tryz
def atP {T:Type} (p:T->Bool) (xs:List T):Option T:=match xs.findIdx? p with
 | none=>none
 | some i=>xs[i]?
theorem Uc {T:Type} (p:T->Bool) (xs:List T):(V5 p xs=-1/\atP p xs=none)\/∃ (i:Nat) (x:T),V5 p xs=i/\xs[i]?=some x/\atP p xs=some x:=by
 unfold V5 atP
 cases h:xs.findIdx? p with
 | none=>exact .inl ⟨rfl,rfl⟩
 | some i=>
  obtain ⟨hi,_,_⟩:=List.findIdx?_eq_some_iff_getElem.1 h
  exact .inr ⟨i,xs[i],rfl,Qx hi,Qx hi⟩
def Fy (s:Sc) (l:List Rel) (tn:Bs) (key:List Val):Option Val:=match Ye s.tables tn,atP (fun r=>decide (r.table=tn)) l with
 | some t,some r=>if key.length=0 then none else atP (lkP t.key key) r.rows
 | _,_=>none
def LookIs (w:World) (o:Option Val) (e:Ending) (w':World):Prop:=
 ∃ cs',e=.returned (.tuple #[.agg cs'.toArray,.bool o.isSome])/\Z5 (fun _=>True) w' cs' (o.getD Val.zero)/\Below w w w'
theorem Vz (w:World) (A B C:Obj):(((w.alloc A).alloc B).alloc C).heap[w.heap.size+1]?=some B:=
 ((Zb ((w.alloc A).alloc B) C).block (w+1) Od).trans (Q1 w A B)
def LookIsS (S:Nat->Prop) (w:World) (o:Option Val) (e:Ending) (w':World):Prop:=
 ∃ cs',e=.returned (.tuple #[.agg cs'.toArray,.bool o.isSome])/\Z5 S w' cs' (o.getD Val.zero)/\Below w w w'
theorem Ew (S0 S1 S2:Nat->Prop) (s:Sc) (cs:List Value) (lv:Value) (l:List Rel) (tn:Bs) (kv:Value) (key:List Val) (w:World) (hs:Ug S0 w cs s) (hl0:Sl Yd S1 w lv l) (hkv0:Sl Zc S2 w kv key) (hkl:∀ t ∈ s.tables,t.key.length<=1000):
  Calls prog 121 #[cs,lv,sv tn,kv] w (LookIsS S1 w (Fy s l tn key)):=by
 have hl:=hl0.up
 have aP:Sl Zc (fun b=>b<w) w kv key:=hkv0.mono (fun b hb _=>hb)
 have HT:=Qq (fun W (hb:Below w w W)=>Nm S0 s cs tn W (hs.below hb))
 have HX:=Qq (fun W (hb:Below w w W)=>N4 _ lv l tn W (hl.below hb))
 obtain ⟨uv,tv,rfl,hu,ht⟩:=hs
 obtain ⟨up,uc,rfl,_⟩:=hu.len
 obtain ⟨tp,tc,rfl,_⟩:=ht.len
 obtain ⟨lp,lc,rfl,dK⟩:=hl.len
 obtain ⟨kp,kc,rfl,cQ⟩:=aP.len
 have HL:=Qq hl;have cB:=Qq aP
 have bU:((Ye s.tables tn).getD Tbl.zero).key.length<=1000:=by
  cases h:Ye s.tables tn with
  | none=>simp [Tbl.zero]
  | some t=>exact hkl t (List.mem_of_find?_eq_some h)
 have aQ:Fy s l tn key=(match Ye s.tables tn,atP (fun r=>decide (r.table=tn)) l with
  | some t,some r=>if key.length=0 then none else atP (lkP t.key key) r.rows
  | _,_=>none):=rfl
 obtain ⟨o,ho⟩:=eX (Fy s l tn key)
 rw [ho] at aQ |-
 have aJ:=Qq aQ;have aY:=Qq bU
 clear aQ bU ho hl hl0 aP hkv0 hu ht hkl
 unfold sv at HT HX |-
 go_enter func121,ntmps121
 go_wp2_with fail
 refine (HT.out _ (Yr _ _ _ _)).mono ?_
 rintro e w1 ⟨ct,rfl,hT,aA⟩
 obtain ⟨T,aM⟩:=eX ((Ye s.tables tn).getD Tbl.zero)
 rw [aM] at hT aY
 obtain ⟨cZ,cY,dM,dL,dV,dU,k9,dW,n9,dX,dR,dO,cV,dS,dP,cW,dT,dQ,cX,a9,z9,bR,_⟩:=Zr hT
 simp only [tcs] at bR
 subst bR
 obtain ⟨bE,bF,aH⟩:=Px aM hT ((Yr _ _ _ _).thn aA)
 have bJ:=(aA.block (w+1) Od).trans (Vz w _ _ _)
 have bL:=(aA.block (w+1+1) Od).trans (Z9 w _ _ _)
 have aW:=Qq bJ;have aZ:=Qq bL
 clear aM hT aA bJ bL
 obtain ⟨ok,aR⟩:=eX ((Ye s.tables tn).isSome)
 rw [aR]
 have aK:=Qq aR
 clear aR
 go_upto_region 2 with fail
 generalize aN:w1.alloc _=w5
 have O:=eqB aN (Zb _ _)
 have aO:=eqH (b:=w1.heap.size) aN (Qw _ _)
 obtain ⟨X,hX⟩:=eX (w1.heap.size)
 have bK:=kB O aW.out
 have bM:=kB O aZ.out
 have bO:=Zg.frame bF.out (.of_below O)
 have aF:=aH.out.thn O
 have cL:=aH.out.size
 rw [hX] at aO cL |-
 obtain ⟨bH,aX,bA,bD,aI⟩:=Pw aO bK bM bO aF
 clear O aO aN hX bK bM bO aF aW aZ bF aH HT
 go_wp2_with fail
 refine (HX.out _ aI.out).mono ?_
 rintro e w3 ⟨rfl,J⟩
 have bP:=kB J bH.out
 have aL:=kB J aX.out
 have I:=kB J bA.out
 have bN:=Zg.frame bD.out (.of_below J)
 have aE:=aI.out.thn J
 have k0:=Qk _ _ 0 _ _ _ aL
 obtain ⟨r0,r1,r2,r3,r4⟩:=frz5 I
 have y0:=Qk _ _ 0 _ _ _ I;have y1:=Qk _ _ 1 _ _ _ I;have y2:=Qk _ _ 2 _ _ _ I;have y3:=Qk _ _ 3 _ _ _ I;have y4:=Qk _ _ 4 _ _ _ I
 simp only [Qa,Qb,Qc] at k0 y0 y1 y2 y3 y4
 obtain ⟨bG,cU,M,cE,D⟩:=Pw bP aL I bN aE
 clear J bP aL I bN aE bH aX bA bD aI HX
 rcases Uc (fun r:Rel=>decide (r.table=tn)) l with ⟨hi,ha⟩ | ⟨i,rl,hi,aS,ha⟩
 ·-- no such relation
  have L:o=none:=by rw [aJ.out,ha];cases Ye s.tables tn <;> rfl
  have HO:=Qq L
  rw [hi]
  clear L hi ha
  cases ok
  ·go_wp2_with fail
   show bodyPost _ _ _ _ _ (Zn w3 (w+1+1) On On Oo Ot Ot)
   refine Q2 (v:=.tuple #[.agg zV,.bool false]) (by simp [results,results121,go_sem,Z8 M.out]) rfl ?_
   rw [HO.out]
   exact ⟨_,rfl,Yk _ _,Z7 D.out Oa⟩
  go_wp2_with fail
  show bodyPost _ _ _ _ _ (Zn w3 (w+1+1) On On Oo Ot Ot)
  refine Q2 (v:=.tuple #[.agg zV,.bool false]) (by simp [results,results121,go_sem,Z8 M.out]) rfl ?_
  rw [HO.out]
  exact ⟨_,rfl,Yk _ _,Z7 D.out Oa⟩
 obtain ⟨lb,cS,dN,cJ,cI,_,_,⟨rv,bW,_,aC⟩,bV⟩:=HL.out.elem aS
 subst bW
 have dD:i<l.length:=(Qj aS).1
 have d1:=bV 1 rv rfl
 subst cJ
 rw [hi]
 have dA:(0:Int)<=(i:Int):=Oa
 have dB:(i:Int)<(l.length:Int):=Oa
 have dC:decide ((i:Int)<0)=false:=Od
 obtain ⟨rp,rc,rfl,cR⟩:=aC.len
 have V:=Qq aJ.out
 rw [ha] at V
 clear aJ hi ha aS bV
 cases ok with
 | false=>
  have L:o=none:=by
   have h:=V.out
   have h2:=aK.out
   cases hn:Ye s.tables tn with
   | none=>rw [hn] at h;exact h
   | some t=>rw [hn] at h2;cases h2
  have HO:=Qq L
  clear L d1
  go_wp2_with fail
  show bodyPost _ _ _ _ _ (Zn w3 (w+1+1) On On Oo Ot Ot)
  refine Q2 (v:=.tuple #[.agg zV,.bool false]) (by simp [results,results121,go_sem,Z8 M.out]) rfl ?_
  rw [HO.out]
  exact ⟨_,rfl,Yk _ _,Z7 D.out Oa⟩
 | true=>
  have L:o=if key.length=0 then none else atP (lkP T.key key) rl.rows:=by
   have h:=V.out
   have h2:=aK.out
   have h3:=bE.out
   cases hn:Ye s.tables tn with
   | none=>rw [hn] at h2;cases h2
   | some t=>rw [hn] at h h3;rw [show T=t from h3.symm];exact h
  clear V aK bE
  by_cases hk0:key.length=0
  ·rw [if_pos hk0] at L
   have HO:=Qq L
   clear L d1
   rw [hk0] at k0
   go_wp2_with fail
   show bodyPost _ _ _ _ _ (Zn w3 (w+1+1) On On Oo Ot Ot)
   refine Q2 (v:=.tuple #[.agg zV,.bool false]) (by simp [results,results121,go_sem,Z8 M.out]) rfl ?_
   rw [HO.out]
   exact ⟨_,rfl,Yk _ _,Z7 D.out Oa⟩
  rw [if_neg hk0] at L
  have dI:((key.length:Int)==0)=false:=by simpa using hk0
  have dJ:decide ((key.length:Int)=0)=false:=by simpa using hk0
  have Y:=Qq L
  have cC:=Qq (aC.mono (S':=fun _=>True) (fun _ _ _=>trivial))
  have bC:=Qq aC
  have e1:=kD D.out cI d1
  rw [show Yd.k=2 from rfl] at e1
  have HI:=Qq (G5 Tryz.ixVal Zc isAgg48 sizeOf48 183 #[Om X,Om (w+1)] (enters_of func183 Og rfl) (fun _=>True) (.slice rp rl.rows.length rc) rl.rows w3 _ (cC.out.below D.out)
   (Nk X (w+1) (fun _=>True) T _ (.slice kp key.length kc) key rl.rows w3 (fun j u h=>by rw [Qk _ _ j _ _ _ bG.out];simpa using h) (Z3 bG.out) cE.out aY.out k0 ((cB.out.below D.out).mono (fun _ _ _=>trivial))))
  clear L aC d1
  go_wp2_with fail
  refine HI.out.mono ?_
  rintro e w6 ⟨rfl,aB⟩
  have Z:=kB aB M.out
  have aG:=D.out.thn aB
  clear r0 r1 r2 r3 r4 y0 y1 y2 y3 y4
  obtain ⟨r0,r1,r2,r3,r4⟩:=frz5 Z
  obtain ⟨y0,y1,y2,y3,y4⟩:=row5 Z
  have e2:=kC aB e1
  have bB:=Qq Z;have G:=Qq aG
  clear Z aG aB e1 HI
  rcases Uc (lkP T.key key) rl.rows with ⟨hj,N⟩ | ⟨j,u,hj,hu,N⟩
  ·rw [N] at Y
   rw [hj]
   have HO:=Y
   clear hj N
   go_wp2_with fail
   show bodyPost _ _ _ _ _ (Zn w6 (w+1+1) On On Oo Ot Ot)
   refine Q2 (v:=.tuple #[.agg zV,.bool false]) (by simp [results,results121,go_sem,Z8 bB.out]) rfl ?_
   rw [HO.out]
   exact ⟨_,rfl,Yk _ _,Z7 G.out Oa⟩
  rw [N] at Y
  obtain ⟨xb,cT,p3,k3,p4,k4,cK,U,bX,g0,g1,g2,g3,g4⟩:=bC.out.val hu
  subst cK
  have dH:j<rl.rows.length:=(Qj hu).1
  have dE:(0:Int)<=(j:Int):=Oa
  have dF:(j:Int)<(rl.rows.length:Int):=Oa
  have dG:decide ((j:Int)<0)=false:=Od
  rw [hj]
  have t0:=kD G.out U g0;have t1:=kD G.out U g1;have t2:=kD G.out U g2;have t3:=kD G.out U g3;have t4:=kD G.out U g4
  have cF:=Qq bX
  clear g0 g1 g2 g3 g4 bX hj N hu
  go_wp2_with fail
  show bodyPost _ _ _ _ _ (Pk w6 (w+1+1) u p3 k3 p4 k4)
  refine Q2 (v:=.tuple #[.agg (Ou u p3 k3 p4 k4),.bool true]) (by simp [results,results121,go_sem,Z8 bB.out]) rfl ?_
  rw [Y.out]
  refine ⟨_,rfl,?_,Z7 G.out Oa⟩
  exact Z5.move cF.out (fun b hb _=>(Za (by have:=hb.2;omega)).trans (G.out.block b hb.2)) (fun _ _ h=>h.1)
theorem Mj (S0 S1 S2:Nat->Prop) (s:Sc) (cs:List Value) (lv:Value) (l:List Rel) (tn:Bs) (kv:Value) (key:List Val) (w:World) (hs:Ug S0 w cs s) (hl0:Sl Yd S1 w lv l) (hkv0:Sl Zc S2 w kv key) (hkl:∀ t ∈ s.tables,t.key.length<=1000):
  Calls prog 121 #[cs,lv,sv tn,kv] w (LookIs w (Fy s l tn key)):=
 (Ew S0 S1 S2 s cs lv l tn kv key w hs hl0 hkv0 hkl).mono fun _ _ ⟨cs',h1,h2,h3⟩=>⟨cs',h1,h2.move (.refl _ _) (fun _ _ _=>trivial),h3⟩
end Go.Proofs.YtlanplhphiikjaaGreatDoor
