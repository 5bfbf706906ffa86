import Derived.Test.YtdpibdpbgokmoaaGreatDoorA13
import Derived.Test.YtdpibdpbgokmoaaGreatDoorA09
set_option maxRecDepth 100000
set_option maxHeartbeats 400000000
namespace Go.Proofs.YtdpibdpbgokmoaaGreatDoor
open Go.RowKit Go.Shelf Go.Lib Tryz
def atP {T:Type} (p:T->Bool) (xs:List T):Option T:=match xs.findIdx? p with
 | none=>none
 | some i=>xs[i]?
theorem Vt {T:Type} (p:T->Bool) (xs:List T):(X8 p xs=-1/\atP p xs=none)\/∃ (i:Nat) (x:T),X8 p xs=i/\xs[i]?=some x/\atP p xs=some x:=by
 unfold X8 atP
 cases h:xs.findIdx? p with
 | none=>exact .inl ⟨rfl,rfl⟩
 | some i=>
  obtain ⟨hi,_,_⟩:=List.findIdx?_eq_some_iff_getElem.1 h
  exact .inr ⟨i,xs[i],rfl,Qx hi,Qx hi⟩
def Jx (s:Sc) (l:List Rel) (tn:Bs) (key:List Val):Option Val:=match Yw s.tables tn,atP (λr=>decide (r.table=tn)) l with
 | some t,some r=>if key.length=0 then none else atP (lkP t.key key) r.rows
 | _,_=>none
def LookIs (w:World) (o:Option Val) (e:Ending) (w':World):Prop:=
 ∃ cs',e=.returned (.tuple #[.agg cs'.toArray,.bool o.isSome])/\Z9 (λ_=>True) w' cs' (o.getD Val.zero)/\Below w w w'
theorem J5 (w:World) (A B C:Obj):(((w.alloc A).alloc B).alloc C).heap[w.heap.size+1]?=some B:=
 ((Zg ((w.alloc A).alloc B) C).block (w+1) Ib).trans (Q6 w A B)
def LookIsS (S:Nat->Prop) (w:World) (o:Option Val) (e:Ending) (w':World):Prop:=
 ∃ cs',e=.returned (.tuple #[.agg cs'.toArray,.bool o.isSome])/\Z9 S w' cs' (o.getD Val.zero)/\Below w w w'
theorem Rz (S0 S1 S2:Nat->Prop) (s:Sc) (cs:List Value) (lv:Value) (l:List Rel) (tn:Bs) (kv:Value) (key:List Val) (w:World) (hs:Ve S0 w cs s) (hl0:Sl Yk S1 w lv l) (hkv0:Sl Zc S2 w kv key) (hkl:∀ t ∈ s.tables,t.key.length<=1000):
  Calls prog 87 #[cs,lv,sv tn,kv] w (LookIsS S1 w (Jx s l tn key)):=by
 have hl:=hl0.up
 have aP:Sl Zc (λb=>b<w) w kv key:=hkv0.mono (λb hb _=>hb)
 have HT:=Qq (λW (hb:Below w w W)=>Cm S0 s cs tn W (hs.below hb))
 have HX:=Qq (λW (hb:Below w w W)=>U7 _ lv l tn W (hl.below hb))
 obtain ⟨uv,tv,rfl,hu,ht⟩:=hs
 obtain ⟨up,uc,rfl,_⟩:=hu.len
 obtain ⟨tp,tc,rfl,_⟩:=ht.len
 obtain ⟨lp,lc,rfl,dK⟩:=hl.len
 obtain ⟨kp,kc,rfl,cQ⟩:=aP.len
 have HL:=Qq hl;have cB:=Qq aP
 have bU:((Yw s.tables tn).getD Tbl.zero).key.length<=1000:=by
  cases h:Yw s.tables tn with
  | none=>simp [Tbl.zero]
  | some t=>exact hkl t (List.mem_of_find?_eq_some h)
 have aQ:Jx s l tn key=(match Yw s.tables tn,atP (λr=>decide (r.table=tn)) l with
  | some t,some r=>if key.length=0 then none else atP (lkP t.key key) r.rows
  | _,_=>none):=rfl
 obtain ⟨o,ho⟩:=eX (Jx s l tn key)
 rw [ho] at aQ |-
 have aJ:=Qq aQ;have aY:=Qq bU
 clear aQ bU ho hl hl0 aP hkv0 hu ht hkl
 unfold sv at HT HX |-
 go_enter func87,ntmps87
 go_wp2_with fail
 refine (HT.o _ (Xt _ _ _ _)).mono ?_
 rintro e w1 ⟨ct,rfl,hT,aA⟩
 obtain ⟨T,aM⟩:=eX ((Yw s.tables tn).getD Tbl.zero)
 rw [aM] at hT aY
 obtain ⟨cZ,cY,dM,dL,dV,dU,k9,dW,n9,dX,dR,dO,cV,dS,dP,cW,dT,dQ,cX,a9,z9,bR,_⟩:=Yq hT
 simp only [AL] at bR
 subst bR
 obtain ⟨bE,bF,aH⟩:=Im aM hT ((Xt _ _ _ _).n aA)
 have bJ:=(aA.block (w+1) Ib).trans (J5 w _ _ _)
 have bL:=(aA.block (w+1+1) Ib).trans (Zi w _ _ _)
 have aW:=Qq bJ;have aZ:=Qq bL
 clear aM hT aA bJ bL
 obtain ⟨ok,aR⟩:=eX ((Yw s.tables tn).isSome)
 rw [aR]
 have aK:=Qq aR
 clear aR
 go_upto_region 2 with fail
 generalize aN:w1.alloc _=w5
 have O:=Iq aN (Zg _ _)
 have aO:=Ik (b:=w1.heap.size) aN (Qw _ _)
 obtain ⟨X,hX⟩:=eX (w1.heap.size)
 have bK:=kB O aW.o
 have bM:=kB O aZ.o
 have bO:=Zn.frame bF.o (.f O)
 have aF:=aH.o.n O
 have cL:=aH.o.size
 rw [hX] at aO cL |-
 obtain ⟨bH,aX,bA,bD,aI⟩:=AO aO bK bM bO aF
 clear O aO aN hX bK bM bO aF aW aZ bF aH HT
 go_wp2_with fail
 refine (HX.o _ aI.o).mono ?_
 rintro e w3 ⟨rfl,I⟩
 have bP:=kB I bH.o
 have aL:=kB I aX.o
 have G:=kB I bA.o
 have bN:=Zn.frame bD.o (.f I)
 have aE:=aI.o.n I
 have k0:=Qk _ _ 0 _ _ _ aL
 obtain ⟨r0,r1,r2,r3,r4⟩:=Ip G
 have y0:=Qk _ _ 0 _ _ _ G;have y1:=Qk _ _ 1 _ _ _ G;have y2:=Qk _ _ 2 _ _ _ G;have y3:=Qk _ _ 3 _ _ _ G;have y4:=Qk _ _ 4 _ _ _ G
 simp only [Qf,Qg,Qh] at k0 y0 y1 y2 y3 y4
 obtain ⟨bG,cU,M,cE,A⟩:=AO bP aL G bN aE
 clear I bP aL G bN aE bH aX bA bD aI HX
 rcases Vt (λr:Rel=>decide (r.table=tn)) l with ⟨hi,ha⟩ | ⟨i,rl,hi,aS,ha⟩
 ·-- no such relation
  have J:o=none:=by rw [aJ.o,ha];cases Yw s.tables tn <;> rfl
  have HO:=Qq J
  rw [hi]
  clear J hi ha
  cases ok
  ·go_wp2_with fail
   show bodyPost _ _ _ _ _ (Zl w3 (w+1+1) Ic Ic Ig Ie Ie)
   refine Q7 (v:=.tuple #[.agg zV,.bool false]) (by simp [results,results87,go_sem,Ze M.o]) rfl ?_
   rw [HO.o]
   exact ⟨_,rfl,Y2 _ _,Zd A.o Ia⟩
  go_wp2_with fail
  show bodyPost _ _ _ _ _ (Zl w3 (w+1+1) Ic Ic Ig Ie Ie)
  refine Q7 (v:=.tuple #[.agg zV,.bool false]) (by simp [results,results87,go_sem,Ze M.o]) rfl ?_
  rw [HO.o]
  exact ⟨_,rfl,Y2 _ _,Zd A.o Ia⟩
 obtain ⟨lb,cS,dN,cJ,cI,_,_,⟨rv,bW,_,aC⟩,bV⟩:=HL.o.elem aS
 subst bW
 have dD:i<l.length:=(Qj aS).1
 have d1:=bV 1 rv rfl
 subst cJ
 rw [hi]
 have dA:(0:Int)<=(i:Int):=Ia
 have dB:(i:Int)<(l.length:Int):=Ia
 have dC:decide ((i:Int)<0)=false:=Ib
 obtain ⟨rp,rc,rfl,cR⟩:=aC.len
 have V:=Qq aJ.o
 rw [ha] at V
 clear aJ hi ha aS bV
 cases ok with
 | false=>
  have J:o=none:=by
   have h:=V.o
   have h2:=aK.o
   cases hn:Yw s.tables tn with
   | none=>rw [hn] at h;exact h
   | some t=>rw [hn] at h2;cases h2
  have HO:=Qq J
  clear J d1
  go_wp2_with fail
  show bodyPost _ _ _ _ _ (Zl w3 (w+1+1) Ic Ic Ig Ie Ie)
  refine Q7 (v:=.tuple #[.agg zV,.bool false]) (by simp [results,results87,go_sem,Ze M.o]) rfl ?_
  rw [HO.o]
  exact ⟨_,rfl,Y2 _ _,Zd A.o Ia⟩
 | true=>
  have J:o=if key.length=0 then none else atP (lkP T.key key) rl.rows:=by
   have h:=V.o
   have h2:=aK.o
   have h3:=bE.o
   cases hn:Yw s.tables tn with
   | none=>rw [hn] at h2;cases h2
   | some t=>rw [hn] at h h3;rw [show T=t from h3.symm];exact h
  clear V aK bE
  by_cases hk0:key.length=0
  ·rw [if_pos hk0] at J
   have HO:=Qq J
   clear J d1
   rw [hk0] at k0
   go_wp2_with fail
   show bodyPost _ _ _ _ _ (Zl w3 (w+1+1) Ic Ic Ig Ie Ie)
   refine Q7 (v:=.tuple #[.agg zV,.bool false]) (by simp [results,results87,go_sem,Ze M.o]) rfl ?_
   rw [HO.o]
   exact ⟨_,rfl,Y2 _ _,Zd A.o Ia⟩
  rw [if_neg hk0] at J
  have dI:((key.length:Int)==0)=false:=by simpa using hk0
  have dJ:decide ((key.length:Int)=0)=false:=by simpa using hk0
  have Y:=Qq J
  have cC:=Qq (aC.mono (S':=λ_=>True) (λ_ _ _=>trivial))
  have bC:=Qq aC
  have e1:=kD A.o cI d1
  rw [show Yk.k=2 from rfl] at e1
  have HI:=Qq (Fi Tryz.ixVal Zc isAgg36 sizeOf36 127 #[Iv X,Iv (w+1)] (enters_of func127 Ir rfl) (λ_=>True) (.slice rp rl.rows.length rc) rl.rows w3 _ (cC.o.below A.o)
   (Cx X (w+1) (λ_=>True) T _ (.slice kp key.length kc) key rl.rows w3 (λj u h=>by rw [Qk _ _ j _ _ _ bG.o];simpa using h) (Z8 bG.o) cE.o aY.o k0 ((cB.o.below A.o).mono (λ_ _ _=>trivial))))
  clear J aC d1
  go_wp2_with fail
  refine HI.o.mono ?_
  rintro e w6 ⟨rfl,aB⟩
  have Z:=kB aB M.o
  have aG:=A.o.n aB
  clear r0 r1 r2 r3 r4 y0 y1 y2 y3 y4
  obtain ⟨r0,r1,r2,r3,r4⟩:=Ip Z
  obtain ⟨y0,y1,y2,y3,y4⟩:=If Z
  have e2:=kC aB e1
  have bB:=Qq Z;have D:=Qq aG
  clear Z aG aB e1 HI
  rcases Vt (lkP T.key key) rl.rows with ⟨hj,N⟩ | ⟨j,u,hj,hu,N⟩
  ·rw [N] at Y
   rw [hj]
   have HO:=Y
   clear hj N
   go_wp2_with fail
   show bodyPost _ _ _ _ _ (Zl w6 (w+1+1) Ic Ic Ig Ie Ie)
   refine Q7 (v:=.tuple #[.agg zV,.bool false]) (by simp [results,results87,go_sem,Ze bB.o]) rfl ?_
   rw [HO.o]
   exact ⟨_,rfl,Y2 _ _,Zd D.o Ia⟩
  rw [N] at Y
  obtain ⟨xb,cT,p3,k3,p4,k4,cK,U,bX,g0,g1,g2,g3,g4⟩:=bC.o.val hu
  subst cK
  have dH:j<rl.rows.length:=(Qj hu).1
  have dE:(0:Int)<=(j:Int):=Ia
  have dF:(j:Int)<(rl.rows.length:Int):=Ia
  have dG:decide ((j:Int)<0)=false:=Ib
  rw [hj]
  have t0:=kD D.o U g0;have t1:=kD D.o U g1;have t2:=kD D.o U g2;have t3:=kD D.o U g3;have t4:=kD D.o U g4
  have cF:=Qq bX
  clear g0 g1 g2 g3 g4 bX hj N hu
  go_wp2_with fail
  show bodyPost _ _ _ _ _ (AI w6 (w+1+1) u p3 k3 p4 k4)
  refine Q7 (v:=.tuple #[.agg (Is u p3 k3 p4 k4),.bool true]) (by simp [results,results87,go_sem,Ze bB.o]) rfl ?_
  rw [Y.o]
  refine ⟨_,rfl,?_,Zd D.o Ia⟩
  exact Z9.move cF.o (λb hb _=>(Zf (by have:=hb.2;omega)).trans (D.o.block b hb.2)) (λ_ _ h=>h.1)
theorem Sf (S0 S1 S2:Nat->Prop) (s:Sc) (cs:List Value) (lv:Value) (l:List Rel) (tn:Bs) (kv:Value) (key:List Val) (w:World) (hs:Ve S0 w cs s) (hl0:Sl Yk S1 w lv l) (hkv0:Sl Zc S2 w kv key) (hkl:∀ t ∈ s.tables,t.key.length<=1000):
  Calls prog 87 #[cs,lv,sv tn,kv] w (LookIs w (Jx s l tn key)):=
 (Rz S0 S1 S2 s cs lv l tn kv key w hs hl0 hkv0 hkl).mono λ_ _ ⟨cs',h1,h2,h3⟩=>⟨cs',h1,h2.move (.refl _ _) (λ_ _ _=>trivial),h3⟩
def T3:Rd Bs where
 k:=2
 R _ _ cs x:=cs=[sv x,.slice none 0 0]/\x.length<=1000000
 len h:=by rw [h.1];rfl
 frame h _:=h
 mono h _:=h
def Xe (s:Sc):List Rel:=s.tables.map (λt=>⟨t.name,[]⟩)
theorem Co {E:TypeId} {S:Nat->Prop} {B:Nat} {w:World} {v:Value} {ns:List Bs} {css:List (List Value)} (h:Own T3 E S B w v ns css) (hE:E=70):Ud B w v (ns.map λx=>⟨x,[]⟩) (List.replicate ns.length (.slice none 0 0)):=by
 subst hE
 have hc:css=Yc (ns.map λx=>⟨x,[]⟩) (List.replicate ns.length (.slice none 0 0)):=by
  apply List.ext_getElem?
  intro i
  by_cases G:i<ns.length
  ·have I:=Qx (l:=css) (i:=i) (by rw [h.cs.len];exact G)
   have h2:=Qx G
   have h3:=(h.cs.R i _ _ I h2).1
   rw [I,h3,Dv (r:=⟨ns[i],[]⟩) (rv:=.slice none 0 0) (by rw [List.getElem?_map,h2];rfl) (by rw [List.getElem?_replicate,if_pos G])]
  rw [List.getElem?_eq_none (by rw [h.cs.len];omega),List.getElem?_eq_none (by rw [J1 Ib];simp;omega)]
 refine ⟨Ib,?_,?_,?_,?_⟩
 ·rw [<- hc,Z7];exact h.row
 ·intro r D
  obtain ⟨x,M,rfl⟩:=List.mem_map.1 D
  obtain ⟨i,G⟩:=Zk M
  have N:=(Qj G).1
  exact (h.cs.R i _ _ (Qx (by rw [h.cs.len];exact N)) G).2
 ·intro i r rv D A
  rw [List.getElem?_replicate] at A
  split at A
  ·cases A
   rw [List.getElem?_map] at D
   cases M:ns[i]? with
   | none=>rw [M] at D;cases D
   | some x=>rw [M] at D;cases D;exact ⟨[],Own.nil _ _ _ _ _⟩
  cases A
 intro i j a b g J _ I
 rw [List.getElem?_replicate] at J
 split at J
 ·cases J;cases I
 cases J
def Cq (w:World) (s:Sc) (e:Ending) (w':World):Prop:=∃ p cap,e=.returned (.slice p s.tables.length cap)/\Ud w w' (.slice p s.tables.length cap) (Xe s) (List.replicate s.tables.length (.slice none 0 0))/\Below w w w'
theorem C7 (S0:Nat->Prop) (s:Sc) (cs:List Value) (w:World) (hs:Ve S0 w cs s) (hnl:∀ t ∈ s.tables,t.name.length<=1000000) (hl0:s.tables.length<=1000):
  Calls prog 46 #[cs] w (Cq w s):=by
 obtain ⟨uv,tv,rfl,hu,aP⟩:=hs
 have ht:Sl Zn (λb=>b<w) w tv s.tables:=aP.mono (λb hb _=>hb)
 obtain ⟨up,uc,rfl,_⟩:=hu.len
 obtain ⟨tp,tc,rfl,cF⟩:=ht.len
 have HT:=Qq ht;have aZ:=Qq hnl
 obtain ⟨i0,j1,j2,j3,j4⟩:=Y8 (P:=prog) (t:=70) (z:=.agg #[Ig,Ie]) (n:=2) (b:=40) Ir
 obtain ⟨HJ,aV,aW,aX⟩:=It j1 j2 j3 j4
 clear hu aP ht hnl j1 j2 j3 j4
 unfold Cq Xe
 obtain ⟨n,hn⟩:=eX (s.tables.length)
 rw [hn] at HT hl0 |-
 have HN:=Qq hn
 clear hn
 go_enter func46,ntmps46
 go_wp2_with fail
 generalize N:w.alloc _=T
 have aL:=Iq N (Zg _ _)
 have aJ:=Ik (b:=w.heap.size) N (Qw _ _)
 have Z:=Qq aL;have bE:=Qq aJ
 clear N aL aJ
 have J:w.heap.size<=T.heap.size:=Z.o.size
 go_loopw [3,9] (λo i wr=>∃ (k:Nat) (p:Option Addr) (cap:Nat) (Y:List Bs) (css:List (List Value)),k<=n/\i=.int .i64 k/\o=.slice p k cap/\Y.length=k/\Aside (Y=(s.tables.take k).map Tbl.name) /\
  Own T3 70 (λ_=>False) T wr (.slice p k cap) Y css/\Below T T wr) (λ_ i _=>n - (intOf i).toNat)
 case atStart=>exact ⟨0,none,0,[],[],Q8 _,rfl,rfl,rfl,rfl,Own.nil _ _ _ _ _,Qz _ _⟩
 obtain ⟨k,p,cap,Y,css,cD,rfl,rfl,aN,hE,U,D⟩:=hrel
 have bK:=kB D bE.o
 have bN:=D.size
 obtain ⟨aU,aA,HO,HE,M⟩:=AO D (Z.o.trans (D.mono J)) U hE.o aN
 clear bK D U hE aN
 by_cases hlt:k<n
 ·have cC:(0:Int)<=(k:Int):=Ia
  have bL:(k:Int)<(n:Int):=Ia
  obtain ⟨t,V⟩:∃ t,s.tables[k]?=some t:=⟨_,Qx (by rw [HN.o];exact hlt)⟩
  have aS:=aZ.o t (Qy V)
  have aR:(s.tables.take (k+1)).map Tbl.name=(s.tables.take k).map Tbl.name++[t.name]:=by
   have hk:=(Qj V).1
   rw [Zz hk,List.map_append]
   rw [Qx hk] at V;cases V;rfl
  obtain ⟨tb,cB,ct,rfl,cE,_,O,aQ,A⟩:=(HT.o.below aA.o).elem V
  obtain ⟨bJ,bI,bQ,bP,bY,bX,k9,bZ,n9,cA,bU,bR,bF,bV,bS,bG,bW,bT,bH,a9,z9,aM,_⟩:=Yq aQ
  simp only [AL] at aM
  subst aM
  have d0:=A 0 _ rfl
  have d1:=A 1 _ rfl
  have d2:=A 2 _ rfl
  have d3:=A 3 _ rfl
  have d4:=A 4 _ rfl
  have d5:=A 5 _ rfl
  have d6:=A 6 _ rfl
  have d7:=A 7 _ rfl
  have d8:=A 8 _ rfl
  have d9:=A 9 _ rfl
  have aD:=A 10 _ rfl
  have aE:=A 11 _ rfl
  have aF:=A 12 _ rfl
  simp only [show Zn.k=13 from rfl,Nat.add_zero] at d0 d1 d2 d3 d4 d5 d6 d7 d8 d9 aD aE aF
  have bD:=Qq aS;have bC:=Qq aR
  clear V aS aR aQ A O
  go_upto_region 5 with fail
  obtain ⟨W5,G⟩:=eX (wr.alloc (.cells (AR t bJ bI bQ bP bY bX k9 bZ n9 cA bU bR bF bV bS bG bW bT bH a9 z9) 48))
  rw [G]
  have I:=Iq G (Zg _ _)
  have aK:=Ik (b:=wr.heap.size) G (Qw _ _)
  have x0:=AB aK
  have bA:=Qq (HO.o.below I);have aT:=Qq (aU.o.trans (I.mono bN))
  have aO:T.heap.size<=W5.heap.size:=Ix I.size
  clear G I aK d0 d1 d2 d3 d4 d5 d6 d7 d8 d9 aD aE aF
  go_wp2_with (at_builtin;refine Yo (r:=T3) Ih rfl (.tmp 13) (.tmp 17) _ rfl 70 i0 (.agg #[Ig,Ie]) 40 underlying28 HJ.o aV.o aW.o aX.o rfl Ia (λ_=>False) T W5 (.slice p k cap) Y css [t.name,Ie] t.name rfl bA.o rfl ⟨rfl,bD.o⟩ (by simp [Value.oneCell']) k M.o Ia aO ?_;intro p7 aB aC w7 aI aH;have bB:=Qq aI;have aY:=Qq aH;clear aI aH)
  go_roundw
  case measure=>simp [intOf];omega
  case rel=>exact ⟨k+1,p7,aB,Y++[t.name],aC,Ia,by go_num,rfl,by have:=M.o;simp [this],(show Aside _ from by have:=HE.o;show _=_;rw [this,bC.o]),bB.o,aT.o.trans aY.o.below⟩
 obtain rfl:k=n:=Ia
 have bL:¬ (k:Int)<(k:Int):=Ia
 go_wp2_with fail
 go_ret
 have hE:=HE.o
 rw [Zj (by rw [HN.o];exact Q9 _)] at hE
 have U:=Co (HO.o.move J (λb hb _=>rfl)) rfl
 rw [M.o] at U
 refine ⟨p,cap,rfl,?_,aA.o⟩
 rw [hE,List.map_map] at U
 exact U
def Dj (s:Sc) (l:List Rel) (r:Rf) (v:Val):Bool:=match Yp v r.column with
 | some u=>(Jx s l r.table [u]).isSome
 | none=>false
theorem Qqp {S:Nat->Prop} {w w6:World} {cs:List Value} {u:Val} {b:Nat} {E:TypeId} (hv:Z9 S w cs u) (hb:Below w w w6) (hc:w6.heap[b]?=some (.cells cs.toArray E (0,0))):Sl Zc (λ_=>True) w6 (.slice (some ⟨b,0,none⟩) 1 1) [u]:=
 Sl.of_css (css:=[cs]) Ib (Cs.one (Z9.move hv (.f hb) (λ_ _ _=>trivial))) trivial (Z8 hc) (λj x hx=>by
  rw [Nat.zero_add,Qk _ _ _ _ _ _ hc]
  simpa using hx)
theorem Qkj (A B C:Nat) (S S1 S2:Nat->Prop) (s:Sc) (uv tv lv:Value) (l:List Rel) (r:Rf) (rows:List Val) (w:World) (hA0:w.cell? ⟨A,0,none⟩=some (sv r.column)) (hA1:w.cell? ⟨A,1,none⟩=some (sv r.table))
  (hB0:w.cell? ⟨B,0,none⟩=some uv) (hB1:w.cell? ⟨B,1,none⟩=some tv) (hC:w.cell? ⟨C,0,none⟩=some lv) (hs:Ve S1 w [uv,tv] s) (hl:Sl Yk S2 w lv l) (hkl:∀ t ∈ s.tables,t.key.length<=1000):
  Uv prog 85 #[Iv A,Iv B,Iv C] Zc S rows (Dj s l r) w:=by
 intro W v cs hb _ hr
 have aP:=hs
 obtain ⟨aX,aW,aQ,hu,ht⟩:=aP
 cases aQ
 obtain ⟨up,uc,rfl,_⟩:=hu.len
 obtain ⟨tp,tc,rfl,_⟩:=ht.len
 obtain ⟨lp,lc,rfl,aV⟩:=hl.len
 have a0:=kD hb (Qv w _ hA0) hA0
 have a1:=kD hb (Qv w _ hA1) hA1
 have b0:=kD hb (Qv w _ hB0) hB0
 have b1:=kD hb (Qv w _ hB1) hB1
 have c0:=kD hb (Qv w _ hC) hC
 have aL:A<W.heap.size:=Qv _ _ a0
 have aM:B<W.heap.size:=Qv _ _ b0
 have aN:C<W.heap.size:=Qv _ _ c0
 have Y:=hs.below hb
 have V:=hl.below hb
 have HG:=Qq (λW' (h':Below W W W')=>F8 S v cs r.column W' (Z9.move (show Z9 S W cs v from hr) (.f h') Ij))
 have aD:=Qq (λW' (h':Below W W W') (kv:Value) (u:Val) (hk:Sl Zc (λ_=>True) W' kv [u])=>Sf S1 S2 (λ_=>True) s _ _ l r.table kv [u] W' (Y.below h') (V.below h') hk hkl)
 obtain ⟨p3,k3,p4,k4,D,_⟩:=Z9.cells (show Z9 S W cs v from hr)
 simp only [Il] at D
 subst D
 obtain ⟨res,N⟩:=eX (Dj s l r v)
 rw [N]
 have O:res=(match Yp v r.column with | some u=>(Jx s l r.table [u]).isSome | none=>false):=N.symm
 show Calls prog 85 #[.agg (Is v p3 k3 p4 k4),Iv A,Iv B,Iv C] W (λe w'=>e=.returned (.bool res)/\Below W W w')
 clear N hs hl Y V hb hr hA0 hA1 hB0 hB1 hC hu ht hkl
 unfold sv at *
 cases hg:Yp v r.column with
 | none=>
  rw [hg] at HG O
  have HR:=Qq (show res=false from O)
  clear O hg
  go_enter func85,ntmps85
  go_wp2_with fail
  refine (HG.o _ (Zg _ _)).mono ?_
  rintro e w1 ⟨T,rfl,I,M⟩
  have J:=Qq ((Zg W _).n M)
  obtain ⟨q3,l3,q4,l4,D,_⟩:=Z9.cells I
  simp only [Il,Option.getD_none] at D
  subst D
  clear I M
  go_wp2_with fail
  go_ret
  rw [HR.o]
  exact ⟨rfl,J.o.alloc (Ix J.o.size) _⟩
 | some u=>
  rw [hg] at HG O
  have HR:=Qq (show res=(Jx s l r.table [u]).isSome from O)
  clear O hg
  go_enter func85,ntmps85
  go_wp2_with fail
  refine (HG.o _ (Zg _ _)).mono ?_
  rintro e w1 ⟨T,rfl,I,M⟩
  have G:=(Zg W _).n M
  obtain ⟨q3,l3,q4,l4,D,_⟩:=Z9.cells I
  simp only [Il,Option.getD_some] at D
  subst D
  have aG:=kC G a1
  have aI:=kC G b0
  have aU:=kC G b1
  have aK:=kC G c0
  have aF:=Qq I;have J:=Qq G
  have aR:A<w1.heap.size:=Qv _ _ aG
  have aS:B<w1.heap.size:=Qv _ _ aI
  have aT:C<w1.heap.size:=Qv _ _ aK
  clear a0 a1 b0 b1 c0 M G I aL aM aN
  go_wp2_with fail
  refine (aD.o _ (J.o.n (Zs _ _ _)) _ u (Qqp aF.o (Zs _ _ _) (Q6 _ _ _))).mono ?_
  rintro e w4 ⟨T,rfl,Z,U⟩
  obtain ⟨q3,l3,q4,l4,D,_⟩:=Z9.cells Z
  simp only [Il] at D
  subst D
  have aC:=Qq (J.o.n ((Zs w1 _ _).n U))
  clear Z U
  go_wp2_with fail
  go_ret
  rw [HR.o]
  exact ⟨rfl,aC.o⟩
def Yf (s:Sc) (l:List Rel) (rows:List Val):List Rf->Ft
 | []=>Ft.zero
 | r::rs=>if (X9 12 (Dj s l r) rows).code=0 then Yf s l rows rs else X9 12 (Dj s l r) rows
theorem heap4 (w:World) (A B C D:Obj):((((w.alloc A).alloc B).alloc C).alloc D).heap[w.heap.size]?=some A/\((((w.alloc A).alloc B).alloc C).alloc D).heap[w.heap.size+1]?=some B /\
  ((((w.alloc A).alloc B).alloc C).alloc D).heap[w.heap.size+1+1]?=some C/\((((w.alloc A).alloc B).alloc C).alloc D).heap[w.heap.size+1+1+1]?=some D:=by
 have e3:(((w.alloc A).alloc B).alloc C).heap.size=w.heap.size+1+1+1:=Ib
 have G:=Zg (((w.alloc A).alloc B).alloc C) D
 refine ⟨(G.block _ (by simp;omega)).trans ?_,kE G Ib (J5 _ _ _ _),kE G Ib (Zi _ _ _ _),by rw [<- e3];exact Qw _ _⟩
 exact ((Zg ((w.alloc A).alloc B) C).block _ (by simp;omega)).trans (Q5 _ _ _)
theorem bal4 (w:World) (A B C D:Obj):Below w w ((((w.alloc A).alloc B).alloc C).alloc D):=(Xt w A B C).alloc (Xt w A B C).size _
theorem Th (S0 S1 S2 S3:Nat->Prop) (s:Sc) (cs:List Value) (lv:Value) (l:List Rel) (t:Tbl) (ct:List Value) (rv:Value) (rows:List Val) (w:World) (hs0:Ve S0 w cs s) (hl0:Sl Yk S1 w lv l) (ht0:Zn.R S2 w ct t) (hr0:Sl Zc S3 w rv rows) (hkl:∀ t ∈ s.tables,t.key.length<=1000):
  Calls prog 34 #[cs,lv,ct,rv] w (G5 S3 w (Yf s l rows t.refs)):=by
 have ht:Zn.R (λb=>b<w) w ct t:=Zn.mono ht0 (λb hb _=>hb)
 have hr:=hr0.up
 obtain ⟨HS,HL,cS,cP⟩:=It hs0 hl0 hr hkl
 obtain ⟨uv,tv,rfl,hu,bR⟩:=hs0
 obtain ⟨up,uc,rfl,_⟩:=hu.len
 obtain ⟨tp,tc,rfl,_⟩:=bR.len
 obtain ⟨lp,lc,rfl,eR⟩:=hl0.len
 obtain ⟨rp,rc,rfl,_⟩:=hr.len
 obtain ⟨cX,cW,dL,dK,eD,eC,k9,eE,n9,eF,dP,dM,cT,dQ,dN,cU,dR,dO,cV,a9,z9,Z,_,_,_,aI,_⟩:=Yq ht
 simp only [AL] at Z
 subst Z
 have hn:t.refs.length<=1000000:=by obtain ⟨_,_,_,h⟩:=aI.len;exact h
 obtain ⟨n,aH⟩:=eX (t.refs.length)
 obtain ⟨res,aA⟩:=eX (Yf s l rows t.refs)
 have bF:=Qq aA;have HN:=Qq aH
 rw [aA,aH]
 rw [aH] at hn aI
 have cR:=Qq aI
 clear hl0 ht ht0 hr hr0 hu bR aI aA hkl aH
 go_enter func34,ntmps34
 go_upto_region 1 with fail
 generalize aO:(((w.alloc _).alloc _).alloc _).alloc _=w4
 have bL:Below w w w4:=by rw [<- aO];exact bal4 _ _ _ _ _
 obtain ⟨h0,h1,h2,h3⟩:w4.heap[w.heap.size]?=some (.cells #[.slice up s.sums.length uc,.slice tp s.tables.length tc] 26 (0,0))/\w4.heap[w.heap.size+1]?=some (.cells #[.slice lp l.length lc] 28 (0,0))/\w4.heap[w.heap.size+1+1]?=some (.cells #[t.name,.slice cX t.columns.length cW,.slice dL t.key.length dK,.slice eD n eC,k9,.string eE,n9,.string eF,.slice dP dM cT,.slice dQ dN cU,.slice dR dO cV,a9,z9] 48 (0,0)) /\
   w4.heap[w.heap.size+1+1+1]?=some (.cells zF 38 (0,0)):=by rw [<- aO];exact heap4 _ _ _ _ _
 have c3:=AH h2
 obtain ⟨H0,H1,H3,cM⟩:=It h0 h1 h3 bL
 clear h0 h1 h2 h3 aO bL
 go_wp2_with fail
 go_loopw [15] (λi wr=>∃ k:Nat,k<=n/\i=.int .i64 k/\Aside (Yf s l rows (t.refs.drop k)=res)/\Below w4 w4 wr) (λi _=>n - (intOf i).toNat)
 case atStart=>exact ⟨0,Q8 _,rfl,bF.o,Qz _ _⟩
 obtain ⟨k,eQ,rfl,hE,J⟩:=hrel
 have cO:=Qq J
 have bH:=kB J H0.o
 have bI:=kB J H1.o
 have bJ:=kB J H3.o
 obtain ⟨aV,aW,O⟩:=Im bH bI bJ
 have aL:=Qq (cM.o.n J)
 clear J bH bI bJ
 by_cases hlt:k<n
 ·have eO:(0:Int)<=(k:Int):=Ia
  have eP:(k:Int)<(n:Int):=Ia
  have aG:k<t.refs.length:=by rw [HN.o];exact hlt
  obtain ⟨r,hx⟩:∃ r,t.refs[k]?=some r:=⟨_,Qx aG⟩
  have bN:t.refs.drop k=r::t.refs.drop (k+1):=by rw [Qp aG];rw [Qx aG] at hx;cases hx;rfl
  have bK:(if (X9 12 (Dj s l r) rows).code=0 then Yf s l rows (t.refs.drop (k+1)) else X9 12 (Dj s l r) rows)=res:=by have:=hE.o;rw [bN] at this;exact this
  obtain ⟨ba,oa,cx,dH,eK,-,-,dI,aR⟩:=(cR.o.below aL.o).elem hx
  obtain ⟨bM,dE,dJ⟩:=dI
  subst bM
  have d0:=aR 0 _ rfl;have d1:=aR 1 _ rfl
  simp only [show Di.k=2 from rfl,Nat.add_zero] at d0 d1
  unfold sv at d0 d1
  have U:=Qq bK
  subst dH
  clear hE bK bN aG hx aR dE dJ
  go_upto_region 4 with fail
  generalize aP:wr.alloc _=w5
  have M:=Iq aP (Zg _ _)
  have h5:=Ik (b:=wr.heap.size) aP (Qw _ _)
  have g0:=kB M aV.o
  have g1:=kB M aW.o
  have g3:=kB M O.o
  have D:=aL.o.n M
  have I:=Qq (Ns 12 85 #[Iv wr,Iv w,Iv (w+1)] (enters_of func85 Ir rfl) (λb=>S3 b/\b<w) (.slice rp rows.length rc) rows (Dj s l r) w5 (cS.o.below D)
   (Qkj wr w.heap.size (w+1) _ S0 S1 s _ _ _ l r rows w5 (Qk _ _ 0 _ _ _ h5) (Qk _ _ 1 _ _ _ h5) (Qk _ _ 0 _ _ _ g0) (Qk _ _ 1 _ _ _ g0) (Qk _ _ 0 _ _ _ g1) (HS.o.below D) (HL.o.below D) cP.o))
  obtain ⟨f,hf⟩:=eX (X9 12 (Dj s l r) rows)
  rw [hf] at I U
  obtain ⟨G3,aY,aJ⟩:=Im g3 D (cO.o.n M)
  clear hf aP M h5 g0 g1 g3 D d0 d1
  go_wp2_with fail
  refine I.o.mono ?_
  rintro e w6 ⟨eJ,rfl,bO,aF⟩
  obtain ⟨p3,k3,p4,k4,q3,l3,q4,l4,Z,dF,bQ,bP⟩:=Ue bO
  simp only [fcs] at Z
  subst Z
  have bE:=Qq (kB aF G3.o)
  have aZ:=Qq (aY.o.n aF);have aK:=Qq (aJ.o.n aF)
  have bC:=Qq bQ;have bA:=Qq bP
  clear bO aF bQ bP
  go_upto_region 5 with fail
  generalize aQ:w6.alloc _=w7
  have N:=Iq aQ (Zg _ _)
  have h7:=Ik (b:=w6.heap.size) aQ (Qw _ _)
  have aN:=Qq (kB N bE.o)
  have cN:=Qq (aZ.o.n N);have aX:=Qq (aK.o.n N)
  have bD:=Qq (Z9.move bC.o (.f N) Ij);have bB:=Qq (Z9.move bA.o (.f N) Ij)
  have xx:=λj=>Qk _ _ j _ _ _ h7
  obtain ⟨cB,x1,x2,x3,x4,x5,x6,x7,x8,x9,eH,eI⟩:=AJ xx
  simp only [Qf,Qg,Qh] at cB x1 x2 x3 x4 x5 x6 x7 x8 x9 eH eI
  clear aQ N h7 xx bE aZ aK bC bA I G3 aY aJ aV aW O
  by_cases hc:f.code=0
  ·have aM:=Qq (show Yf s l rows (t.refs.drop (k+1))=res by have:=U.o;rw [if_pos hc] at this;exact this)
   rw [hc] at cB
   clear U
   go_wp2_with fail
   go_roundw
   case measure=>simp [intOf];omega
   case rel=>exact ⟨k+1,Ia,by go_num,aM.o,aX.o⟩
  have aM:=Qq (show f=res by have:=U.o;rw [if_neg hc] at this;exact this)
  have eL:(f.code != 0)=true:=by simpa using hc
  have eM:decide (f.code=0)=false:=by simpa using hc
  have eN:(f.code==0)=false:=by simpa using hc
  clear U
  have fz:=λj=>Qn _ _ j _ _ aN.o
  have rr:=λj=>Qk _ _ j _ _ _ aN.o
  obtain ⟨f0,f1,f2,f3,f4,f5,f6,f7,f8,f9,dA,dB⟩:=AJ fz
  obtain ⟨r0,r1,r2,r3,r4,r5,r6,r7,r8,r9,aS,aT⟩:=AJ rr
  simp only [Qf,Qg,Qh] at r0 r1 r2 r3 r4 r5 r6 r7 r8 r9 aS aT
  clear fz rr
  go_wp2_with fail
  obtain ⟨W,Y⟩:=eX (Y9 w7 (w+1+1+1) f.code f.table f.row.kind f.row.n f.row.s (.slice p3 f.row.names.length k3) (.slice p4 f.row.kids.length k4) f.other.kind f.other.n f.other.s (.slice q3 f.other.names.length l3) (.slice q4 f.other.kids.length l4))
  have q:∀ j,W.cell? ⟨w+1+1+1,j,none⟩=#[.int .i64 f.code,.string ⟨f.table.toArray⟩,.int .i64 f.row.kind,.int .i64 f.row.n,.string ⟨f.row.s.toArray⟩,.slice p3 f.row.names.length k3,.slice p4 f.row.kids.length k4,.int .i64 f.other.kind,.int .i64 f.other.n,.string ⟨f.other.s.toArray⟩,.slice q3 f.other.names.length l3,.slice q4 f.other.kids.length l4][j]?:=λj=>by rw [<- Y];exact Ya aN.o j
  have G:∀ b,b≠w.heap.size+1+1+1->W.heap[b]?=w7.heap[b]?:=λb hb=>by rw [<- Y];exact Xj hb
  have A:Below w w W:=by rw [<- Y];exact Y1 cN.o Ia
  show bodyPost _ _ _ _ _ (Y9 w7 (w+1+1+1) f.code f.table f.row.kind f.row.n f.row.s (.slice p3 f.row.names.length k3) (.slice p4 f.row.kids.length k4) f.other.kind f.other.n f.other.s (.slice q3 f.other.names.length l3) (.slice q4 f.other.kids.length l4))
  rw [Y]
  have T:=Qq A;have V:=Qq G
  obtain ⟨q0,q1,q2,aD,aE,q5,q6,q7,q8,q9,aB,aC⟩:=AJ q
  simp only [Qf,Qg,Qh] at q0 q1 q2 aD aE q5 q6 q7 q8 q9 aB aC
  clear Y A q G
  refine Q7 (v:=.agg (AU f.code f.table f.row p3 k3 p4 k4 f.other q3 l3 q4 l4)) (by simp [results,results34,go_sem,q0,q1,q2,aD,aE,q5,q6,q7,q8,q9,aB,aC]) rfl ⟨_,rfl,?_,T.o⟩
  rw [<- aM.o]
  exact ⟨_,_,rfl,dF,Z9.move bD.o (λb hb _=>V.o b (by have:b<w.heap.size:=hb.2;omega)) (λ_ _ h=>h.1),Z9.move bB.o (λb hb _=>V.o b (by have:b<w.heap.size:=hb.2;omega)) (λ_ _ h=>h.1)⟩
 have hr0:res=Ft.zero:=by
  have:=hE.o
  rw [Qu (by rw [HN.o];omega)] at this
  exact this.symm
 have hd:decide ((k:Int)<(n:Int))=false:=by simpa using hlt
 have cQ:=Qq hr0
 have fz:=λj=>Qn _ _ j _ _ O.o
 have rr:=λj=>Qk _ _ j _ _ _ O.o
 obtain ⟨f0,f1,f2,f3,f4,f5,f6,f7,f8,f9,dA,dB⟩:=AJ fz
 obtain ⟨r0,r1,r2,r3,r4,r5,r6,r7,r8,r9,aS,aT⟩:=AJ rr
 simp only [Qf,Qg,Qh] at r0 r1 r2 r3 r4 r5 r6 r7 r8 r9 aS aT
 clear fz rr hE hr0
 go_wp2_with fail
 obtain ⟨W,Y⟩:=eX (Y9 wr (w+1+1+1) Ic Ig Ic Ic Ig Ie Ie Ic Ic Ig Ie Ie)
 have q:∀ j,W.cell? ⟨w+1+1+1,j,none⟩=zF[j]?:=λj=>by rw [<- Y];exact Ya O.o j
 have G:∀ b,b≠w.heap.size+1+1+1->W.heap[b]?=wr.heap[b]?:=λb hb=>by rw [<- Y];exact Xj hb
 have A:Below w w W:=by rw [<- Y];exact Y1 aL.o Ia
 show bodyPost _ _ _ _ _ (Y9 wr (w+1+1+1) Ic Ig Ic Ic Ig Ie Ie Ic Ic Ig Ie Ie)
 rw [Y]
 have T:=Qq A;have V:=Qq G
 obtain ⟨q0,q1,q2,aD,aE,q5,q6,q7,q8,q9,aB,aC⟩:=AJ q
 simp only [Qf,Qg,Qh] at q0 q1 q2 aD aE q5 q6 q7 q8 q9 aB aC
 clear Y A q G
 refine Q7 (v:=.agg zF) (by simp [results,results34,go_sem,q0,q1,q2,aD,aE,q5,q6,q7,q8,q9,aB,aC]) rfl ⟨[Ic,Ig,Ic,Ic,Ig,Ie,Ie,Ic,Ic,Ig,Ie,Ie],rfl,?_,T.o⟩
 rw [cQ.o]
 exact Kt _ _
def G7 (rows:List Val):Ft:=if 256<rows.length then ⟨4,[],Val.zero,Val.zero⟩ else Ft.zero
theorem con1_any (S0 S1 S:Nat->Prop) (t:Tbl) (ct:List Value) (rv:Value) (rows:List Val) (w:World) (ht:Zn.R S0 w ct t) (hr:Sl Zc S1 w rv rows):
  Calls prog 25 #[ct,rv] w (G5 S w (G7 rows)):=by
 obtain ⟨O,N,V,U,aF,aE,k9,aG,n9,aH,aB,Y,I,aC,Z,J,aD,aA,M,a9,z9,D,_⟩:=Yq ht
 simp only [AL] at D
 subst D
 obtain ⟨rp,rc,rfl,hl⟩:=hr.len
 unfold G7
 clear ht hr
 by_cases h:256<rows.length
 ·rw [if_pos h]
  have hi:(256:Int)<(rows.length:Int):=Ia
  clear h
  go_enter func25,ntmps25
  go_wp2_with fail
  generalize A:(w.alloc _).alloc _=W
  have hb:=Iq A (Zs _ _ _)
  have G:=Ik (b:=w.heap.size+1) A (Q6 _ _ _)
  refine Q7 (v:=.agg #[.int .i64 4,Ig,Ic,Ic,Ig,Ie,Ie,Ic,Ic,Ig,Ie,Ie]) (by simp [results,results25,go_sem,Qk _ _ _ _ _ _ G]) rfl ⟨_,rfl,?_,hb⟩
  exact ⟨_,_,rfl,Ib,Y2 _ _,Y2 _ _⟩
 rw [if_neg h]
 have hi:¬ (256:Int)<(rows.length:Int):=Ia
 have T:decide ((256:Int)<(rows.length:Int))=false:=decide_eq_false hi
 clear h
 go_enter func25,ntmps25
 go_wp2_with fail
 generalize A:(w.alloc _).alloc _=W
 have hb:=Iq A (Zs _ _ _)
 have G:=Ik (b:=w.heap.size+1) A (Q6 _ _ _)
 refine Q7 (v:=.agg zF) (by simp [results,results25,go_sem,Qk _ _ _ _ _ _ G]) rfl ⟨[Ic,Ig,Ic,Ic,Ig,Ie,Ie,Ic,Ic,Ig,Ie,Ie],rfl,?_,hb⟩
 exact Kt _ _
theorem con3_any (S0 S1:Nat->Prop) (t:Tbl) (ct:List Value) (rv:Value) (rows:List Val) (K:Val->List Int) (w:World) (ht:Zn.R S0 w ct t) (hr:Sl Zc S1 w rv rows) (hK:H9 t rows K) (hl:rows.length<=100000) (hkl:t.key.length<=1000):
  Calls prog 31 #[ct,rv] w (G5 S1 w (Uy rows (ust rows.length (rows.map λr=>kb (K r)) rows.length))):=by
 have HU:=Qq (λW (hb:Below w w W)=>Tj S0 (λb=>S1 b/\b<w) t rows K ct rv W (Zn.frame ht (.f hb)) ((hr.mono (λb hb h=>⟨h,hb⟩)).below hb) hK hl hkl)
 obtain ⟨aW,aV,bB,bA,bJ,bI,k9,bK,n9,bL,bF,bC,aS,bG,bD,aT,bH,bE,aU,a9,z9,A,_⟩:=Yq ht
 simp only [AL] at A
 subst A
 obtain ⟨rp,rc,rfl,_⟩:=hr.len
 obtain ⟨f,hf⟩:=eX (Uy rows (ust rows.length (rows.map λr=>kb (K r)) rows.length))
 rw [hf] at HU |-
 clear ht hr hK hf
 go_enter func31,ntmps31
 go_wp2_with fail
 refine (HU.o _ (Zs _ _ _)).mono ?_
 rintro e w5 ⟨aX,rfl,T,M⟩
 obtain ⟨p3,k3,p4,k4,q3,l3,q4,l4,A,U,Y,V⟩:=Ue T
 simp only [fcs] at A
 subst A
 have J:=Qq ((M.block (w+1) Ib).trans (Q6 w _ _))
 have aL:=Qq ((Zs w _ _).n M)
 obtain ⟨aO,aN,aM⟩:=Im Y V U
 have fz:=λj=>Qn _ _ j _ _ J.o
 have rr:=λj=>Qk _ _ j _ _ _ J.o
 obtain ⟨f0,f1,f2,f3,f4,f5,f6,f7,f8,f9,aY,aZ⟩:=AJ fz
 obtain ⟨r0,r1,r2,r3,r4,r5,r6,r7,r8,r9,aP,aQ⟩:=AJ rr
 simp only [Qf,Qg,Qh] at r0 r1 r2 r3 r4 r5 r6 r7 r8 r9 aP aQ
 clear fz rr T M Y V U
 go_wp2_with fail
 obtain ⟨W,O⟩:=eX (Y9 w5 (w+1) f.code f.table f.row.kind f.row.n f.row.s (.slice p3 f.row.names.length k3) (.slice p4 f.row.kids.length k4) f.other.kind f.other.n f.other.s (.slice q3 f.other.names.length l3) (.slice q4 f.other.kids.length l4))
 have q:∀ j,W.cell? ⟨w+1,j,none⟩=#[.int .i64 f.code,.string ⟨f.table.toArray⟩,.int .i64 f.row.kind,.int .i64 f.row.n,.string ⟨f.row.s.toArray⟩,.slice p3 f.row.names.length k3,.slice p4 f.row.kids.length k4,.int .i64 f.other.kind,.int .i64 f.other.n,.string ⟨f.other.s.toArray⟩,.slice q3 f.other.names.length l3,.slice q4 f.other.kids.length l4][j]?:=λj=>by rw [<- O];exact Ya J.o j
 have I:∀ b,b≠w.heap.size+1->W.heap[b]?=w5.heap[b]?:=λb hb=>by rw [<- O];exact Xj hb
 have G:Below w w W:=by rw [<- O];exact Y1 aL.o Ia
 show bodyPost _ _ _ _ _ (Y9 w5 (w+1) f.code f.table f.row.kind f.row.n f.row.s (.slice p3 f.row.names.length k3) (.slice p4 f.row.kids.length k4) f.other.kind f.other.n f.other.s (.slice q3 f.other.names.length l3) (.slice q4 f.other.kids.length l4))
 rw [O]
 have N:=Qq G;have D:=Qq I
 obtain ⟨q0,q1,q2,aB,aC,q5,q6,q7,q8,q9,Z,aA⟩:=AJ q
 simp only [Qf,Qg,Qh] at q0 q1 q2 aB aC q5 q6 q7 q8 q9 Z aA
 clear O G q I
 refine Q7 (v:=.agg (AU f.code f.table f.row p3 k3 p4 k4 f.other q3 l3 q4 l4)) (by simp [results,results31,go_sem,q0,q1,q2,aB,aC,q5,q6,q7,q8,q9,Z,aA]) rfl ⟨_,rfl,?_,N.o⟩
 exact ⟨_,_,rfl,aM.o,Z9.move aO.o (λb hb _=>D.o b (by have:b<w.heap.size:=hb.2;omega)) (λ_ _ h=>h.1),Z9.move aN.o (λb hb _=>D.o b (by have:b<w.heap.size:=hb.2;omega)) (λ_ _ h=>h.1)⟩
theorem con4_any (B C:Nat) (S0 S1 S2 S3:Nat->Prop) (s:Sc) (uv tv' lv:Value) (l:List Rel) (t:Tbl) (ct:List Value) (rv:Value) (rows:List Val) (w:World) (hB0:w.cell? ⟨B,0,none⟩=some uv) (hB1:w.cell? ⟨B,1,none⟩=some tv') (hC:w.cell? ⟨C,0,none⟩=some lv)
  (hs:Ve S0 w [uv,tv'] s) (hl:Sl Yk S1 w lv l) (ht:Zn.R S2 w ct t) (hr:Sl Zc S3 w rv rows) (hkl:∀ t ∈ s.tables,t.key.length<=1000):
  Calls prog 33 #[ct,rv,Iv B,Iv C] w (G5 S3 w (Yf s l rows t.refs)):=by
 have HU:=Qq (λW (hb:Below w w W)=>Th S0 S1 S2 (λb=>S3 b/\b<w) s _ lv l t ct rv rows W (hs.below hb) (hl.below hb) (Zn.frame ht (.f hb)) ((hr.mono (λb hb h=>⟨h,hb⟩)).below hb) hkl)
 obtain ⟨bR,bQ,aS,hu,aB⟩:=hs
 cases aS
 obtain ⟨up,uc,rfl,_⟩:=hu.len
 obtain ⟨tp,tc,rfl,_⟩:=aB.len
 obtain ⟨lp,lc,rfl,_⟩:=hl.len
 obtain ⟨bA,aZ,bF,bE,bN,bM,k9,bO,n9,bP,bJ,bG,aW,bK,bH,aX,bL,bI,aY,a9,z9,A,_⟩:=Yq ht
 simp only [AL] at A
 subst A
 obtain ⟨rp,rc,rfl,_⟩:=hr.len
 obtain ⟨f,hf⟩:=eX (Yf s l rows t.refs)
 rw [hf] at HU |-
 have O:=Qv _ _ hB0
 have T:=Qv _ _ hC
 have O:B<w.heap.size:=O
 have T:C<w.heap.size:=T
 clear ht hr hf hl hu aB
 go_enter func33,ntmps33
 go_wp2_with fail
 refine (HU.o _ (Zs _ _ _)).mono ?_
 rintro e w5 ⟨bB,rfl,V,M⟩
 obtain ⟨p3,k3,p4,k4,q3,l3,q4,l4,A,Y,aA,Z⟩:=Ue V
 simp only [fcs] at A
 subst A
 have J:=Qq ((M.block (w+1) Ib).trans (Q6 w _ _))
 have aO:=Qq ((Zs w _ _).n M)
 obtain ⟨aR,aQ,aP⟩:=Im aA Z Y
 have fz:=λj=>Qn _ _ j _ _ J.o
 have rr:=λj=>Qk _ _ j _ _ _ J.o
 obtain ⟨f0,f1,f2,f3,f4,f5,f6,f7,f8,f9,bC,bD⟩:=AJ fz
 obtain ⟨r0,r1,r2,r3,r4,r5,r6,r7,r8,r9,aT,aU⟩:=AJ rr
 simp only [Qf,Qg,Qh] at r0 r1 r2 r3 r4 r5 r6 r7 r8 r9 aT aU
 clear fz rr V M aA Z Y
 go_wp2_with fail
 obtain ⟨W,U⟩:=eX (Y9 w5 (w+1) f.code f.table f.row.kind f.row.n f.row.s (.slice p3 f.row.names.length k3) (.slice p4 f.row.kids.length k4) f.other.kind f.other.n f.other.s (.slice q3 f.other.names.length l3) (.slice q4 f.other.kids.length l4))
 have q:∀ j,W.cell? ⟨w+1,j,none⟩=#[.int .i64 f.code,.string ⟨f.table.toArray⟩,.int .i64 f.row.kind,.int .i64 f.row.n,.string ⟨f.row.s.toArray⟩,.slice p3 f.row.names.length k3,.slice p4 f.row.kids.length k4,.int .i64 f.other.kind,.int .i64 f.other.n,.string ⟨f.other.s.toArray⟩,.slice q3 f.other.names.length l3,.slice q4 f.other.kids.length l4][j]?:=λj=>by rw [<- U];exact Ya J.o j
 have I:∀ b,b≠w.heap.size+1->W.heap[b]?=w5.heap[b]?:=λb hb=>by rw [<- U];exact Xj hb
 have G:Below w w W:=by rw [<- U];exact Y1 aO.o Ia
 show bodyPost _ _ _ _ _ (Y9 w5 (w+1) f.code f.table f.row.kind f.row.n f.row.s (.slice p3 f.row.names.length k3) (.slice p4 f.row.kids.length k4) f.other.kind f.other.n f.other.s (.slice q3 f.other.names.length l3) (.slice q4 f.other.kids.length l4))
 rw [U]
 have N:=Qq G;have D:=Qq I
 obtain ⟨q0,q1,q2,aE,aF,q5,q6,q7,q8,q9,aC,aD⟩:=AJ q
 simp only [Qf,Qg,Qh] at q0 q1 q2 aE aF q5 q6 q7 q8 q9 aC aD
 clear U G q I
 refine Q7 (v:=.agg (AU f.code f.table f.row p3 k3 p4 k4 f.other q3 l3 q4 l4)) (by simp [results,results33,go_sem,q0,q1,q2,aE,aF,q5,q6,q7,q8,q9,aC,aD]) rfl ⟨_,rfl,?_,N.o⟩
 exact ⟨_,_,rfl,aP.o,Z9.move aR.o (λb hb _=>D.o b (by have:b<w.heap.size:=hb.2;omega)) (λ_ _ h=>h.1),Z9.move aQ.o (λb hb _=>D.o b (by have:b<w.heap.size:=hb.2;omega)) (λ_ _ h=>h.1)⟩
def Ec (t:Tbl) (v:Val) (b:Bool):Prop:=∀ (S0 S1:Nat->Prop) (ct cr:List Value) (w:World),Xs w->Zn.R S0 w ct t->Z9 S1 w cr v ->
 Calls prog 37 #[ct,cr] w λe w'=>e=.returned (.bool b)/\Below w w w'
theorem Rg {t:Tbl} {v:Val} {b:Bool} (hs:Vw t.check=true) (he:EvV t.check (Fg v) (Vq b)) (hl:v.names.length<=v.kids.length):Ec t v b:=
 λS0 S1 ct cr w _ ht hr=>sat_ok S0 S1 t v ct cr b w ht hr hs he hl
theorem sat2_any (X:Nat) (S:Nat->Prop) (t:Tbl) (ct:List Value) (rows:List Val) (p:Val->Bool) (w:World) (hct:∀ j u,ct[j]?=some u->w.cell? ⟨X,j,none⟩=some u) (hXl:X<w) (ht:Zn.R S w ct t) (hkw:Xs w)
  (hev:∀ x ∈ rows,Ec t x (p x)):Uv prog 36 #[Iv X] Zc S rows p w:=by
 intro W x cs hb hx G
 have D:=Zn.frame ht (.f hb)
 have HC:=Qq (λW' (h':Below W W W')=>hev x hx S S ct cs W' ((hkw.below hb).below h') (Zn.frame D (.f h')) (Z9.move (show Z9 S W cs x from G) (.f h') Ij))
 obtain ⟨O,N,aA,Z,aI,aH,k9,aJ,n9,aK,aE,aB,I,aF,aC,J,aG,aD,M,a9,z9,A,_⟩:=Yq D
 simp only [AL] at A
 subst A
 obtain ⟨p3,k3,p4,k4,A,_⟩:=Z9.cells (show Z9 S W cs x from G)
 simp only [Il] at A
 subst A
 have d:=λj u hj=>(hb.cell (p:=⟨X,j,none⟩) hXl).trans (hct j u hj)
 have d0:=d 0 _ rfl
 have d1:=d 1 _ rfl
 have d2:=d 2 _ rfl
 have d3:=d 3 _ rfl
 have d4:=d 4 _ rfl
 have d5:=d 5 _ rfl
 have d6:=d 6 _ rfl
 have d7:=d 7 _ rfl
 have d8:=d 8 _ rfl
 have d9:=d 9 _ rfl
 have T:=d 10 _ rfl
 have U:=d 11 _ rfl
 have V:=d 12 _ rfl
 have Y:X<W.heap.size:=Qv W _ d0
 show Calls prog 36 #[.agg (Is x p3 k3 p4 k4),Iv X] W (λe w'=>e=.returned (.bool (p x))/\Below W W w')
 generalize p x=b at HC |-
 clear d hct ht hb hx G D hev hkw
 go_enter func36,ntmps36
 go_wp2_with (go_at_call 37;refine (HC.o _ (Zg _ _)).mono ?_;rintro e w' ⟨rfl,hw⟩)
 go_ret
 exact ⟨rfl,(Zg _ _).n hw⟩
theorem con5_any (S0 S3:Nat->Prop) (t:Tbl) (ct:List Value) (rv:Value) (rows:List Val) (p:Val->Bool) (w:World) (ht:Zn.R S0 w ct t) (hr:Sl Zc S3 w rv rows) (hkw:Xs w)
  (hev:∀ x ∈ rows,Ec t x (p x)):
  Calls prog 35 #[ct,rv] w (G5 S3 w (X9 13 p rows)):=by
 have HU:=Qq (λW (hb:Below w w W) (hct:∀ j u,ct[j]?=some u->W.cell? ⟨w,j,none⟩=some u) (hl:w<W.heap.size)=>Ns 13 36 #[Iv w] (enters_of func36 Ir rfl) (λb=>S3 b/\b<w) rv rows p W ((hr.mono (λb hb h=>⟨h,hb⟩)).below hb)
  (λW' x cs h1 h2 h3=>sat2_any w (λ_=>True) t ct rows p W hct hl (Zn.mono (Zn.frame ht (.f hb)) (λ_ _ _=>trivial)) (hkw.below hb) hev W' x cs h1 h2 (Z9.move h3 (.refl _ _) (λ_ _ _=>trivial))))
 obtain ⟨aW,aV,bB,bA,bJ,bI,k9,bK,n9,bL,bF,bC,aS,bG,bD,aT,bH,bE,aU,a9,z9,A,_⟩:=Yq ht
 simp only [AL] at A
 subst A
 obtain ⟨rp,rc,rfl,_⟩:=hr.len
 obtain ⟨f,hf⟩:=eX (X9 13 p rows)
 rw [hf] at HU |-
 clear ht hr hf hev hkw
 go_enter func35,ntmps35
 go_wp2_with fail
 refine (HU.o _ (Zs _ _ _) (λj u hj=>by rw [Qk _ _ j _ _ _ (Q5 w _ _)];simpa using hj) (by simp;omega)).mono ?_
 rintro e w5 ⟨aX,rfl,T,M⟩
 obtain ⟨p3,k3,p4,k4,q3,l3,q4,l4,A,U,Y,V⟩:=Ue T
 simp only [fcs] at A
 subst A
 have J:=Qq ((M.block (w+1) Ib).trans (Q6 w _ _))
 have aL:=Qq ((Zs w _ _).n M)
 obtain ⟨aO,aN,aM⟩:=Im Y V U
 have fz:=λj=>Qn _ _ j _ _ J.o
 have rr:=λj=>Qk _ _ j _ _ _ J.o
 obtain ⟨f0,f1,f2,f3,f4,f5,f6,f7,f8,f9,aY,aZ⟩:=AJ fz
 obtain ⟨r0,r1,r2,r3,r4,r5,r6,r7,r8,r9,aP,aQ⟩:=AJ rr
 simp only [Qf,Qg,Qh] at r0 r1 r2 r3 r4 r5 r6 r7 r8 r9 aP aQ
 clear fz rr T M Y V U
 go_wp2_with fail
 obtain ⟨W,O⟩:=eX (Y9 w5 (w+1) f.code f.table f.row.kind f.row.n f.row.s (.slice p3 f.row.names.length k3) (.slice p4 f.row.kids.length k4) f.other.kind f.other.n f.other.s (.slice q3 f.other.names.length l3) (.slice q4 f.other.kids.length l4))
 have q:∀ j,W.cell? ⟨w+1,j,none⟩=#[.int .i64 f.code,.string ⟨f.table.toArray⟩,.int .i64 f.row.kind,.int .i64 f.row.n,.string ⟨f.row.s.toArray⟩,.slice p3 f.row.names.length k3,.slice p4 f.row.kids.length k4,.int .i64 f.other.kind,.int .i64 f.other.n,.string ⟨f.other.s.toArray⟩,.slice q3 f.other.names.length l3,.slice q4 f.other.kids.length l4][j]?:=λj=>by rw [<- O];exact Ya J.o j
 have I:∀ b,b≠w.heap.size+1->W.heap[b]?=w5.heap[b]?:=λb hb=>by rw [<- O];exact Xj hb
 have G:Below w w W:=by rw [<- O];exact Y1 aL.o Ia
 show bodyPost _ _ _ _ _ (Y9 w5 (w+1) f.code f.table f.row.kind f.row.n f.row.s (.slice p3 f.row.names.length k3) (.slice p4 f.row.kids.length k4) f.other.kind f.other.n f.other.s (.slice q3 f.other.names.length l3) (.slice q4 f.other.kids.length l4))
 rw [O]
 have N:=Qq G;have D:=Qq I
 obtain ⟨q0,q1,q2,aB,aC,q5,q6,q7,q8,q9,Z,aA⟩:=AJ q
 simp only [Qf,Qg,Qh] at q0 q1 q2 aB aC q5 q6 q7 q8 q9 Z aA
 clear O G q I
 refine Q7 (v:=.agg (AU f.code f.table f.row p3 k3 p4 k4 f.other q3 l3 q4 l4)) (by simp [results,results35,go_sem,q0,q1,q2,aB,aC,q5,q6,q7,q8,q9,Z,aA]) rfl ⟨_,rfl,?_,N.o⟩
 exact ⟨_,_,rfl,aM.o,Z9.move aO.o (λb hb _=>D.o b (by have:b<w.heap.size:=hb.2;omega)) (λ_ _ h=>h.1),Z9.move aN.o (λb hb _=>D.o b (by have:b<w.heap.size:=hb.2;omega)) (λ_ _ h=>h.1)⟩
end Go.Proofs.YtdpibdpbgokmoaaGreatDoor
