import Derived.Test.YtlanplhphiikjaaGreatDoorF41
set_option maxRecDepth 100000
set_option maxHeartbeats 400000000
namespace Go.Proofs.YtlanplhphiikjaaGreatDoor
open Go.RowKit Go.Shelf Go.Lib Tryz
def G6 (t:Ty) (w:World) (e:Ending) (w':World):Prop:=∃ v p3 k3 p4 k4,e=.returned (.agg (vcs v p3 k3 p4 k4).toArray)/\V15 t v/\Z5 (fun b=>w<=b) w' (vcs v p3 k3 p4 k4) v/\Below w w w'
theorem pick_bd (l:List Int) (i:Nat) (m:Int) (hm:0<m):0<=Xi l i m/\Xi l i m<m:=by
 unfold Xi
 split
 ·exact Uq _ _ hm
 exact ⟨Int.le_refl _,hm⟩
def Kw (w:World) (v:Value) (i:Nat) (m z:Int):Prop:=∀ W,Below w w W->Calls prog 28 #[v,i,m] W fun e w'=>e=.returned (.int .i64 z)/\W=w'
theorem Jg {W W':World} {R:Nat} {a0 a1 a2 a3 a4 a5 a6 x0 x1 x2 x3 x4 x5 x6:Value} {t:TypeId} (h:W.heap[R]?=some (.cells #[x0,x1,x2,x3,x4,x5,x6] t (0,0))) (hW:((((((W.setCell ⟨R,0,none⟩ a0).setCell ⟨R,1,none⟩ a1).setCell ⟨R,2,none⟩ a2).setCell ⟨R,3,none⟩ a3).setCell ⟨R,4,none⟩ a4).setCell ⟨R,5,none⟩ a5).setCell ⟨R,6,none⟩ a6=W'):
  W'.heap[R]?=some (.cells #[a0,a1,a2,a3,a4,a5,a6] t (0,0))/\∀ B,B<=R->Below B W W':=by
 subst hW
 have h1:(W.setCell ⟨R,0,none⟩ a0).heap[R]?=some (.cells #[a0,x1,x2,x3,x4,x5,x6] t (0,0)):=by rw [Qd _ _ _ _ _ _ h];rfl
 have h2:((W.setCell ⟨R,0,none⟩ a0).setCell ⟨R,1,none⟩ a1).heap[R]?=some (.cells #[a0,a1,x2,x3,x4,x5,x6] t (0,0)):=by rw [Qd _ _ _ _ _ _ h1];rfl
 have h3:(((W.setCell ⟨R,0,none⟩ a0).setCell ⟨R,1,none⟩ a1).setCell ⟨R,2,none⟩ a2).heap[R]?=some (.cells #[a0,a1,a2,x3,x4,x5,x6] t (0,0)):=by rw [Qd _ _ _ _ _ _ h2];rfl
 have h4:((((W.setCell ⟨R,0,none⟩ a0).setCell ⟨R,1,none⟩ a1).setCell ⟨R,2,none⟩ a2).setCell ⟨R,3,none⟩ a3).heap[R]?=some (.cells #[a0,a1,a2,a3,x4,x5,x6] t (0,0)):=by rw [Qd _ _ _ _ _ _ h3];rfl
 have h5:(((((W.setCell ⟨R,0,none⟩ a0).setCell ⟨R,1,none⟩ a1).setCell ⟨R,2,none⟩ a2).setCell ⟨R,3,none⟩ a3).setCell ⟨R,4,none⟩ a4).heap[R]?=some (.cells #[a0,a1,a2,a3,a4,x5,x6] t (0,0)):=by rw [Qd _ _ _ _ _ _ h4];rfl
 have h6:((((((W.setCell ⟨R,0,none⟩ a0).setCell ⟨R,1,none⟩ a1).setCell ⟨R,2,none⟩ a2).setCell ⟨R,3,none⟩ a3).setCell ⟨R,4,none⟩ a4).setCell ⟨R,5,none⟩ a5).heap[R]?=some (.cells #[a0,a1,a2,a3,a4,a5,x6] t (0,0)):=by rw [Qd _ _ _ _ _ _ h5];rfl
 have h7:(((((((W.setCell ⟨R,0,none⟩ a0).setCell ⟨R,1,none⟩ a1).setCell ⟨R,2,none⟩ a2).setCell ⟨R,3,none⟩ a3).setCell ⟨R,4,none⟩ a4).setCell ⟨R,5,none⟩ a5).setCell ⟨R,6,none⟩ a6).heap[R]?=some (.cells #[a0,a1,a2,a3,a4,a5,a6] t (0,0)):=by rw [Qd _ _ _ _ _ _ h6];rfl
 exact ⟨h7,fun B D=>((((((((Qz B W).setCell (p:=⟨R,0,none⟩) D _).setCell (p:=⟨R,1,none⟩) D _).setCell (p:=⟨R,2,none⟩) D _).setCell (p:=⟨R,3,none⟩) D _).setCell (p:=⟨R,4,none⟩) D _).setCell (p:=⟨R,5,none⟩) D _).setCell (p:=⟨R,6,none⟩) D _)⟩
theorem Fg {S:Nat->Prop} {w:World} {v:Value} {l:List Int} (hs:Xh S w v l) (hi:Ke l) (i:Nat) (m:Int) (hm:1<=m) (hm2:m<=1000000000):∃ z,Kw w v i m z/\0<=z/\z<m:=
 ⟨_,fun W hb=>Gl S v l i m W (hs.below hb) hi hm hm2,pick_bd l i m Oa⟩
theorem Df (S S1:Nat->Prop) (sv lv:Value) (l:List Int) (at':Nat) (ct:List Value) (w:World) (hs:Xh S w lv l) (hi:Ke l) (ht:Y6 S1 w ct Gen.whole):
  Calls prog 21 #[sv,ct,lv,at'] w (G6 Gen.whole w):=by
 obtain ⟨z,hp,aF,aG⟩:=Fg hs hi at' 12 Of Of
 obtain ⟨U,O,V,T,rfl,_⟩:=(show Y6 S1 w ct (.mk 0 [] 0 [] []) from ht).cells'
 have HP:=Qq hp
 unfold Kw at HP
 clear hs hi ht hp
 go_enter func21,ntmps21
 go_upto_region 31 with fail
 generalize G:World.alloc (World.alloc w _) _=W1
 have M:=eqB G (Zl _ _ _)
 have hz:=eqH (b:=w.heap.size+1) G (Q1 _ _ _)
 have L:=Qq M;have aB:=Qq hz
 have aC:=Z3 hz
 clear M hz G
 go_wp2_with (first | (go_at_call 28;refine (HP.out _ L.out).mono ?_;rintro e w' ⟨rfl,rfl⟩) | (go_at_call 51;refine (Ga _ (fun b=>False) _).mono ?_;rintro e w4 ⟨aE,rfl,J,I⟩;obtain ⟨U,O,V,T,N,_⟩:=Z5.cells J;simp only [vcs] at N;subst N;have D:=kE I aC aB.out;obtain ⟨r0,r1,r2,r3,r4⟩:=row5 D;obtain ⟨f0,f1,f2,f3,f4⟩:=frz5 D;obtain ⟨Y,Z,aA⟩:=Px D (L.out.thn I) J;clear D I J))
 show bodyPost _ _ _ _ _ (Zn w4 (w+1) On (.int .i64 (z - 2)) Oo (.slice U 0 O) (.slice V 0 T))
 exact Q2 (v:=.agg #[On,.int .i64 (z - 2),Oo,.slice U 0 O,.slice V 0 T]) (by simp [results,results21,go_sem,Z8 Y.out]) rfl ⟨Yx (z - 2),U,O,V,T,rfl,.inl ⟨rfl,z - 2,Oa,Oa,rfl⟩,Z5.move aA.out (fun b hb _=>hb.elim) (fun _ _ h=>h.elim),Z7 Z.out Oa⟩
theorem Ng (S S1:Nat->Prop) (sv lv:Value) (l:List Int) (at':Nat) (ct:List Value) (w:World) (hs:Xh S w lv l) (hi:Ke l) (ht:Y6 S1 w ct Gen.yesno):
  Calls prog 21 #[sv,ct,lv,at'] w (G6 Gen.yesno w):=by
 obtain ⟨z,hp,aG,aH⟩:=Fg hs hi at' 2 Of Of
 obtain ⟨O,M,T,N,rfl,_⟩:=(show Y6 S1 w ct (.mk 2 [] 0 [] []) from ht).cells'
 have HP:=Qq hp
 unfold Kw at HP
 clear hs hi ht hp
 go_enter func21,ntmps21
 go_upto_region 5 with fail
 generalize Z:World.alloc (World.alloc w _) _=W1
 have aB:=eqB Z (Zl _ _ _)
 have hz:=eqH (b:=w.heap.size+1) Z (Q1 _ _ _)
 have L:=Qq aB;have aA:=Qq hz
 have aC:=Z3 hz
 clear aB hz Z
 have aI:z=0\/z=1:=Oa
 clear aG aH
 rcases aI with rfl | rfl
 ·go_wp2_with (first | (go_at_call 28;refine (HP.out _ L.out).mono ?_;rintro e w' ⟨rfl,rfl⟩) | (go_at_call 50;refine (Vo _ (fun b=>False) _).mono ?_;rintro e w4 ⟨aE,rfl,I,G⟩;obtain ⟨O,M,T,N,J,_⟩:=Z5.cells I;simp only [vcs] at J;subst J;have D:=kE G aC aA.out;obtain ⟨r0,r1,r2,r3,r4⟩:=row5 D;obtain ⟨f0,f1,f2,f3,f4⟩:=frz5 D;obtain ⟨U,V,Y⟩:=Px D (L.out.thn G) I;clear D G I))
  show bodyPost _ _ _ _ _ (Zn w4 (w+1) (.int .i64 2) On Oo (.slice O 0 M) (.slice T 0 N))
  exact Q2 (v:=.agg #[.int .i64 2,On,Oo,.slice O 0 M,.slice T 0 N]) (by simp [results,results21,go_sem,Z8 U.out]) rfl ⟨Yb false,O,M,T,N,rfl,.inr (.inr (.inl ⟨rfl,0,Of,rfl⟩)),Z5.move Y.out (fun b hb _=>hb.elim) (fun _ _ h=>h.elim),Z7 V.out Oa⟩
 go_wp2_with (first | (go_at_call 28;refine (HP.out _ L.out).mono ?_;rintro e w' ⟨rfl,rfl⟩) | (go_at_call 50;refine (Vo _ (fun b=>False) _).mono ?_;rintro e w4 ⟨aE,rfl,I,G⟩;obtain ⟨O,M,T,N,J,_⟩:=Z5.cells I;simp only [vcs] at J;subst J;have D:=kE G aC aA.out;obtain ⟨r0,r1,r2,r3,r4⟩:=row5 D;obtain ⟨f0,f1,f2,f3,f4⟩:=frz5 D;obtain ⟨U,V,Y⟩:=Px D (L.out.thn G) I;clear D G I))
 show bodyPost _ _ _ _ _ (Zn w4 (w+1) (.int .i64 2) (.int .i64 1) Oo (.slice O 0 M) (.slice T 0 N))
 exact Q2 (v:=.agg #[.int .i64 2,.int .i64 1,Oo,.slice O 0 M,.slice T 0 N]) (by simp [results,results21,go_sem,Z8 U.out]) rfl ⟨Yb true,O,M,T,N,rfl,.inr (.inr (.inl ⟨rfl,1,Of,rfl⟩)),Z5.move Y.out (fun b hb _=>hb.elim) (fun _ _ h=>h.elim),Z7 V.out Oa⟩
theorem Na (S S1:Nat->Prop) (sv lv:Value) (l:List Int) (at':Nat) (ct:List Value) (w:World) (hs:Xh S w lv l) (hi:Ke l) (ht:Y6 S1 w ct Gen.text):
  Calls prog 21 #[sv,ct,lv,at'] w (G6 Gen.text w):=by
 obtain ⟨z,hp,aJ,aK⟩:=Fg hs hi at' 5 Of Of
 obtain ⟨q3,l3,q4,l4,rfl,_⟩:=(show Y6 S1 w ct (.mk 1 [] 0 [] []) from ht).cells'
 have V:=Qq hp
 unfold Kw at V
 clear hs hi ht hp
 go_enter func21,ntmps21
 go_upto_region 3 with fail
 generalize G:World.alloc (World.alloc w _) _=T
 have Y:=eqB G (Zl _ _ _)
 have hz:=eqH (b:=w.heap.size+1) G (Q1 _ _ _)
 have J:=Qq Y;have N:=Qq hz
 have O:=Z3 hz
 clear Y hz G
 have aL:z=0\/z=1\/z=2\/z=3\/z=4:=Oa
 clear aJ aK
 rcases aL with rfl | rfl | rfl | rfl | rfl
 ·go_wp2_with (go_at_call 28;refine (V.out _ (J.out.thn (Zb _ _))).mono ?_;rintro e w' ⟨rfl,rfl⟩;generalize G:World.alloc T _=U;have I:=eqB G (Zb _ _);have hs:=eqH (b:=T.heap.size) G (Qw _ _);have D:=kE I O N.out;have y0:=rA0 hs;obtain ⟨r0,r1,r2,r3,r4⟩:=row5 D;obtain ⟨Z,f1,f2,f3,f4⟩:=frz5 D;have L:=Qq D;have M:=Qq (J.out.thn I);clear hs D I G)
  show bodyPost _ _ _ _ _ (Zn U (w+1) (.int .i64 1) On Oo Ot Ot)
  exact Q2 (v:=.agg #[.int .i64 1,On,Oo,Ot,Ot]) (by simp [results,results21,go_sem,Z8 L.out]) rfl ⟨Vr [],none,0,none,0,rfl,.inr (.inl ⟨rfl,[],Of,rfl⟩),Zu (s:=[]) Of (Sl.nil _ _ _) (Sl.nil _ _ _),Z7 M.out Oa⟩
 ·go_wp2_with (go_at_call 28;refine (V.out _ (J.out.thn (Zb _ _))).mono ?_;rintro e w' ⟨rfl,rfl⟩;generalize G:World.alloc T _=U;have I:=eqB G (Zb _ _);have hs:=eqH (b:=T.heap.size) G (Qw _ _);have D:=kE I O N.out;have y1:=rA1 hs;obtain ⟨r0,r1,r2,r3,r4⟩:=row5 D;obtain ⟨Z,f1,f2,f3,f4⟩:=frz5 D;have L:=Qq D;have M:=Qq (J.out.thn I);clear hs D I G)
  show bodyPost _ _ _ _ _ (Zn U (w+1) (.int .i64 1) On (.string ⟨#[97]⟩) Ot Ot)
  exact Q2 (v:=.agg #[.int .i64 1,On,.string ⟨#[97]⟩,Ot,Ot]) (by simp [results,results21,go_sem,Z8 L.out]) rfl ⟨Vr [97],none,0,none,0,rfl,.inr (.inl ⟨rfl,[97],Of,rfl⟩),Zu (s:=[97]) Of (Sl.nil _ _ _) (Sl.nil _ _ _),Z7 M.out Oa⟩
 ·go_wp2_with (go_at_call 28;refine (V.out _ (J.out.thn (Zb _ _))).mono ?_;rintro e w' ⟨rfl,rfl⟩;generalize G:World.alloc T _=U;have I:=eqB G (Zb _ _);have hs:=eqH (b:=T.heap.size) G (Qw _ _);have D:=kE I O N.out;have y2:=rA2 hs;obtain ⟨r0,r1,r2,r3,r4⟩:=row5 D;obtain ⟨Z,f1,f2,f3,f4⟩:=frz5 D;have L:=Qq D;have M:=Qq (J.out.thn I);clear hs D I G)
  show bodyPost _ _ _ _ _ (Zn U (w+1) (.int .i64 1) On (.string ⟨#[98]⟩) Ot Ot)
  exact Q2 (v:=.agg #[.int .i64 1,On,.string ⟨#[98]⟩,Ot,Ot]) (by simp [results,results21,go_sem,Z8 L.out]) rfl ⟨Vr [98],none,0,none,0,rfl,.inr (.inl ⟨rfl,[98],Of,rfl⟩),Zu (s:=[98]) Of (Sl.nil _ _ _) (Sl.nil _ _ _),Z7 M.out Oa⟩
 ·go_wp2_with (go_at_call 28;refine (V.out _ (J.out.thn (Zb _ _))).mono ?_;rintro e w' ⟨rfl,rfl⟩;generalize G:World.alloc T _=U;have I:=eqB G (Zb _ _);have hs:=eqH (b:=T.heap.size) G (Qw _ _);have D:=kE I O N.out;have y3:=rA3 hs;obtain ⟨r0,r1,r2,r3,r4⟩:=row5 D;obtain ⟨Z,f1,f2,f3,f4⟩:=frz5 D;have L:=Qq D;have M:=Qq (J.out.thn I);clear hs D I G)
  show bodyPost _ _ _ _ _ (Zn U (w+1) (.int .i64 1) On (.string ⟨#[97,98]⟩) Ot Ot)
  exact Q2 (v:=.agg #[.int .i64 1,On,.string ⟨#[97,98]⟩,Ot,Ot]) (by simp [results,results21,go_sem,Z8 L.out]) rfl ⟨Vr [97,98],none,0,none,0,rfl,.inr (.inl ⟨rfl,[97,98],Of,rfl⟩),Zu (s:=[97,98]) Of (Sl.nil _ _ _) (Sl.nil _ _ _),Z7 M.out Oa⟩
 go_wp2_with (go_at_call 28;refine (V.out _ (J.out.thn (Zb _ _))).mono ?_;rintro e w' ⟨rfl,rfl⟩;generalize G:World.alloc T _=U;have I:=eqB G (Zb _ _);have hs:=eqH (b:=T.heap.size) G (Qw _ _);have D:=kE I O N.out;have y4:=rA4 hs;obtain ⟨r0,r1,r2,r3,r4⟩:=row5 D;obtain ⟨Z,f1,f2,f3,f4⟩:=frz5 D;have L:=Qq D;have M:=Qq (J.out.thn I);clear hs D I G)
 show bodyPost _ _ _ _ _ (Zn U (w+1) (.int .i64 1) On (.string ⟨#[195,169]⟩) Ot Ot)
 exact Q2 (v:=.agg #[.int .i64 1,On,.string ⟨#[195,169]⟩,Ot,Ot]) (by simp [results,results21,go_sem,Z8 L.out]) rfl ⟨Vr [195,169],none,0,none,0,rfl,.inr (.inl ⟨rfl,[195,169],Of,rfl⟩),Zu (s:=[195,169]) Of (Sl.nil _ _ _) (Sl.nil _ _ _),Z7 M.out Oa⟩
theorem Ly (S S1 S2:Nat->Prop) (sv' lv:Value) (l:List Int) (at':Nat) (ct:List Value) (w:World) (hs:Xh S w lv l) (hi:Ke l) (hu:Sl Vi S2 w sv' G15.sums) (ht:Y6 S1 w ct G15.colorT) (_hat:(at':Int)<40):
  Calls prog 21 #[sv',ct,lv,at'] w (G6 G15.colorT w):=by
 obtain ⟨z,hp,dN,bV⟩:=Fg hs hi at' 2 Of Of
 have HP:=Qq hp
 unfold Kw at HP
 obtain ⟨q3,l3,q4,l4,rfl,_⟩:=(show Y6 S1 w ct (.mk 3 G15.color.name 0 [] []) from ht).cells'
 obtain ⟨sp,sc,cT,_⟩:=hu.len
 obtain rfl:sv'=.slice sp 2 sc:=cT
 obtain ⟨sb,aW,dO,cS,dM,_,_,cR,bD⟩:=hu.elem (i:=0) (x:=G15.color) rfl
 obtain rfl:sp=some ⟨sb,aW,none⟩:=cS
 obtain ⟨cI,rfl,_,bE⟩:=cR
 obtain ⟨cp,cc,bS,_⟩:=bE.len
 obtain rfl:cI=.slice cp 2 cc:=bS
 have d0:=bD 0 _ rfl;have U:=bD 1 _ rfl
 unfold sv at d0
 simp only [show Vi.k=2 from rfl,Nat.add_zero,Nat.zero_mul] at d0 U
 obtain ⟨j,rfl⟩:∃ j:Nat,z=(j:Int):=⟨z.toNat,Oa⟩
 obtain ⟨c,bQ,aS⟩:∃ c,G15.color.ctors[j]?=some c/\c.arg=Gen.whole/\c.has=false/\V15 G15.colorT (.mk 3 0 c.name [] []):=by
  have hj:j<2:=Oa
  match j,hj with
  | 0,_=>exact ⟨_,rfl,rfl,rfl,.inr (.inr (.inr (.inl ⟨rfl,_,.inl rfl,rfl⟩)))⟩
  | 1,_=>exact ⟨_,rfl,rfl,rfl,.inr (.inr (.inr (.inl ⟨rfl,_,.inr rfl,rfl⟩)))⟩
 obtain ⟨cb,N,dE,cN,dI,_,_,⟨cY,bP,bR,aI⟩,aC⟩:=bE.elem bQ
 obtain rfl:cp=some ⟨cb,N,none⟩:=cN
 subst bP
 obtain ⟨bO,aS⟩:=aS
 rw [bO] at aI
 obtain ⟨t3,k3,t4,k4,rfl,_⟩:=(show Y6 _ w cY (.mk 0 [] 0 [] []) from aI).cells'
 have O:=aC 0 _ rfl;have T:=aC 1 _ rfl;have V:=aC 2 (.int .i64 0) rfl;have Y:=aC 3 (.string ⟨#[]⟩) rfl;have Z:=aC 4 (.int .i64 0) rfl;have e5:=aC 5 (.slice t3 0 k3) rfl;have e6:=aC 6 (.slice t4 0 k4) rfl
 rw [show F8.k=7 from rfl] at O T V Y Z e5 e6
 rw [Nat.add_zero] at O
 unfold sv at O
 obtain ⟨aK,aU,dF⟩:=c
 obtain ⟨cF,bL,bK⟩:=Px aI aS bR
 have dJ:(j:Int)<2:=bV
 have dK:j<2:=Oa
 dsimp only at O T bL bK
 clear hs hi ht hp hu bE bD aC bQ aI aS bR bV bO
 generalize G15.color.name=nm at d0 |-
 have cQ:(nm==nm)=true:=Od
 go_enter func21,ntmps21
 go_wp2_with fail
 generalize aP:World.alloc (World.alloc w _) _=W1
 have aZ:=eqB aP (Zl _ _ _)
 have ha:=eqH (b:=w.heap.size) aP (Q0 _ _ _)
 have hz:=eqH (b:=w.heap.size+1) aP (Q1 _ _ _)
 obtain ⟨cB,cG,cA⟩:=Px aZ hz ha
 have cP:=Z3 hz
 have M:∀ {b j:Nat} {x:Value},w.cell? ⟨b,j,none⟩=some x->W1.cell? ⟨b,j,none⟩=some x:=fun hx=>kC aZ hx
 have d0:=M d0;have U:=M U;have O:=M O;have T:=M T;have V:=M V;have Y:=M Y;have Z:=M Z;have e5:=M e5;have e6:=M e6
 clear M
 clear aZ hz ha aP
 go_loopw [13,14,15] (fun bG _ _ wr=>∃ k:Nat,k<=0/\bG=.int .i64 k/\Aside (Below W1 W1 wr)) (fun bG _ _ _=>1 - (intOf bG).toNat)
 case atStart=>exact ⟨0,Q3 _,rfl,Qz _ _⟩
 obtain ⟨k,hk,rfl,bN⟩:=hrel
 have aR:Below W1 W1 wr:=bN
 have cD:=Qq aR
 have a1:=rA1 ((kB aR cA.out))
 have M:∀ {b j:Nat} {x:Value},W1.cell? ⟨b,j,none⟩=some x->wr.cell? ⟨b,j,none⟩=some x:=fun hx=>kC aR hx
 have d0:=M d0;have U:=M U;have O:=M O;have T:=M T;have V:=M V;have Y:=M Y;have Z:=M Z;have e5:=M e5;have e6:=M e6
 clear M
 clear aR bN
 obtain rfl:k=0:=Oa
 clear hk
 go_upto_region 25 with fail
 go_quiet (fail)
 obtain ⟨wq,bF⟩:=eX (wr.drewN nq)
 have bC:Below wr wr wq:=by rw [<- bF];exact Yv _ _
 rw [bF]
 have M:∀ {b j:Nat} {x:Value},wr.cell? ⟨b,j,none⟩=some x->wq.cell? ⟨b,j,none⟩=some x:=fun hx=>kC bC hx
 have U:=M U;have O:=M O;have T:=M T;have V:=M V;have Y:=M Y;have Z:=M Z;have e5:=M e5;have e6:=M e6
 clear M
 have bJ:=Qq (cD.out.thn bC)
 clear bF bC cQ d0 a1
 go_upto_region 26 with fail
 have HD:=Qq (fun (W:World) (h:Below wq wq W)=>(show Oi W sb (aW+1) (Ol cb N 2 cc)/\Oi W cb (N+j*7) aK/\Oi W cb (N+j*7+1) (.bool aU)/\Oi W cb (N+j*7+2) On/\Oi W cb (N+j*7+3) Oo/\Oi W cb (N+j*7+4) On/\Oi W cb (N+j*7+5) (.slice t3 0 k3)/\Oi W cb (N+j*7+6) (.slice t4 0 k4) from ⟨kC h U,kC h O,kC h T,kC h V,kC h Y,kC h Z,kC h e5,kC h e6⟩))
 have aX:=Qq (cB.out.thn bJ.out)
 clear U O T V Y Z e5 e6
 go_cut [14] from 139 to 173 (fun cX wx=>∃ G,cX=.pointer (some ⟨G,0,none⟩)/\wx.heap[G]?=some (.cells #[aK,.bool aU,On,Oo,On,.slice t3 0 k3,.slice t4 0 k4] 73 (0,0))/\Below wq wq wx/\wq.heap.size<=G)
 case first=>
  have HS:=Qq (show Below wq wq wq.drew from (Qz _ _).drew)
  refine wp_region_held_drew (S:=(fun (W:World)=>Below wq wq W)) Og HS.out (fun L=>?_)
  refine tkD (v:=?_) 0 (fun J I=>?_) ?_;rotate_left
  ·(obtain ⟨U,O,T,V,Y,Z,e5,e6⟩:=HD.out J I;go_simp;try with_reducible rfl)
  refine tkD (v:=?_) 1 (fun J I=>?_) ?_;rotate_left
  ·(obtain ⟨U,O,T,V,Y,Z,e5,e6⟩:=HD.out J I;go_simp;try with_reducible rfl)
  refine tkD (v:=?_) 2 (fun J I=>?_) ?_;rotate_left
  ·(obtain ⟨U,O,T,V,Y,Z,e5,e6⟩:=HD.out J I;go_simp;try with_reducible rfl)
  refine tkD (v:=?_) 3 (fun J I=>?_) ?_;rotate_left
  ·(obtain ⟨U,O,T,V,Y,Z,e5,e6⟩:=HD.out J I;go_simp;try with_reducible rfl)
  refine tkD (v:=?_) 4 (fun J I=>?_) ?_;rotate_left
  ·(obtain ⟨U,O,T,V,Y,Z,e5,e6⟩:=HD.out J I;go_simp;try with_reducible rfl)
  refine tkD (v:=?_) 5 (fun J I=>?_) ?_;rotate_left
  ·(obtain ⟨U,O,T,V,Y,Z,e5,e6⟩:=HD.out J I;go_simp;try with_reducible rfl)
  refine tkD (v:=?_) 6 (fun J I=>?_) ?_;rotate_left
  ·(obtain ⟨U,O,T,V,Y,Z,e5,e6⟩:=HD.out J I;go_simp;try with_reducible rfl)
  refine tkD (v:=?_) 7 (fun J I=>?_) ?_;rotate_left
  ·(obtain ⟨U,O,T,V,Y,Z,e5,e6⟩:=HD.out J I;go_simp;try with_reducible rfl)
  refine tkD (v:=?_) 8 (fun J I=>?_) ?_;rotate_left
  ·(obtain ⟨U,O,T,V,Y,Z,e5,e6⟩:=HD.out J I;go_simp;try with_reducible rfl)
  refine tkD (v:=?_) 9 (fun J I=>?_) ?_;rotate_left
  ·(obtain ⟨U,O,T,V,Y,Z,e5,e6⟩:=HD.out J I;go_simp;try with_reducible rfl)
  refine tkD (v:=?_) 10 (fun J I=>?_) ?_;rotate_left
  ·(obtain ⟨U,O,T,V,Y,Z,e5,e6⟩:=HD.out J I;go_simp;try with_reducible rfl)
  refine tkD (v:=?_) 11 (fun J I=>?_) ?_;rotate_left
  ·(obtain ⟨U,O,T,V,Y,Z,e5,e6⟩:=HD.out J I;go_simp;try with_reducible rfl)
  refine tkD (v:=?_) 12 (fun J I=>?_) ?_;rotate_left
  ·(obtain ⟨U,O,T,V,Y,Z,e5,e6⟩:=HD.out J I;go_simp;try with_reducible rfl)
  generalize wq.drew=wd at L HS |-
  refine rsD [13,16] ?_
  refine rcD (fun K hK=>?_) ?_
  ·skip
   go_simp
   refine (HP.out _ (aX.out.thn HS.out)).mono ?_
   rintro e w' ⟨rfl,rfl⟩
   try dsimp only
   refine hK.out _ _ HS.out (fun L=>?_)
   clear hK K
   refine tkD (v:=?_) 14 (fun J I=>?_) ?_;rotate_left
   ·(obtain ⟨U,O,T,V,Y,Z,e5,e6⟩:=HD.out J I;go_simp;try with_reducible rfl)
   refine tkD (v:=?_) 15 (fun J I=>?_) ?_;rotate_left
   ·(obtain ⟨U,O,T,V,Y,Z,e5,e6⟩:=HD.out J I;go_simp;try with_reducible rfl)
   refine rdD 16 (fun K hK=>?_) Qh
   go_simp
   generalize aG:World.alloc wd _=we
   have aM:=Zp aG
   have D:=Y5 aG
   have aF:=Qq (HS.out.thn aM)
   have cO:=Z3 D
   have aN:wq.heap.size<=wd.heap.size:=HS.out.size
   have aJ:=Qq D
   clear aM aG D
   try dsimp only
   refine hK.out _ _ aF.out (fun L=>?_)
   clear hK K
   have D:=aJ.out
   have f0:=fA 0 D;have f1:=fA 1 D;have f2:=fA 2 D;have f3:=fA 3 D;have f4:=fA 4 D;have f5:=fA 5 D;have f6:=fA 6 D
   have y0:=rA0 D;have y1:=rA1 D;have y2:=rA2 D;have y3:=rA3 D;have y4:=rA4 D;have y5:=rA5 D;have y6:=rA6 D
   clear D
   refine rdD 17 (fun K hK=>?_) Qh
   go_simp
   generalize aY:World.setCell (World.setCell _ _ _) _ _=wf
   obtain ⟨hA,hB⟩:=Jg aJ.out aY
   have aL:=aF.out.trans (hB _ aN)
   refine hK.out _ _ aL (fun L=>?_)
   clear hK K f0 f1 f2 f3 f4 f5 f6 y0 y1 y2 y3 y4 y5 y6
   refine wpAnyH_done Og ?_ _
   go_wp2_with fail
   go_meet
   exact ⟨wd.heap.size,rfl,hA,aL,aN⟩
  refine rcD (fun K hK=>?_) Qh
  go_simp
  generalize aG:World.alloc wd _=we
  have aM:=Zp aG
  have D:=Y5 aG
  have aF:=Qq (HS.out.thn aM)
  have cO:=Z3 D
  have aN:wq.heap.size<=wd.heap.size:=HS.out.size
  have aJ:=Qq D
  clear aM aG D
  try dsimp only
  refine hK.out _ _ aF.out (fun L=>?_)
  clear hK K
  refine rdD 13 (fun K hK=>?_) Qh
  go_simp
  refine (HP.out _ (aX.out.thn aF.out)).mono ?_
  rintro e w' ⟨rfl,rfl⟩
  try dsimp only
  refine hK.out _ _ aF.out (fun L=>?_)
  clear hK K
  refine tkD (v:=?_) 14 (fun J I=>?_) ?_;rotate_left
  ·(obtain ⟨U,O,T,V,Y,Z,e5,e6⟩:=HD.out J I;go_simp;try with_reducible rfl)
  refine tkD (v:=?_) 15 (fun J I=>?_) ?_;rotate_left
  ·(obtain ⟨U,O,T,V,Y,Z,e5,e6⟩:=HD.out J I;go_simp;try with_reducible rfl)
  have D:=aJ.out
  have f0:=fA 0 D;have f1:=fA 1 D;have f2:=fA 2 D;have f3:=fA 3 D;have f4:=fA 4 D;have f5:=fA 5 D;have f6:=fA 6 D
  have y0:=rA0 D;have y1:=rA1 D;have y2:=rA2 D;have y3:=rA3 D;have y4:=rA4 D;have y5:=rA5 D;have y6:=rA6 D
  clear D
  refine rdD 17 (fun K hK=>?_) Qh
  go_simp
  generalize aY:World.setCell (World.setCell _ _ _) _ _=wf
  obtain ⟨hA,hB⟩:=Jg aJ.out aY
  have aL:=aF.out.trans (hB _ aN)
  refine hK.out _ _ aL (fun L=>?_)
  clear hK K f0 f1 f2 f3 f4 f5 f6 y0 y1 y2 y3 y4 y5 y6
  refine wpAnyH_done Og ?_ _
  go_wp2_with fail
  go_meet
  exact ⟨wd.heap.size,rfl,hA,aL,aN⟩
 obtain ⟨G,rfl,hG,bB,dG⟩:=hcut
 have bI:=Qq (bJ.out.thn bB);have bM:=Qq (aX.out.thn bB)
 have dH:=Z3 hG
 have HG:=Qq hG
 have dD:=Qq (cF.out.move (.of_below bM.out) (fun b _ h=>h))
 clear HD bB
 have g0:=rA0 hG;have g1:=rA1 hG;have g2:=rA2 hG;have g3:=rA3 hG;have g4:=rA4 hG;have g5:=rA5 hG;have g6:=rA6 hG
 clear hG
 have dL:w.heap.size+1<wc.heap.size:=Ob bI.out.size
 obtain ⟨rfl,bT⟩:=bL.out
 go_upto_region 30 with fail
 generalize hV:wc.alloc _=V1
 have bA:=Zp hV
 have hv:=Y5 hV
 have aQ:=kE (bI.out.thn bA) cP cG.out
 obtain ⟨v0,v1,v2,v3,v4⟩:=row5 hv
 obtain ⟨r0,r1,r2,r3,r4⟩:=row5 aQ
 obtain ⟨f0,f1,f2,f3,f4⟩:=frz5 aQ
 have cH:=Qq aQ;have cC:=Qq (bM.out.thn bA)
 clear hV hv aQ bA g0 g1 g2 g3 g4 g5 g6
 go_wp2_with fail
 show bodyPost _ _ _ _ _ (Zn V1 (w+1) (.int .i64 3) On aK Ot Ot)
 exact Q2 (v:=.agg #[.int .i64 3,On,aK,Ot,Ot]) (by simp [results,results21,go_sem,Z8 cH.out]) rfl ⟨.mk 3 0 aK [] [],none,0,none,0,rfl,bT,Zu bK.out (Sl.nil _ _ _) (Sl.nil _ _ _),Z7 cC.out Oa⟩
theorem Nl (S S1 S2:Nat->Prop) (sv' lv:Value) (l:List Int) (at':Nat) (ct:List Value) (w:World) (hs:Xh S w lv l) (hi:Ke l) (hu:Sl Vi S2 w sv' G15.sums) (ht:Y6 S1 w ct G15.sizeT) (hat:(at':Int)<40):
  Calls prog 21 #[sv',ct,lv,at'] w (G6 G15.sizeT w):=by
 obtain ⟨z,hp,gA,dI⟩:=Fg hs hi at' 2 Of Of
 have cK:=Qq (fun W cs (hb:Below w w W) (h:Y6 (fun _=>True) W cs Gen.whole)=>Df S (fun _=>True) sv' lv l (at'+7) cs W (hs.below hb) hi h)
 rw [show ((at'+7:Nat):Int)=(at':Int)+7 from rfl] at cK
 have HP:=Qq hp
 unfold Kw at HP
 obtain ⟨q3,l3,q4,l4,rfl,_⟩:=(show Y6 S1 w ct (.mk 3 G15.size.name 0 [] []) from ht).cells'
 obtain ⟨sp,sc,fB,_⟩:=hu.len
 obtain rfl:sv'=.slice sp 2 sc:=fB
 obtain ⟨sb,aU,gB,eZ,fX,_,_,eY,bY⟩:=hu.elem (i:=1) (x:=G15.size) rfl
 obtain rfl:sp=some ⟨sb,aU,none⟩:=eZ
 obtain ⟨eF,rfl,_,bZ⟩:=eY
 obtain ⟨cp,cc,cZ,_⟩:=bZ.len
 obtain rfl:eF=.slice cp 2 cc:=cZ
 have d0:=bY 0 _ rfl;have V:=bY 1 _ rfl
 obtain ⟨fG,cD,fP,bJ,_,_,_,dD,aR⟩:=hu.elem (i:=0) (x:=G15.color) rfl
 obtain ⟨rfl,rfl⟩:sb=fG/\aU=cD:=by injection bJ with e;injection e with T U;exact ⟨T,U⟩
 obtain ⟨cN,rfl,_,bI⟩:=dD
 obtain ⟨eE,eD,cA,_⟩:=bI.len
 obtain rfl:cN=.slice eE 2 eD:=cA
 have b0:=aR 0 _ rfl;have b2:=aR 1 _ rfl
 have hq:((G15.color.name:Bs)==G15.size.name)=false:=Of
 unfold sv at b0 d0
 simp only [show Vi.k=2 from rfl,Nat.add_zero,Nat.zero_mul,Nat.one_mul] at b0 b2 d0 V
 obtain ⟨j,rfl⟩:∃ j:Nat,z=(j:Int):=⟨z.toNat,Oa⟩
 obtain ⟨c,cX,bA⟩:∃ c,G15.size.ctors[j]?=some c/\c.arg=Gen.whole/\(c.has=false/\V15 G15.sizeT (.mk 3 0 c.name [] [])\/c.has=true/\∀ z:Int,-2<=z->z<=9->V15 G15.sizeT (.mk 3 0 c.name [] [Yx z])):=by
  have hj:j<2:=Oa
  match j,hj with
  | 0,_=>exact ⟨_,rfl,rfl,.inl ⟨rfl,.inr (.inr (.inr (.inr ⟨rfl,.inl rfl⟩)))⟩⟩
  | 1,_=>exact ⟨_,rfl,rfl,.inr ⟨rfl,fun z h1 h2=>.inr (.inr (.inr (.inr ⟨rfl,.inr ⟨z,h1,h2,rfl⟩⟩)))⟩⟩
 obtain ⟨cb,N,fQ,eQ,fU,_,_,⟨fI,cW,cY,aL⟩,aC⟩:=bZ.elem cX
 obtain rfl:cp=some ⟨cb,N,none⟩:=eQ
 subst cW
 obtain ⟨cV,bA⟩:=bA
 rw [cV] at aL
 obtain ⟨t3,k3,t4,k4,rfl,_⟩:=(show Y6 _ w fI (.mk 0 [] 0 [] []) from aL).cells'
 have O:=aC 0 _ rfl;have T:=aC 1 _ rfl;have U:=aC 2 (.int .i64 0) rfl;have Y:=aC 3 (.string ⟨#[]⟩) rfl;have Z:=aC 4 (.int .i64 0) rfl;have e5:=aC 5 (.slice t3 0 k3) rfl;have e6:=aC 6 (.slice t4 0 k4) rfl
 rw [show F8.k=7 from rfl] at O T U Y Z e5 e6
 rw [Nat.add_zero] at O
 unfold sv at O
 obtain ⟨aD,bG,fR⟩:=c
 obtain ⟨dW,cJ,bN⟩:=Px aL bA cY
 have fV:(j:Int)<2:=dI
 have fW:j<2:=Oa
 dsimp only at O T cJ bN
 clear hs hi ht hp hu bZ bY aC cX aL bA cY dI cV aR bI bJ
 generalize G15.size.name=nm at hq d0 |-
 generalize G15.color.name=n0 at hq b0
 have eW:(nm==nm)=true:=Od
 go_enter func21,ntmps21
 go_wp2_with fail
 generalize aW:World.alloc (World.alloc w _) _=W1
 have bV:=eqB aW (Zl _ _ _)
 have ha:=eqH (b:=w.heap.size) aW (Q0 _ _ _)
 have hz:=eqH (b:=w.heap.size+1) aW (Q1 _ _ _)
 obtain ⟨dQ,cM,dP⟩:=Px bV hz ha
 have dC:=Z3 hz
 have J:∀ {b j:Nat} {x:Value},w.cell? ⟨b,j,none⟩=some x->W1.cell? ⟨b,j,none⟩=some x:=fun hx=>kC bV hx
 have d0:=J d0;have V:=J V;have b0:=J b0;have b2:=J b2;have O:=J O;have T:=J T;have U:=J U;have Y:=J Y;have Z:=J Z;have e5:=J e5;have e6:=J e6
 clear J
 clear bV hz ha aW
 go_loopw [13,14,15] (fun cE _ _ wr=>∃ k:Nat,k<=1/\cE=.int .i64 k/\Aside (Below W1 W1 wr)) (fun cE _ _ _=>2 - (intOf cE).toNat)
 case atStart=>exact ⟨0,Q3 _,rfl,Qz _ _⟩
 obtain ⟨k,hk,rfl,cS⟩:=hrel
 have aZ:Below W1 W1 wr:=cS
 have cI:=Qq aZ
 have a1:=rA1 ((kB aZ dP.out))
 have J:∀ {b j:Nat} {x:Value},W1.cell? ⟨b,j,none⟩=some x->wr.cell? ⟨b,j,none⟩=some x:=fun hx=>kC aZ hx
 have d0:=J d0;have V:=J V;have b0:=J b0;have b2:=J b2;have O:=J O;have T:=J T;have U:=J U;have Y:=J Y;have Z:=J Z;have e5:=J e5;have e6:=J e6
 clear J
 clear aZ cS
 have eR:k=0\/k=1:=Oa
 clear hk
 rcases eR with rfl | rfl
 ·go_upto_region 25 with fail
  go_quiet (fail)
  go_wp2_with fail
  go_roundw
  case measure=>simp [intOf]
  case rel=>exact ⟨1,Oa,by go_num,cI.out.thn (Yv _ _)⟩
 skip
 go_upto_region 25 with fail
 go_quiet (fail)
 obtain ⟨wq,cB⟩:=eX (wr.drewN nq)
 have bX:Below wr wr wq:=by rw [<- cB];exact Yv _ _
 rw [cB]
 have J:∀ {b j:Nat} {x:Value},wr.cell? ⟨b,j,none⟩=some x->wq.cell? ⟨b,j,none⟩=some x:=fun hx=>kC bX hx
 have V:=J V;have O:=J O;have T:=J T;have U:=J U;have Y:=J Y;have Z:=J Z;have e5:=J e5;have e6:=J e6
 clear J
 have cH:=Qq (cI.out.thn bX)
 clear cB bX eW d0 a1 hq b0 b2
 go_upto_region 26 with fail
 have HD:=Qq (fun (W:World) (h:Below wq wq W)=>(show Oi W sb (aU+2+1) (Ol cb N 2 cc)/\Oi W cb (N+j*7) aD/\Oi W cb (N+j*7+1) (.bool bG)/\Oi W cb (N+j*7+2) On/\Oi W cb (N+j*7+3) Oo/\Oi W cb (N+j*7+4) On/\Oi W cb (N+j*7+5) (.slice t3 0 k3)/\Oi W cb (N+j*7+6) (.slice t4 0 k4) from ⟨kC h V,kC h O,kC h T,kC h U,kC h Y,kC h Z,kC h e5,kC h e6⟩))
 have bQ:=Qq (dQ.out.thn cH.out)
 clear V O T U Y Z e5 e6
 go_cut [14] from 139 to 173 (fun fH wx=>∃ G,fH=.pointer (some ⟨G,0,none⟩)/\wx.heap[G]?=some (.cells #[aD,.bool bG,On,Oo,On,.slice t3 0 k3,.slice t4 0 k4] 73 (0,0))/\Below wq wq wx/\wq.heap.size<=G)
 case first=>
  have HS:=Qq (show Below wq wq wq.drew from (Qz _ _).drew)
  refine wp_region_held_drew (S:=(fun (W:World)=>Below wq wq W)) Og HS.out (fun M=>?_)
  refine tkD (v:=?_) 0 (fun L I=>?_) ?_;rotate_left
  ·(obtain ⟨V,O,T,U,Y,Z,e5,e6⟩:=HD.out L I;go_simp;try with_reducible rfl)
  refine tkD (v:=?_) 1 (fun L I=>?_) ?_;rotate_left
  ·(obtain ⟨V,O,T,U,Y,Z,e5,e6⟩:=HD.out L I;go_simp;try with_reducible rfl)
  refine tkD (v:=?_) 2 (fun L I=>?_) ?_;rotate_left
  ·(obtain ⟨V,O,T,U,Y,Z,e5,e6⟩:=HD.out L I;go_simp;try with_reducible rfl)
  refine tkD (v:=?_) 3 (fun L I=>?_) ?_;rotate_left
  ·(obtain ⟨V,O,T,U,Y,Z,e5,e6⟩:=HD.out L I;go_simp;try with_reducible rfl)
  refine tkD (v:=?_) 4 (fun L I=>?_) ?_;rotate_left
  ·(obtain ⟨V,O,T,U,Y,Z,e5,e6⟩:=HD.out L I;go_simp;try with_reducible rfl)
  refine tkD (v:=?_) 5 (fun L I=>?_) ?_;rotate_left
  ·(obtain ⟨V,O,T,U,Y,Z,e5,e6⟩:=HD.out L I;go_simp;try with_reducible rfl)
  refine tkD (v:=?_) 6 (fun L I=>?_) ?_;rotate_left
  ·(obtain ⟨V,O,T,U,Y,Z,e5,e6⟩:=HD.out L I;go_simp;try with_reducible rfl)
  refine tkD (v:=?_) 7 (fun L I=>?_) ?_;rotate_left
  ·(obtain ⟨V,O,T,U,Y,Z,e5,e6⟩:=HD.out L I;go_simp;try with_reducible rfl)
  refine tkD (v:=?_) 8 (fun L I=>?_) ?_;rotate_left
  ·(obtain ⟨V,O,T,U,Y,Z,e5,e6⟩:=HD.out L I;go_simp;try with_reducible rfl)
  refine tkD (v:=?_) 9 (fun L I=>?_) ?_;rotate_left
  ·(obtain ⟨V,O,T,U,Y,Z,e5,e6⟩:=HD.out L I;go_simp;try with_reducible rfl)
  refine tkD (v:=?_) 10 (fun L I=>?_) ?_;rotate_left
  ·(obtain ⟨V,O,T,U,Y,Z,e5,e6⟩:=HD.out L I;go_simp;try with_reducible rfl)
  refine tkD (v:=?_) 11 (fun L I=>?_) ?_;rotate_left
  ·(obtain ⟨V,O,T,U,Y,Z,e5,e6⟩:=HD.out L I;go_simp;try with_reducible rfl)
  refine tkD (v:=?_) 12 (fun L I=>?_) ?_;rotate_left
  ·(obtain ⟨V,O,T,U,Y,Z,e5,e6⟩:=HD.out L I;go_simp;try with_reducible rfl)
  generalize wq.drew=wd at M HS |-
  refine rsD [13,16] ?_
  refine rcD (fun K hK=>?_) ?_
  ·skip
   go_simp
   refine (HP.out _ (bQ.out.thn HS.out)).mono ?_
   rintro e w' ⟨rfl,rfl⟩
   try dsimp only
   refine hK.out _ _ HS.out (fun M=>?_)
   clear hK K
   refine tkD (v:=?_) 14 (fun L I=>?_) ?_;rotate_left
   ·(obtain ⟨V,O,T,U,Y,Z,e5,e6⟩:=HD.out L I;go_simp;try with_reducible rfl)
   refine tkD (v:=?_) 15 (fun L I=>?_) ?_;rotate_left
   ·(obtain ⟨V,O,T,U,Y,Z,e5,e6⟩:=HD.out L I;go_simp;try with_reducible rfl)
   refine rdD 16 (fun K hK=>?_) Qh
   go_simp
   generalize aJ:World.alloc wd _=we
   have aQ:=Zp aJ
   have D:=Y5 aJ
   have aI:=Qq (HS.out.thn aQ)
   have eT:=Z3 D
   have aS:wq.heap.size<=wd.heap.size:=HS.out.size
   have aM:=Qq D
   clear aQ aJ D
   try dsimp only
   refine hK.out _ _ aI.out (fun M=>?_)
   clear hK K
   have D:=aM.out
   have f0:=fA 0 D;have f1:=fA 1 D;have f2:=fA 2 D;have f3:=fA 3 D;have f4:=fA 4 D;have f5:=fA 5 D;have f6:=fA 6 D
   have y0:=rA0 D;have y1:=rA1 D;have y2:=rA2 D;have y3:=rA3 D;have y4:=rA4 D;have y5:=rA5 D;have y6:=rA6 D
   clear D
   refine rdD 17 (fun K hK=>?_) Qh
   go_simp
   generalize bU:World.setCell (World.setCell _ _ _) _ _=wf
   obtain ⟨hA,hB⟩:=Jg aM.out bU
   have aN:=aI.out.trans (hB _ aS)
   refine hK.out _ _ aN (fun M=>?_)
   clear hK K f0 f1 f2 f3 f4 f5 f6 y0 y1 y2 y3 y4 y5 y6
   refine wpAnyH_done Og ?_ _
   go_wp2_with fail
   go_meet
   exact ⟨wd.heap.size,rfl,hA,aN,aS⟩
  refine rcD (fun K hK=>?_) Qh
  go_simp
  generalize aJ:World.alloc wd _=we
  have aQ:=Zp aJ
  have D:=Y5 aJ
  have aI:=Qq (HS.out.thn aQ)
  have eT:=Z3 D
  have aS:wq.heap.size<=wd.heap.size:=HS.out.size
  have aM:=Qq D
  clear aQ aJ D
  try dsimp only
  refine hK.out _ _ aI.out (fun M=>?_)
  clear hK K
  refine rdD 13 (fun K hK=>?_) Qh
  go_simp
  refine (HP.out _ (bQ.out.thn aI.out)).mono ?_
  rintro e w' ⟨rfl,rfl⟩
  try dsimp only
  refine hK.out _ _ aI.out (fun M=>?_)
  clear hK K
  refine tkD (v:=?_) 14 (fun L I=>?_) ?_;rotate_left
  ·(obtain ⟨V,O,T,U,Y,Z,e5,e6⟩:=HD.out L I;go_simp;try with_reducible rfl)
  refine tkD (v:=?_) 15 (fun L I=>?_) ?_;rotate_left
  ·(obtain ⟨V,O,T,U,Y,Z,e5,e6⟩:=HD.out L I;go_simp;try with_reducible rfl)
  have D:=aM.out
  have f0:=fA 0 D;have f1:=fA 1 D;have f2:=fA 2 D;have f3:=fA 3 D;have f4:=fA 4 D;have f5:=fA 5 D;have f6:=fA 6 D
  have y0:=rA0 D;have y1:=rA1 D;have y2:=rA2 D;have y3:=rA3 D;have y4:=rA4 D;have y5:=rA5 D;have y6:=rA6 D
  clear D
  refine rdD 17 (fun K hK=>?_) Qh
  go_simp
  generalize bU:World.setCell (World.setCell _ _ _) _ _=wf
  obtain ⟨hA,hB⟩:=Jg aM.out bU
  have aN:=aI.out.trans (hB _ aS)
  refine hK.out _ _ aN (fun M=>?_)
  clear hK K f0 f1 f2 f3 f4 f5 f6 y0 y1 y2 y3 y4 y5 y6
  refine wpAnyH_done Og ?_ _
  go_wp2_with fail
  go_meet
  exact ⟨wd.heap.size,rfl,hA,aN,aS⟩
 obtain ⟨G,rfl,hG,bW,fS⟩:=hcut
 have bM:=Qq (cH.out.thn bW);have bP:=Qq (bQ.out.thn bW)
 have fT:=Z3 hG
 have HG:=Qq hG
 have dV:=Qq (dW.out.move (.of_below bP.out) (fun b _ h=>h))
 clear HD bW
 have g0:=rA0 hG;have g1:=rA1 hG;have g2:=rA2 hG;have g3:=rA3 hG;have g4:=rA4 hG;have g5:=rA5 hG;have g6:=rA6 hG
 clear hG
 have eU:w.heap.size+1<wc.heap.size:=Ob bM.out.size
 rcases cJ.out with ⟨rfl,aT⟩ | ⟨rfl,aT⟩
 ·skip
  go_upto_region 30 with fail
  generalize hV:wc.alloc _=V1
  have aE:=Zp hV
  have hv:=Y5 hV
  have aX:=kE (bM.out.thn aE) dC cM.out
  obtain ⟨v0,v1,v2,v3,v4⟩:=row5 hv
  obtain ⟨r0,r1,r2,r3,r4⟩:=row5 aX
  obtain ⟨f0,f1,f2,f3,f4⟩:=frz5 aX
  have eC:=Qq aX;have bL:=Qq (bP.out.thn aE)
  clear hV hv aX aE g0 g1 g2 g3 g4 g5 g6
  go_wp2_with fail
  show bodyPost _ _ _ _ _ (Zn V1 (w+1) (.int .i64 3) On aD Ot Ot)
  exact Q2 (v:=.agg #[.int .i64 3,On,aD,Ot,Ot]) (by simp [results,results21,go_sem,Z8 eC.out]) rfl ⟨.mk 3 0 aD [] [],none,0,none,0,rfl,aT,Zu bN.out (Sl.nil _ _ _) (Sl.nil _ _ _),Z7 bL.out Oa⟩
 go_upto_region 29 with fail
 generalize hV:wc.alloc _=V1
 have aE:=Zp hV
 have hv:=Y5 hV
 obtain ⟨bL,cL,bO⟩:=Px (bM.out.thn aE) (bP.out.thn aE) hv
 have dY:=Qq (cK.out V1 [On,Oo,On,.slice t3 0 k3,.slice t4 0 k4] cL.out (dV.out.move (.of_below aE) (fun _ _ _=>trivial)))
 have J:∀ {b j:Nat} {x:Value},wc.cell? ⟨b,j,none⟩=some x->V1.cell? ⟨b,j,none⟩=some x:=fun hx=>kC aE hx
 have g1:=J g1;have g2:=J g2;have g3:=J g3;have g4:=J g4;have g5:=J g5;have g6:=J g6
 clear J
 clear hV hv aE g0
 go_upto_region 30 with (go_at_call 21;refine dY.out.mono ?_;rintro e w7 ⟨v,r3,o3,r4,o4,rfl,dA,dF,aY⟩;unfold vcs;have fY:wc.heap.size<w7.heap.size:=Q5 (Z3 bO.out) aY.size;have bB:=kB aY bO.out;have v4:=Qk _ _ 4 _ _ _ bB;have eH:=fA 4 bB;simp only [Qa,Qb,Qc] at v4;obtain ⟨dX,dZ,dS,bK⟩:=Py bB dF dA aY;clear bB dF dA aY)
 generalize aO:World.alloc _ _=W9
 have cU:Below wc w7 (w7.setCell ⟨wc,4,none⟩ (.slice (some ⟨w7,0,none⟩) 1 1)):=(Qz _ _).setCell (p:=⟨wc,4,none⟩) (Q4 _) _
 have bD:(w7.setCell ⟨wc,4,none⟩ (.slice (some ⟨w7,0,none⟩) 1 1)).heap.size=w7.heap.size:=Od
 have fZ:=bK.out.size
 have fN:=Z3 bO.out
 have aP:Below wc w7 W9:=by rw [<- aO];exact cU.alloc (by rw [bD];omega) _
 have dG:W9.heap[wc.heap.size]?=some (.cells #[.int .i64 3,On,aD,Ot,Ol w7 0 1 1] 48 (0,0)):=by
  rw [<- aO]
  exact Zh (Qd _ _ 4 _ _ _ dX.out) _
 have dB:W9.heap[w7.heap.size]?=some (.cells (Ou v r3 o3 r4 o4) 48 (0,0)):=by
  rw [<- aO]
  exact Uv bD _
 have cT:Below w w W9:=(cL.out.thn bK.out).trans (aP.mono Oa)
 have bC:W9.heap[w.heap.size+1]?=some (.cells zV 48 (0,0)):=kE aP eU (((bL.out.thn bK.out).block _ dC).trans cM.out)
 have dH:Z5 (fun b=>V1<=b/\b<w7) W9 (vcs v r3 o3 r4 o4) v:=(dZ.out.move (S':=fun b=>V1<=b/\b<w7) (.refl _ _) (fun b hb h=>⟨h,hb⟩)).move (fun b hb eS=>by
  rw [<- aO,Below.heap_alloc _ _ _ (by rw [bD];exact eS),Z4 (show b≠wc from by have h1:V1.heap.size<=b:=hb.1;omega)]) P8
 obtain ⟨v0,v1,v2,v3,v4⟩:=row5 dG
 obtain ⟨r0,r1,r2,r3,r4⟩:=row5 bC
 obtain ⟨f0,f1,f2,f3,f4⟩:=frz5 bC
 obtain ⟨eA,dT,dR,eB⟩:=Py dH dB cT bC
 clear aO dG dB cT bC dH aP eH cU bD
 have fO:w.heap.size+1<w7.heap.size:=Oa
 go_wp2_with fail
 show bodyPost _ _ _ _ _ (Zn W9 (w+1) (.int .i64 3) On aD Ot (Ol w7 0 1 1))
 have fC:∃ z:Int,-2<=z/\z<=9/\v=Yx z:=by
  rcases dS.out with ⟨_,h⟩ | ⟨h,_⟩ | ⟨h,_⟩ | ⟨h,_⟩ | ⟨h,_⟩
  ·exact h
  all_goals cases h
 obtain ⟨zv,dJ,dK,fE⟩:=fC
 refine Q2 (v:=.agg #[.int .i64 3,On,aD,Ot,Ol w7 0 1 1]) (by simp [results,results21,go_sem,Z8 eB.out]) rfl ⟨.mk 3 0 aD [] [v],none,0,some ⟨w7,0,none⟩,1,rfl,by rw [fE];exact aT zv dJ dK,Zu bN.out (Sl.nil _ _ _) ?_,Z7 dR.out Oa⟩
 exact Y2 (xs:=[v]) ((Za Oa).trans dT.out) (by show w<=w7.heap.size;omega) (Cs.one (r:=Zc) ((eA.out.move (fun b hb _=>Za (by have:=hb.1;omega)) (fun b _ h=>by show w<=b;have:=h.1;omega)))) rfl rfl Od
end Go.Proofs.YtlanplhphiikjaaGreatDoor
