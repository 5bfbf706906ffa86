import Derived.Test.YtdpibdpbgokmoaaGreatDoorA25
import Derived.Test.YtdpibdpbgokmoaaGreatDoorA28
set_option maxRecDepth 100000
set_option maxHeartbeats 400000000
namespace Go.Proofs.YtdpibdpbgokmoaaGreatDoor
open Go.RowKit Go.Shelf Go.Lib Tryz
theorem Sl.ty {S:Nat->Prop} {w:World} {p:Option Addr} {n cap:Nat} {xs:List Ty} (h:Sl Jl S w (.slice p n cap) xs) {i:Nat} {x:Ty} (hx:xs[i]?=some x):
  ∃ b off tk ts tn t3 n3 l3 t4 n4 l4,p=some ⟨b,off,none⟩/\b<w.heap.size/\Xl S w [.int .i64 tk,.string ts,.int .i64 tn,.slice t3 n3 l3,.slice t4 n4 l4] x/\BD w b (off+i*5) (.int .i64 tk) (.string ts) (.int .i64 tn) (.slice t3 n3 l3) (.slice t4 n4 l4):=by
 obtain ⟨q,I,e,hl,hh⟩:=h
 have G:xs≠[]:=by intro h0;subst h0;simp at hx
 obtain ⟨b,off,hq,hS,hb,hc⟩:=hh G
 obtain ⟨cs,A,hr⟩:=hc i x hx
 have D:Xl S w cs x:=hr
 obtain ⟨tk,ts,tn,t3,n3,l3,t4,n4,l4,rfl⟩:=D.cells
 cases e
 exact ⟨b,off,tk,ts,tn,t3,n3,l3,t4,n4,l4,hq,hb,D,A 0 _ rfl,A 1 _ rfl,A 2 _ rfl,A 3 _ rfl,A 4 _ rfl⟩
theorem Qqj {A B:Type} {p:A->B->Bool} {a:List A} {b:List B} {k:Nat} {x:A} {y:B} (hx:a[k]?=some x) (hy:b[k]?=some y):Iu p (a.drop k) (b.drop k)=(p x y&&Iu p (a.drop (k+1)) (b.drop (k+1))):=by
 obtain ⟨h1,e1⟩:=Qj hx
 obtain ⟨h2,e2⟩:=Qj hy
 rw [Qp h1,Qp h2,e1,e2];rfl
theorem rhasRec (us:List Sm) (v:Val) (s:Bs) (names:List Bs) (kids:List Ty) (p:Val->Ty->Bool) (hkl:kids.length=names.length) (hvl:v.kind=4->v.kids.length=v.names.length) (hp:∀ x ∈ v.kids,∀ y ∈ kids,Dp us x y (p x y)):Dp us v (.mk 5 s 0 names kids) ((v.kind==4)&&decide (v.names=names)&&Iu p v.kids kids):=by
 intro S S' bR cv ct uv w hu hv ht
 obtain ⟨up,uc,rfl,_⟩:=hu.len
 obtain ⟨p3,k3,p4,k4,aM,aE,T,_⟩:=Z9.cells hv
 simp only [Il] at aM
 subst aM
 obtain ⟨q3,l3,q4,l4,rfl,aD,aC⟩:=ht.cells'
 have mixed:prog.follows .mixedOrders=true:=Ir
 by_cases h4:v.kind=4
 ·have Y:=Qq (λW (hb:Below w w W)=>T8 S S' _ _ v.names names W (aE.below hb) (aD.below hb))
  have hq:(v.kind==4)=true:=by rw [h4];rfl
  rw [hq,Bool.true_and]
  have bH:=hvl h4
  rw [h4]
  obtain ⟨m,hm⟩:=eX (v.kids.length)
  have D:decide (v.names=names)=true->kids.length=m:=λh=>by have:=of_decide_eq_true h;rw [hkl,<- this];omega
  obtain ⟨bn,aL⟩:=eX (decide (v.names=names))
  rw [aL] at Y D |-
  obtain ⟨r,hr⟩:=eX (Iu p v.kids kids)
  rw [hr]
  obtain ⟨HR,aH,aG,HU,HP,HM⟩:=BE hr T aC hu hp hm
  obtain ⟨_,_,_,bI⟩:=T.len
  rw [hm] at bI
  obtain ⟨V,O⟩:=eX (kids.length)
  have M:names.length=V:=Ia
  rw [hm] at aH |-;rw [O] at aG D;simp only [M] at Y;rw [O,M]
  have bJ:((V:Int) != (V:Int))=false:=Ib
  have aF:=Qq O;have HD:=Qq D
  clear hu hv ht aE T aD aC hp hq bH hr hvl D aL hm hkl O M
  go_enter func93,ntmps93
  go_wp2_with fail
  refine (Y.o _ (Uj _ _ _).bl).mono ?_
  rintro e w1 ⟨rfl,N⟩
  have Z:=(N.bl.block w (by simp;omega)).trans (Q5 w _ _)
  have aA:=(N.bl.block (w+1) Ib).trans (Q6 w _ _)
  have aN:Gr w w1:=(Uj _ _ _).n N
  have HG:=Qq aN
  have bF:=Z8 Z;have bG:=Z8 aA
  have c4:=Iz Z;have d4:=Iz aA
  clear N Z aA aN
  cases bn with
  | false=>
   go_wp2_with fail
   go_ret
   exact ⟨rfl,HG.o⟩
  | true=>
   obtain rfl:V=m:=HD.o rfl
   have bA:=Qq c4;have bB:=Qq d4
   go_wp2_with fail
   clear c4 d4 bJ
   go_loopw [8] (λi wr=>∃ k:Nat,k<=V/\i=.int .i64 k/\Aside (Iu p (v.kids.drop k) (kids.drop k)=r)/\Aside (Gr w1 wr)) (λi _=>V - (intOf i).toNat)
   case atStart=>exact ⟨0,Q8 _,rfl,HR.o,Gr.refl _⟩
   obtain ⟨k,hk,rfl,hc,aI⟩:=hrel
   have A:=Qq (show Gr w1 wr from aI);have HC:=Qq (show Iu p (v.kids.drop k) (kids.drop k)=r from hc)
   have aJ:w.heap.size<wr.heap.size:=Ix A.o.bl.size
   have aK:w.heap.size+1<wr.heap.size:=Ix A.o.bl.size
   have c4:=kD A.o.bl bF bA.o
   have d4:=kD A.o.bl bG bB.o
   clear aI hc
   by_cases hlt:k<V
   ·obtain ⟨x,hx⟩:∃ x,v.kids[k]?=some x:=⟨_,Qx (by rw [HM.o];exact hlt)⟩
    obtain ⟨y,hy⟩:∃ y,kids[k]?=some y:=⟨_,Qx (by rw [aF.o];exact hlt)⟩
    have U:Below w w wr:=(HG.o.n A.o).bl
    obtain ⟨ga,oa,x3,m3,x4,m4,rfl,I,aP,a0,a1,a2,a3,a4⟩:=(aH.o.below U).val hx
    obtain ⟨gb,ob,tk,ts,tn,t3,n3,bO,t4,n4,bP,rfl,J,aQ,e0,e1,e2,e3,e4⟩:=(aG.o.below U).ty hy
    have HX:=Qq (HP.o x (Qy hx) y (Qy hy))
    have G:=HC.o
    rw [Qqj hx hy] at G
    have aO:=HU.o.below U
    obtain ⟨bD,bE,bC⟩:=Im aP aQ aO
    generalize p x y=c at HX G
    have bS:(0:Int)<=(k:Int):=Ia
    have bT:(k:Int)<V:=Ia
    have aB:∀ n os,Calls prog 93 #[.slice up us.length uc,.agg (Il x x3 m3 x4 m4).toArray,.agg #[tk,.string ts,tn,.slice t3 n3 bO,.slice t4 n4 bP]] (Sort.grow (wr.drewN n) os) λe w'=>e=.returned (.bool c)/\Gr (Sort.grow (wr.drewN n) os) w':=λn os=>HX.o _ _ _ _ _ _ _ (bC.o.below (Yh _ _ _).bl) (bD.o.move (.f (Yh _ _ _).bl) Ij) (bE.o.move (.f (Yh _ _ _).bl) Ij)
    unfold Il at aB
    have A0:=Zt I a0;have A1:=Zt I a1;have A2:=Zt I a2;have A3:=Zt I a3;have A4:=Zt I a4
    have E0:=Zt J e0;have E1:=Zt J e1;have E2:=Zt J e2;have E3:=Zt J e3;have E4:=Zt J e4
    have C4:=Zt aJ c4;have D4:=Zt aK d4
    clear a0 a1 a2 a3 a4 e0 e1 e2 e3 e4 aP aQ hx hy aO U
    cases c with
    | true=>
     have aZ:=Qq (show Iu p (v.kids.drop (k+1)) (kids.drop (k+1))=r from by rw [Bool.true_and] at G;exact G)
     clear G
     go_wp2_with fail
     go_quiet_grown (first | (go_at_call 93;refine Calls.grown_of (aB _ _)))
     go_wp2_with fail
     go_roundw
     case rel=>exact ⟨k+1,Ia,by go_num,aZ.o,A.o.n (Yh _ _ _)⟩
     case measure=>simp [intOf];omega
    | false=>
     obtain rfl:false=r:=G
     go_wp2_with fail
     go_quiet_grown (first | (go_at_call 93;refine Calls.grown_of (aB _ _)))
     go_wp2_with fail
     go_ret
     exact ⟨rfl,(HG.o.n A.o).n (Yh _ _ _)⟩
   obtain rfl:k=V:=Ia
   have bL:r=true:=by
    rw [<- HC.o,List.drop_of_length_le (by rw [HM.o];exact Q9 _),List.drop_of_length_le (by rw [aF.o];exact Q9 _)];rfl
   subst bL
   go_wp2_with fail
   go_ret
   exact ⟨rfl,HG.o.n A.o⟩
 have hq:(v.kind==4)=false:=by simpa using h4
 have bU:(v.kind != 4)=true:=by simpa using h4
 rw [hq]
 clear hu hv ht aE T aD aC hp
 go_enter func93,ntmps93
 go_wp2_with fail
 go_ret
 exact ⟨rfl,Uj _ _ _⟩
def IsAr (o:Bs) (f:Int->Int->Int):Prop:=(o=[43]/\f=λa b=>IntKind.i64.wrap (a+b))\/(o=[45]/\f=λa b=>IntKind.i64.wrap (a - b))\/(o=[42]/\f=λa b=>IntKind.i64.wrap (a*b))
theorem of_eq (k n:Int) (s:ByteArray) (p3 p4:Option Addr) (n3 k3 n4 k4:Nat) (w:World):Calls prog 131 #[k,.agg #[k,n,.string s,.slice p3 n3 k3,.slice p4 n4 k4]] w λe w'=>e=.returned (.agg #[k,n,.string s,.slice p3 n3 k3,.slice p4 n4 k4])/\Below w w w':=by
 have HM:=Qq Xf
 go_enter func131,ntmps131
 go_wp2_with (go_at_call 134;refine (HM.o _).mono ?_;rintro e w' ⟨rfl,rfl⟩)
 generalize hW:(w.alloc _).alloc _=W
 have hb:=Iq hW (Zs _ _ _)
 have hR:=Ik (b:=w.heap.size+1) hW (Q6 _ _ _)
 refine Q7 (v:=.agg #[k,n,.string s,.slice p3 n3 k3,.slice p4 n4 k4]) (by simp [results,results131,go_sem,Qk _ _ _ _ _ _ hR]) rfl ⟨rfl,hb⟩
theorem of_ne (k k' n:Int) (hk:k'≠k) (s:ByteArray) (p3 p4:Option Addr) (n3 k3 n4 k4:Nat) (w:World):Calls prog 131 #[k,.agg #[k',n,.string s,.slice p3 n3 k3,.slice p4 n4 k4]] w (Ep w):=by
 have HM:=Qq Ga
 have hq:(k'==k)=false:=by rw [beq_eq_false_iff_ne];exact hk
 clear hk
 go_enter func131,ntmps131
 go_wp2_with (go_at_call 134;refine (HM.o _).mono ?_;rintro e w' ⟨rfl,rfl⟩)
 exact ⟨rfl,rfl,Zs _ _ _⟩
theorem Tp (n:Int) (S:Nat->Prop) (w:World):Calls prog 170 #[n] w (Bv S w (.mk 0 n [] [] [])):=by
 go_enter func170,ntmps170
 go_wp2_with fail
 generalize hW:w.alloc _=W
 have hb:=Iq hW (Zg _ _)
 have hR:=Ik (b:=w.heap.size) hW (Qw _ _)
 refine Q7 (v:=.agg #[Ic,n,Ig,Ie,Ie]) (by simp [results,results170,go_sem,Qk _ _ _ _ _ _ hR]) rfl ⟨_,rfl,Yb (s:=[]) Ib (Sl.nil _ _ _) (Sl.nil _ _ _),hb⟩
theorem op_ar (g:Nat) (lb:Array Value) (eg:∀ args w,(callFunc g args).run prog w=.ok (.enter g args) w) (S0:Nat->Prop) (o:Bs) (f:Int->Int->Int) (u v:Val) (w:World) (hS0:∀ b,S0 b->b≠w.heap.size) (ho:IsAr o f) (hku:u.kind=0) (hkv:v.kind=0)
  (h0:∀ W,Below w w W->w<W.heap.size->Calls prog g (#[.int .i64 0]++lb) W (Xw S0 W (some u))) (h1:∀ W,Below w w W->w<W.heap.size->Calls prog g (#[.int .i64 1]++lb) W (Xw S0 W (some v))):
  Calls prog 140 #[o,.func (.func g) #[] lb,.int .i64 2] w (Xw S0 w (some (.mk 0 (f u.n v.n) [] [] []))):=by
 obtain ⟨H0,H1,HM,bA⟩:=It h0 h1 Xf hS0
 have aL:=Qq (Tp (f u.n v.n) S0)
 obtain ⟨r,hr⟩:=eX (Val.mk 0 (f u.n v.n) [] [] [])
 rw [hr] at aL |-
 have aV:=Qq (λ(n:Int) (s:ByteArray) (p3 p4:Option Addr) (n3 k3 n4 k4:Nat) W=>of_eq 0 n s p3 p4 n3 k3 n4 k4 W)
 have bN:=λ(n:Int) (s:ByteArray) (p3 p4:Option Addr) (n3 k3 n4 k4:Nat) W=>fld1 (.int .i64 0) (.int .i64 n) (.string s) (.slice p3 n3 k3) (.slice p4 n4 k4) W
 have aT:=Qq hku;have aU:=Qq hkv
 clear h0 h1 hr hS0 hku hkv
 rcases ho with ⟨rfl,rfl⟩ | ⟨rfl,rfl⟩ | ⟨rfl,rfl⟩
 all_goals
  go_enter func140,ntmps140
  go_wp2_with (go_at_call 134;refine (HM.o _).mono ?_;rintro e w' ⟨rfl,rfl⟩)
  refine (H0.o _ (Zg _ _) Ib).mono ?_
  rintro e w1 ⟨cu,rfl,hu,aE⟩
  obtain ⟨a3,I,a4,J,O,_⟩:=Z9.cells hu
  simp only [Il] at O
  subst O
  obtain ⟨aC,aI,HU⟩:=Im ((aE.block w Ib).trans (Qw w _)) ((Zg w _).n aE) hu
  clear hu aE
  go_wp2_with fail
  refine (H1.o _ aI.o (Z8 aC.o)).mono ?_
  rintro e w2 ⟨cv,rfl,hv,Y⟩
  obtain ⟨b3,M,b4,N,O,_⟩:=Z9.cells hv
  simp only [Il] at O
  subst O
  have aD:=Qq ((Y.block w (Z8 aC.o)).trans aC.o);have aQ:=Qq (aI.o.n Y)
  have bB:=Qq (Z9.move HU.o (.f Y) Ij);have bC:=Qq hv
  clear hv Y
  have bO:w.heap.size<w2.heap.size:=Z8 aD.o
  go_upto_region 10 with fail
  generalize V:(w2.alloc _).alloc _=w4
  have U:=Iq V (Zs _ _ _)
  have g1:=Ik (b:=w2.heap.size) V (Q5 _ _ _)
  have g2:=Ik (b:=w2.heap.size+1) V (Q6 _ _ _)
  have aY:=Qq ((U.block w (Z8 aD.o)).trans aD.o);have aR:=Qq (aQ.o.n U)
  have bL:=Qq (Z9.move bB.o (.f U) Ij);have bM:=Qq (Z9.move bC.o (.f U) Ij)
  have x0:=AB g1;have A:=AB g2;have x1:=AA g1;have y1:=AA g2;have x2:=AM g1;have y2:=AM g2;have x3:=AH g1;have y3:=AH g2;have x4:=Iz g1;have D:=Iz g2
  clear U g1 g2 V
  rw [aT.o] at x0
  rw [aU.o] at A
  have HX:∀ w' Z,(λw'=>(AQ w' w2 Ic u.n u.s (.slice a3 u.names.length I) (.slice a4 u.kids.length J) ((AQ w' (w2+1) Ic v.n v.s (.slice b3 v.names.length M) (.slice b4 v.kids.length N) ((∃ A y1 y2 y3 D,w'.heap[w.heap.size]?=some (.cells #[A,y1,y2,y3,D] 36 (0,0)))/\Below w w w'):Prop)):Prop)) w'->Below w' w' Z->(λw'=>(AQ w' w2 Ic u.n u.s (.slice a3 u.names.length I) (.slice a4 u.kids.length J) ((AQ w' (w2+1) Ic v.n v.s (.slice b3 v.names.length M) (.slice b4 v.kids.length N) ((∃ A y1 y2 y3 D,w'.heap[w.heap.size]?=some (.cells #[A,y1,y2,y3,D] 36 (0,0)))/\Below w w w'):Prop)):Prop)) Z:=λw' Z h h2=>by
   have G:∀ {b j:Nat} {u:Value},w'.cell? ⟨b,j,none⟩=some u->Z.cell? ⟨b,j,none⟩=some u:=λhc=>kC h2 hc
   obtain ⟨A,y1,y2,y3,D,hy⟩:=h.2.2.2.2.2.2.2.2.2.2.1
   exact ⟨G h.1,G h.2.1,G h.2.2.1,G h.2.2.2.1,G h.2.2.2.2.1,G h.2.2.2.2.2.1,G h.2.2.2.2.2.2.1,G h.2.2.2.2.2.2.2.1,G h.2.2.2.2.2.2.2.2.1,G h.2.2.2.2.2.2.2.2.2.1,⟨A,y1,y2,y3,D,kB h2 hy⟩,h.2.2.2.2.2.2.2.2.2.2.2.n h2⟩
  have HY:∀ w',(λw'=>(AQ w' w2 Ic u.n u.s (.slice a3 u.names.length I) (.slice a4 u.kids.length J) ((AQ w' (w2+1) Ic v.n v.s (.slice b3 v.names.length M) (.slice b4 v.kids.length N) ((∃ A y1 y2 y3 D,w'.heap[w.heap.size]?=some (.cells #[A,y1,y2,y3,D] 36 (0,0)))/\Below w w w'):Prop)):Prop)) w'->(∃ A y1 y2 y3 D,w'.heap[w.heap.size]?=some (.cells #[A,y1,y2,y3,D] 36 (0,0))):=λw' h=>h.2.2.2.2.2.2.2.2.2.2.1
  have aJ:∀ w',(λw'=>(AQ w' w2 Ic u.n u.s (.slice a3 u.names.length I) (.slice a4 u.kids.length J) ((AQ w' (w2+1) Ic v.n v.s (.slice b3 v.names.length M) (.slice b4 v.kids.length N) ((∃ A y1 y2 y3 D,w'.heap[w.heap.size]?=some (.cells #[A,y1,y2,y3,D] 36 (0,0)))/\Below w w w'):Prop)):Prop)) w'->Below w w w':=λw' h=>h.2.2.2.2.2.2.2.2.2.2.2
  have HP:∀ w' a b c d e,(λw'=>(AQ w' w2 Ic u.n u.s (.slice a3 u.names.length I) (.slice a4 u.kids.length J) ((AQ w' (w2+1) Ic v.n v.s (.slice b3 v.names.length M) (.slice b4 v.kids.length N) ((∃ A y1 y2 y3 D,w'.heap[w.heap.size]?=some (.cells #[A,y1,y2,y3,D] 36 (0,0)))/\Below w w w'):Prop)):Prop)) w'->(λw'=>(AQ w' w2 Ic u.n u.s (.slice a3 u.names.length I) (.slice a4 u.kids.length J) ((AQ w' (w2+1) Ic v.n v.s (.slice b3 v.names.length M) (.slice b4 v.kids.length N) ((∃ A y1 y2 y3 D,w'.heap[w.heap.size]?=some (.cells #[A,y1,y2,y3,D] 36 (0,0)))/\Below w w w'):Prop)):Prop)) (Zl w' w a b c d e):=λw' a b c d e h=>by
   have G:∀ {g j:Nat} {u:Value},g≠w->w'.cell? ⟨g,j,none⟩=some u->(Zl w' w a b c d e).cell? ⟨g,j,none⟩=some u:=λbH hc=>(World.cell?_of_block (Zf bH)).trans hc
   obtain ⟨A,y1,y2,y3,D,hy⟩:=h.2.2.2.2.2.2.2.2.2.2.1
   exact ⟨G Ia h.1,G Ia h.2.1,G Ia h.2.2.1,G Ia h.2.2.2.1,G Ia h.2.2.2.2.1,G Ia h.2.2.2.2.2.1,G Ia h.2.2.2.2.2.2.1,G Ia h.2.2.2.2.2.2.2.1,G Ia h.2.2.2.2.2.2.2.2.1,G Ia h.2.2.2.2.2.2.2.2.2.1,⟨a,b,c,d,e,Yd hy⟩,Zd (h.2.2.2.2.2.2.2.2.2.2.2) (Q9 _)⟩
  unfold Zl at HP
  have aM:=Qq (show (λw'=>(AQ w' w2 Ic u.n u.s (.slice a3 u.names.length I) (.slice a4 u.kids.length J) ((AQ w' (w2+1) Ic v.n v.s (.slice b3 v.names.length M) (.slice b4 v.kids.length N) ((∃ A y1 y2 y3 D,w'.heap[w.heap.size]?=some (.cells #[A,y1,y2,y3,D] 36 (0,0)))/\Below w w w'):Prop)):Prop)) w4.drew from ⟨x0,x1,x2,x3,x4,A,y1,y2,y3,D,⟨_,_,_,_,_,aY.o⟩,aR.o.drew⟩)
  obtain ⟨aN,bE,aK,aX⟩:=It HX HY aJ HP
  clear HX HY aJ HP x0 x1 x2 x3 x4 A y1 y2 y3 D
  go_wp2_with fail
  go_region_held3 (λw'=>(AQ w' w2 Ic u.n u.s (.slice a3 u.names.length I) (.slice a4 u.kids.length J) ((AQ w' (w2+1) Ic v.n v.s (.slice b3 v.names.length M) (.slice b4 v.kids.length N) ((∃ A y1 y2 y3 D,w'.heap[w.heap.size]?=some (.cells #[A,y1,y2,y3,D] 36 (0,0)))/\Below w w w'):Prop)):Prop)) (first | with_reducible exact aM.o | with_reducible exact T | with_reducible exact aX.o _ _ _ _ _ _ T)
   (first
    | (go_at_call 170;refine (aL.o _).mono ?_;rintro e w6 ⟨cr,rfl,aF,aO⟩;obtain ⟨q3,l3,q4,l4,O,_⟩:=Z9.cells aF;simp only [Il] at O;subst O;have T:=aN.o _ _ AN aO;have bD:=Qq aF;obtain ⟨z0,z1,z2,z3,z4,r2⟩:=bE.o _ T;obtain ⟨f0,f1,f2,f3,f4⟩:=Ip r2;obtain ⟨r0,r1,bP,r3,r4⟩:=If r2;have aZ:=Qq r2;clear r2;have aS:=Qq (aK.o _ T);clear aF aO)
    | (go_at_call 131;refine (aV.o _ _ _ _ _ _ _ _ _).mono ?_;rintro e w5 ⟨rfl,hb⟩;have T:=aN.o _ _ AN hb;clear hb))
  all_goals
   go_wp2_with fail
   show bodyPost _ _ _ _ _ (AI w6 w r q3 l3 q4 l4)
   refine Q7 (v:=.agg (Is r q3 l3 q4 l4)) (by simp [results,results140,go_sem,Ze aZ.o]) rfl ⟨_,rfl,?_,Zd aS.o (Q9 _)⟩
   exact Z9.move bD.o (λb hb _=>Zf (by have:=bA.o b hb;omega)) Ij
theorem Sl.valS {S:Nat->Prop} {w:World} {p:Option Addr} {n cap:Nat} {xs:List Val} (h:Sl Zc S w (.slice p n cap) xs) {i:Nat} {x:Val} (hx:xs[i]?=some x):
  ∃ b off p3 k3 p4 k4,p=some ⟨b,off,none⟩/\S b/\b<w.heap.size/\Z9 S w (Il x p3 k3 p4 k4) x/\Ii w b (off+i*5) x.kind/\Ii w b (off+i*5+1) x.n/\Ii w b (off+i*5+2) x.s /\
   Ii w b (off+i*5+3) (.slice p3 x.names.length k3)/\Ii w b (off+i*5+4) (.slice p4 x.kids.length k4):=by
 obtain ⟨p',c',h1,_,h3⟩:=h
 simp only [Qr] at h1
 obtain ⟨rfl,_,_⟩:=h1
 obtain ⟨b,off,e,hS,hb,hc⟩:=h3 (by intro e;subst e;simp at hx)
 obtain ⟨cs,A,h5⟩:=hc i x hx
 obtain ⟨p3,k3,p4,k4,rfl,_⟩:=Z9.cells h5
 exact ⟨b,off,p3,k3,p4,k4,e,hS,hb,h5,A 0 _ rfl,A 1 _ rfl,A 2 _ rfl,A 3 _ rfl,A 4 _ rfl⟩
theorem Cf (nm:Bs) (n:Int) (s:Bs) (names binds:List Bs) (kids:List Ex) (a z:Int) (d:Nat) (ih:∀ x ∈ kids,Xu d x) (hk1:kids.length=names.length+1) (hb1:binds.length=names.length):∀ (S:Nat->Prop) (ce:List Value) (nv vv:Value) (ns:List Bs) (vs:List Val) (w:World),Yx S w ce (.mk 13 nm n s names binds kids a z)->Sl Zh S w nv ns->Sl Zc S w vv vs->ns.length<=vs.length->vs.length+(d+1)<=1000->(∀ v ∈ vs,Y3 v) ->
  Calls prog 146 #[ce,nv,vv] w (X7 S w (Bb (Y0 d) names binds kids ns vs)):=by
 intro S ce nv vv ns vs w V eN eQ cP hd hb
 obtain ⟨r,hr⟩:=eX (Bb (Y0 d) names binds kids ns vs)
 rw [hr]
 have HR:=Qq hr
 clear hr
 have hx:Yx (λb=>S b/\b<w) w ce (.mk 13 nm n s names binds kids a z):=V.move (.refl _ _) (λb hb h=>⟨h,hb⟩)
 have hn:=eN.up
 have hv:=eQ.up
 obtain ⟨np,nc,rfl,_⟩:=hn.len
 obtain ⟨vp,vc,rfl,jM⟩:=hv.len
 have iO:=Qq hx
 obtain ⟨jR,bv,kv,rfl,jJ,jK,dH,dF,hk⟩:=Yy.1 hx
 obtain ⟨p1,c1,rfl,_⟩:=dH.len
 obtain ⟨p2,c2,rfl,_⟩:=dF.len
 obtain ⟨p3,c3,rfl,hR⟩:=hk.len
 obtain ⟨HN,HV,cT,dU,dT,HK,HI,aN⟩:=AV hn hv hb dH dF hk ih cP
 clear V eN eQ hx hn hv dH dF hk hb ih cP
 unfold sv at *
 obtain ⟨m,hm⟩:=eX (names.length)
 rw [hm] at hk1 hb1
 have iK:m+1<=1000000:=Ia
 rw [hk1] at HK |-;rw [hm] at dU |-;rw [hb1] at dT |-
 obtain ⟨HM,gD,fX⟩:=Im hm hk1 hb1
 obtain ⟨x0,V⟩:∃ x,kids[0]?=some x:=⟨_,Qx Ia⟩
 obtain ⟨I,J,iT,iV,iU,iW,iP,iY,jB,iQ,iZ,jC,iR,jA,jD,iS,iX,eP,cN,bP,aR,aT,aV,aX,aZ,bB,bD,bF,bH⟩:=HK.o.ex V
 subst eP
 simp only [Nat.zero_mul,Nat.add_zero] at aR aT aV aX aZ bB bD bF bH
 have fY:=Qq (λW (hW:Below w w W)=>HI.o x0 (Qy V) (λb=>S b/\b<w) _ _ _ ns vs W (bP.move (.f hW) Ij) (HN.o.below hW) (HV.o.below hW) aN.o Ia cT.o)
 obtain ⟨iJ,cB,iN⟩:=Im bP V (Qy V)
 have fW:=Qq (Qe cN (Qe aR (Qe aT (Qe aV (Qe aX (Qe aZ (Qe bB (Qe bD (Qe bF bH)))))))))
 clear bP V cN aR aT aV aX aZ bB bD bF bH
 clear hm hk1 hb1 hR
 have hO:(0:Int)<(m:Int)+1:=Ia
 go_enter func146,ntmps146
 go_upto_region 1 with fail
 generalize cD:(w.alloc _).alloc _=W1
 have hb1:=Iq cD (Zs _ _ _)
 have eJ:=Ik (b:=w.heap.size) cD (Q5 _ _ _)
 have dD:=Ik (b:=w.heap.size+1) cD (Q6 _ _ _)
 obtain ⟨D,cC,aI⟩:=Im hb1 eJ dD
 have aB:=Z8 dD
 clear cD hb1 eJ dD
 have cL:=((Qq (Qz W1 W1)).o.block _ (Z8 cC.o)).trans cC.o
 have c6:=AK cL
 clear cL
 obtain ⟨M,q0,q1,q2,q3,q4,q5,q6,q7,q8⟩:=fW.o
 have aR:=kD D.o M q0;have aT:=kD D.o M q1;have aV:=kD D.o M q2;have aX:=kD D.o M q3;have aZ:=kD D.o M q4;have bB:=kD D.o M q5;have bD:=kD D.o M q6;have bF:=kD D.o M q7;have bH:=kD D.o M q8
 clear M q0 q1 q2 q3 q4 q5 q6 q7 q8
 go_upto_region 2 with (go_at_call 97;refine (fY.o _ D.o).mono ?_;rintro e w5 ⟨k5,n5,s5,Z,cF,Y,aA,cG,T,b5,rfl,eR,eK⟩;have cX:=Qq eR;have dS:=Qq eK;clear eR eK)
 generalize dC:w5.alloc _=W6
 have dE:=Iq dC (Zg _ _)
 have eH:=Ik (b:=w5.heap.size) dC (Qw _ _)
 obtain ⟨aG,aP,cI⟩:=Im (dS.o.n dE) eH dE
 clear dC dE eH
 have iL:w.heap.size+1<W6.heap.size:=Ix aG.o.size
 clear c6 aR aT aV aX aZ bB bD bF bH hO
 obtain ⟨v0,v1,v2,v3,v4⟩:=If aP.o
 have hY:b5=false\/(b5=true/\(k5 != 3)=true)\/(b5=true/\k5=3):=by
  cases b5 with
  | false=>exact .inl rfl
  | true=>
   by_cases h:k5=3
   ·exact .inr (.inr ⟨rfl,h⟩)
   exact .inr (.inl ⟨rfl,by simpa using h⟩)
 rcases hY with rfl | ⟨rfl,hq⟩ | ⟨rfl,hk3⟩
 ·clear v0 v1 v2 v3 v4
  obtain ⟨v0,v1,v2,v3,v4⟩:=If aP.o
  have G:=kE aG.o aB aI.o
  obtain ⟨y0,y1,y2,y3,y4⟩:=If G
  obtain ⟨f0,f1,f2,f3,f4⟩:=Ip G
  have aQ:=Qq G
  clear G
  go_wp2_with fail
  show bodyPost _ _ _ _ _ (Zl W6 (w+1) k5 n5 (.string s5) (.slice Z cF Y) (.slice aA cG T))
  refine Q7 (v:=.tuple #[.agg #[k5,n5,.string s5,.slice Z cF Y,.slice aA cG T],.bool false]) (by simp [results,results146,go_sem,Ze aQ.o]) rfl (Vv Ia (D.o.n aG.o) (by rw [<- HR.o];exact matV_no cB.o (cX.o.2 rfl)))
 ·have gJ:Hid (r=none):=Qq (by
   obtain ⟨v,bO,dI,cE⟩:=cX.o.1 rfl
   rw [<- HR.o]
   exact Qqm cB.o cE (by rw [bO.head.1];simpa using hq))
  have G:=kE aG.o aB aI.o
  obtain ⟨y0,y1,y2,y3,y4⟩:=If G
  obtain ⟨f0,f1,f2,f3,f4⟩:=Ip G
  have aQ:=Qq G
  clear G
  go_wp2_with fail
  show bodyPost _ _ _ _ _ (Zl W6 (w+1) k5 n5 (.string s5) (.slice Z cF Y) (.slice aA cG T))
  refine Q7 (v:=.tuple #[.agg #[k5,n5,.string s5,.slice Z cF Y,.slice aA cG T],.bool false]) (by simp [results,results146,go_sem,Ze aQ.o]) rfl (Vv Ia (D.o.n aG.o) gJ.o)
 obtain ⟨v,bO,dI,cE⟩:=cX.o.1 rfl
 obtain ⟨a3,b3,a4,b4,eL,-,eS,jN⟩:=Z9.cells bO
 simp only [Il,List.cons.injEq,Value.int.injEq,Value.string.injEq,Qr,true_and,and_true] at eL
 obtain ⟨rfl,rfl,rfl,⟨rfl,rfl,rfl⟩,rfl,rfl,rfl⟩:=eL
 have hq:(v.kind != 3)=false:=by rw [hk3];rfl
 obtain ⟨gP,gQ,gO⟩:=Im bO dI eS
 have gC:=Qq hk3;have dW:=Qq cE
 clear bO dI eS hk3 cE
 go_upto_region 5 with fail
 clear hq v0 v1 v2 v3 v4
 go_loopw [10] (λi wr=>∃ j:Nat,j<=m/\i=.int .i64 j/\Aside (∀ y ∈ names.take j,y≠v.s)/\Aside (Below W6 W6 wr)) (λi _=>m - (intOf i).toNat)
 case atStart=>exact ⟨0,Q8 _,rfl,(by intro y hy;simp at hy),Qz _ _⟩
 obtain ⟨j,hj,rfl,eO,eE⟩:=hrel
 have cU:=Qq (show ∀ y ∈ names.take j,y≠v.s from eO)
 clear eO
 have aL:=Qq (show Below W6 W6 wr from eE)
 clear eE
 have aC:=Qq (aG.o.n aL.o)
 have aM:=Qq (D.o.n aC.o)
 have cK:=kB aL.o aP.o
 have aO:=Qq cK
 clear cK
 have aD:=kB aC.o cC.o
 have c4:=Iz aD;have c5:=AY aD;have c6:=AK aD
 clear aD
 by_cases hlt2:j<m
 ·have jE:(0:Int)<=(j:Int):=Ia
  have jF:(j:Int)<(m:Int):=Ia
  obtain ⟨y,hy⟩:∃ y,names[j]?=some y:=⟨_,Qx (by rw [HM.o];omega)⟩
  obtain ⟨nb,iM,rfl,iB,-⟩:=(dU.o.below aM.o).str hy
  have HY:=Qq hy
  clear hy
  have v2:=AM aO.o
  by_cases he:y=v.s
  ·subst he
   have hq:(v.s != v.s)=false:=Ib
   have hU:(v.s==v.s)=true:=Ib
   obtain ⟨z,hz⟩:∃ z,binds[j]?=some z:=⟨_,Qx (by rw [fX.o];omega)⟩
   obtain ⟨bb,cJ,hM,bT,iD⟩:=dT.o.str hz
   subst hM
   have cM:=Qv _ _ bT
   have hN:bb≠w.heap.size+1:=by have h:bb<w.heap.size:=cM;omega
   have gR:=Qq bT;have gS:=Qq hz
   clear hz bT
   go_upto_region 7 with fail
   go_quiet (fail)
   obtain ⟨wq,dJ⟩:=eX (wr.drewN nq)
   have aK:Below wr wr wq:=by rw [<- dJ];exact Yz _ _
   rw [dJ]
   have aH:=Qq (aC.o.n aK);have A:=Qq (aM.o.n aK)
   have eI:=kB aK aO.o
   have cZ:=Qq eI
   have hS:w.heap.size+1<wq.heap.size:=Ix aH.o.size
   have dV:=Qq (gP.o.move (.f (cI.o.n (aL.o.n aK))) Ij)
   have cH:=Qq (gO.o.below (cI.o.n (aL.o.n aK)))
   clear dJ aK eI iB hq c4 c5 c6 v2
   have bJ:=kB aH.o cC.o
   have c5:=AY bJ;have c6:=AK bJ
   clear bJ
   have eU:=kD A.o cM gR.o
   obtain ⟨x1,bR⟩:∃ x,kids[j+1]?=some x:=⟨_,Qx (by rw [gD.o];omega)⟩
   obtain ⟨jP,jQ,gY,hA,gZ,hB,gU,hD,hI,gV,hF,hJ,gW,hH,hK,gX,hC,cQ,cO,bQ,aS,aU,aW,aY,bA,bC,bE,bG,bI⟩:=HK.o.ex bR
   simp only [Zv,Addr.mk.injEq,and_true] at cQ
   obtain ⟨rfl,rfl⟩:=cQ
   have fZ:=Qq (λW (hW:Below w w W)=>HI.o x1 (Qy bR) (λb=>S b/\b<w) _ _ _ ns vs W (bQ.move (.f hW) Ij) (HN.o.below hW) (HV.o.below hW) aN.o Ia cT.o)
   obtain ⟨cV,dX,gE⟩:=Im (HR.o.symm.trans (matV_at (f:=Y0 d) cB.o dW.o gC.o (S6 HY.o cU.o) bR gS.o)) bQ (Qy bR)
   have dR:=Qq (Qe cO (Qe aS (Qe aU (Qe aW (Qe aY (Qe bA (Qe bC (Qe bE (Qe bG bI)))))))))
   clear bQ bR cO aS aU aW aY bA bC bE bG bI
   obtain ⟨M,q0,q1,q2,q3,q4,q5,q6,q7,q8⟩:=dR.o
   have aS:=kD A.o M q0;have aU:=kD A.o M q1;have aW:=kD A.o M q2;have aY:=kD A.o M q3;have bA:=kD A.o M q4;have bC:=kD A.o M q5;have bE:=kD A.o M q6;have bG:=kD A.o M q7;have bI:=kD A.o M q8
   clear M q0 q1 q2 q3 q4 q5 q6 q7 q8
   have jO:IntKind.i64.wrap ((j:Int)+1)=(j:Int)+1:=by rw [IntKind.wrap_i64];omega
   have jG:(0:Int)<=(j:Int)+1:=Ia
   have jH:(j:Int)+1<(m:Int)+1:=Ia
   have jI:((j:Int)+1).toNat=j+1:=Ia
   cases z with
   | nil=>
    go_wp2_with (go_at_call 97;refine (fZ.o _ A.o).mono ?_;rintro e w7 ⟨k7,n7,s7,bY,bW,bU,bZ,bX,bV,b7,rfl,bN,aJ⟩;have N:=kE (aH.o.n aJ) aB aI.o;obtain ⟨y0,y1,y2,y3,y4⟩:=If N;obtain ⟨f0,f1,f2,f3,f4⟩:=Ip N;have dA:=Qq N;clear N;have cY:=Qq bN;have cS:=Qq aJ;clear bN aJ)
    show bodyPost _ _ _ _ _ (Zl w7 (w+1) k7 n7 (.string s7) (.slice bY bW bU) (.slice bZ bX bV))
    refine Q7 (v:=.tuple #[.agg #[k7,n7,.string s7,.slice bY bW bU,.slice bZ bX bV],.bool b7]) (by simp [results,results146,go_sem,Ze dA.o]) rfl (X7.of_eq (cV.o.trans (if_pos Ih)) (J4 A.o Ia hS cY.o cS.o))
   | cons c z=>
    by_cases h1:v.kids.length=1
    ·obtain ⟨y,hy⟩:∃ y,v.kids[0]?=some y:=⟨_,Qx Ia⟩
     obtain ⟨ub,cR,t3,l3,t4,l4,hZ,eG,jL,eT,u0,u1,u2,u3,u4⟩:=cH.o.valS hy
     subst hZ
     have cW:Hid (r=Y0 d x1 (ns++[c::z]) (vs++[y])):=Qq (by
      obtain ⟨y',eM⟩:=List.length_eq_one_iff.1 h1
      rw [eM] at hy
      obtain rfl:y'=y:=Qb hy
      rw [cV.o,if_neg Ib,eM])
     rw [h1] at cZ dV cH
     simp only [Nat.zero_mul,Nat.add_zero] at u0 u1 u2 u3 u4
     have bM:ub≠w.heap.size+1:=by rcases eG with h | h;exact (by have:=h.2;omega);exact (by have h':W1.heap.size<=ub:=h;omega)
     have hE:=Qq (λW (hW:Below wq wq W)=>Lg d x1 (HI.o x1 gE.o) (λc=>(S c/\c<w)\/W1<=c) _ _ _ ns vs (c::z) y (Is y t3 l3 t4 l4) W (dX.o.move (.f (A.o.n hW)) (λ_ _ h=>.inl h)) ((HN.o.below (A.o.n hW)).mono (λ_ _ h=>.inl h)) ((HV.o.below (A.o.n hW)).mono (λ_ _ h=>.inl h)) aN.o Ia cT.o iD (eT.move (.f hW) Ij) (gQ.o.kids y (Qy hy)))
     unfold sv at hE
     have hV:((1:Int) != 1)=false:=rfl
     have v4:=Iz cZ.o
     go_upto_region 12 with fail
     have O:I≠w.heap.size+1:=by have:=dR.o.1;omega
     have hL:w5≠w.heap.size+1:=Ix dS.o.size
     refine let_mvar% ?Lq1:=λw':World=>Ii w' w 5 (Io bb cJ m c2)/\Ii w' w 6 (Io I J (m+1) c3)/\Ii w' bb (cJ+j) (.string ⟨(c::z).toArray⟩)/\Ii w' w5 4 (Io ub cR 1 T)/\Ii w' I (J+(j+1)*9) gY/\Ii w' I (J+(j+1)*9+1) (.string hA)/\Ii w' I (J+(j+1)*9+2) gZ/\Ii w' I (J+(j+1)*9+3) (.string hB)/\Ii w' I (J+(j+1)*9+4) (.slice gU hD hI)/\Ii w' I (J+(j+1)*9+5) (.slice gV hF hJ)/\Ii w' I (J+(j+1)*9+6) (.slice gW hH hK)/\Ii w' I (J+(j+1)*9+7) gX/\Ii w' I (J+(j+1)*9+8) hC/\BD w' ub cR y.kind y.n y.s (.slice t3 y.names.length l3) (.slice t4 y.kids.length l4);?_
     have HS:∀ w',Below wq wq w'->?Lq1 w':=by
      intro w' h
      have U:∀ {b j:Nat} {u:Value},wq.cell? ⟨b,j,none⟩=some u->w'.cell? ⟨b,j,none⟩=some u:=λhc=>kC h hc
      exact ⟨U c5,U c6,U eU,U v4,U aS,U aU,U aW,U aY,U bA,U bC,U bE,U bG,U bI,U u0,U u1,U u2,U u3,U u4⟩
     have HP:∀ w' x0 x1 x2 x3 x4,?Lq1 w'->?Lq1 (Zl w' (w+1) x0 x1 x2 x3 x4):=λw' x0 x1 x2 x3 x4 h=>⟨Zm Ia h.1,Zm Ia h.2.1,Zm hN h.2.2.1,Zm hL h.2.2.2.1,Zm O h.2.2.2.2.1,Zm O h.2.2.2.2.2.1,Zm O h.2.2.2.2.2.2.1,Zm O h.2.2.2.2.2.2.2.1,Zm O h.2.2.2.2.2.2.2.2.1,Zm O h.2.2.2.2.2.2.2.2.2.1,Zm O h.2.2.2.2.2.2.2.2.2.2.1,Zm O h.2.2.2.2.2.2.2.2.2.2.2.1,Zm O h.2.2.2.2.2.2.2.2.2.2.2.2.1,Zm bM h.2.2.2.2.2.2.2.2.2.2.2.2.2.1,Zm bM h.2.2.2.2.2.2.2.2.2.2.2.2.2.2.1,Zm bM h.2.2.2.2.2.2.2.2.2.2.2.2.2.2.2.1,Zm bM h.2.2.2.2.2.2.2.2.2.2.2.2.2.2.2.2.1,Zm bM h.2.2.2.2.2.2.2.2.2.2.2.2.2.2.2.2.2⟩
     unfold Zl at HP
     obtain ⟨gL,gM,gI⟩:=Im (HS wq.drew (Qz _ _).drew) HS HP
     clear HS HP c5 c6 eU v4 aS aU aW aY bA bC bE bG bI u0 u1 u2 u3 u4 eG eT hy
     go_region_held3 ?Lq1 (first | with_reducible exact gL.o | with_reducible exact eF | with_reducible exact gI.o _ _ _ _ _ _ eF)
      (first
       | (go_at_call 145;refine (hE.o _ (Qz _ _).drew).mono ?_;rintro e w7 ⟨k7,n7,s7,bY,bW,bU,bZ,bX,bV,b7,rfl,bN,aJ⟩;have bL:=(Qz _ wq).drew.n aJ;have eF:=gM.o w7 bL;have bK:=aH.o.n bL;have N:=kE (bK) aB aI.o;obtain ⟨y0,y1,y2,y3,y4⟩:=If N;obtain ⟨f0,f1,f2,f3,f4⟩:=Ip N;have dA:=Qq N;clear N;have cY:=Qq bN;have cS:=Qq bK;clear bN aJ bK bL))
     all_goals
      go_wp2_with fail
      show bodyPost _ _ _ _ _ (Zl w7 (w+1) k7 n7 (.string s7) (.slice bY bW bU) (.slice bZ bX bV))
      refine Q7 (v:=.tuple #[.agg #[k7,n7,.string s7,.slice bY bW bU,.slice bZ bX bV],.bool b7]) (by simp [results,results146,go_sem,Ze dA.o]) rfl (X7.of_eq cW.o (J4 D.o Ia aB (cY.o.map λv h1=>h1.move (.refl _ _) (λc _ hc=>by
        rcases hc with hc | hc
        ·exact hc
        exact .inr (by have:=aH.o.size;have h':wq.heap.size<=c:=hc;omega))) cS.o))
    have cW:Hid (r=none):=Qq (by
     rw [cV.o,if_neg Ib]
     split
     ·rename_i e;rw [e] at h1;exact absurd rfl h1
     rfl)
    have hV:((v.kids.length:Int) != 1)=true:=by simp;omega
    obtain ⟨v0,v1,v2,v3,v4⟩:=If cZ.o
    have aE:=kE aH.o aB aI.o
    obtain ⟨y0,y1,y2,y3,y4⟩:=If aE
    obtain ⟨f0,f1,f2,f3,f4⟩:=Ip aE
    have dY:=Qq aE
    clear aE
    go_wp2_with fail
    show bodyPost _ _ _ _ _ (AI wq (w+1) v Z Y aA T)
    refine Q7 (v:=.tuple #[.agg (Is v Z Y aA T),.bool false]) (by simp [results,results146,go_sem,Ze dY.o]) rfl (Vv Ia A.o cW.o)
  have hq:(y != v.s)=true:=by rw [bne_iff_ne];exact he
  have hU:(y==v.s)=false:=by rw [<- Qt,beq_iff_eq];exact he
  have gG:Hid (∀ x ∈ names.take (j+1),x≠v.s):=Qq (by
   intro x hx
   rw [Gn HY.o] at hx
   rcases Z4.1 hx with h | h
   ·exact cU.o x h
   rw [Z5.1 h];exact he)
  clear he
  go_upto_region 7 with fail
  go_quiet (fail)
  go_wp2_with fail
  go_roundw
  case measure=>simp [intOf];omega
  case rel=>exact ⟨j+1,Ia,by go_num,gG.o,aL.o.n (Yz _ _)⟩
 have hP:j=m:=Ia
 subst hP
 obtain ⟨v0,v1,v2,v3,v4⟩:=If aO.o
 have aF:=kE aC.o aB aI.o
 obtain ⟨y0,y1,y2,y3,y4⟩:=If aF
 obtain ⟨f0,f1,f2,f3,f4⟩:=Ip aF
 have dZ:=Qq aF
 clear aF
 go_wp2_with fail
 show bodyPost _ _ _ _ _ (AI wr (w+1) v Z Y aA T)
 refine Q7 (v:=.tuple #[.agg (Is v Z Y aA T),.bool false]) (by simp [results,results146,go_sem,Ze dZ.o]) rfl (Vv Ia aM.o (by
  have h9:=cU.o
  rw [<- HM.o,List.take_length] at h9
  rw [<- HR.o];exact Qqh cB.o dW.o (R1 h9)))
end Go.Proofs.YtdpibdpbgokmoaaGreatDoor
