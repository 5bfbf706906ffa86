import Derived.Test.YtlanplhphiikjaaGreatDoorF39
set_option maxRecDepth 100000
set_option maxHeartbeats 400000000
namespace Go.Proofs.YtlanplhphiikjaaGreatDoor
open Go.RowKit Go.Shelf Go.Lib Tryz
def Kt:Ex:=Gen.op [43] [Gen.var [120],Gen.int 1]
def Ja:Ex:=.mk 9 [] 0 [] [] [] [Gen.int 4,Gen.int 7] 0 0
def Dn:Ex:=.mk 10 [] 0 [] [[120]] [] [Kt,Ja] 0 0
theorem Mg (u:Val) (k:Nat):Kq [120] [([120],u)] k=.ok (u,k):=by unfold Kq;rfl
theorem Hg (n:Int) (l:Nat) (h1:-1000<=n) (h2:n<=1000):Vx Kt [([120],Yx n)] (l+3) (.ok (Yx (n+1),l)):=by
 have hv:=D9 [120] [([120],Yx n)] (l+1)
 rw [Mg] at hv
 exact Bn [43] 0 [] [] [] [Gen.var [120],Gen.int 1] 0 0 _ (l+2) _ (op_plus _ (l+2) l _ _ (Yx n) (Yx 1) rfl rfl (by show -1000000<=n;omega) (by show n<=1000000;omega) Of Of (.cons hv (.cons (Db 1 _ l) (.nil l))))
theorem Lg (n:Int):Vx Kt [([120],Yx n)] 2 (.error 19):=by
 have hv:=D9 [120] [([120],Yx n)] 0
 rw [Mg] at hv
 exact Bn [43] 0 [] [] [] [Gen.var [120],Gen.int 1] 0 0 _ 1 _ (op_err [43] _ 1 _ _ 19 (.inr rfl) (.late hv (.stop (evl_dry _ _))))
theorem Mf (l:Nat):Vx Ja [] (l+3) (.ok (Zm [Yx 4,Yx 7],l)):=
 Da 9 [] 0 [] [] [] [Gen.int 4,Gen.int 7] 0 0 [] (l+2) _ Of Of Of Of Of Of Of
  (sim_list [] 0 [] [] [] [Gen.int 4,Gen.int 7] 0 0 [] (l+2) [Yx 4,Yx 7] l (.cons (Db 4 [] (l+1)) (.cons (Db 7 [] l) (.nil l))) (by intro v hv;simp at hv;rcases hv with rfl | rfl <;> rfl) Of)
theorem Lx:No (.slice none 0 0) Dn [] 100 (.ok (Zm [Yx 5,Yx 8],88)):=
 Hq [] 0 [] [120] [] Kt Ja 0 0 99 96 [Yx 4,Yx 7] (.ok ([Yx 5,Yx 8],88)) Of Of (Mf 96)
  (.cons (Hg 4 92 Of Of) (.cons (Hg 7 88 Of Of) (.nil 88)))
  (by intro vs j h;cases h;exact ⟨by intro v hv;simp at hv;rcases hv with rfl | rfl <;> rfl,Of⟩)
theorem Nq:No (.slice none 0 0) Dn [] 11 (.error 19):=
 Hq [] 0 [] [120] [] Kt Ja 0 0 10 7 [Yx 4,Yx 7] (.error 19) Of Of (Mf 7)
  (.late (Hg 4 3 Of Of) (.stop (Lg 7)))
  (by intro vs j h;cases h)
theorem lv_var:Vx (Gen.var [120]) [] 100 (.error 9):=D9 [120] [] 99
theorem Ky (n:Int) (w:World):Calls prog 73 #[n] w fun e w'=>e=.returned (.agg #[On,Oo,n,Oo,Ot,Ot,Ot,On,On])/\Below w w w':=by
 go_enter func73,ntmps73
 go_wp2_with fail
 generalize hW:World.alloc w _=W
 have hb:=eqB hW (Zb _ _)
 have hR:=eqH (b:=w.heap.size) hW (Qw _ _)
 exact Q2 (v:=.agg #[On,Oo,n,Oo,Ot,Ot,Ot,On,On]) (by simp [results,results73,go_sem,Qk _ _ _ _ _ _ hR]) rfl ⟨rfl,hb⟩
theorem Ur (w:World):Calls prog 72 #[.string ⟨#[120]⟩] w fun e w'=>e=.returned (.agg #[.int .i64 3,.string ⟨#[120]⟩,On,Oo,Ot,Ot,Ot,On,On])/\Below w w w':=by
 go_enter func72,ntmps72
 go_wp2_with fail
 generalize hW:World.alloc w _=W
 have hb:=eqB hW (Zb _ _)
 have hR:=eqH (b:=w.heap.size) hW (Qw _ _)
 exact Q2 (v:=.agg #[.int .i64 3,.string ⟨#[120]⟩,On,Oo,Ot,Ot,Ot,On,On]) (by simp [results,results72,go_sem,Qk _ _ _ _ _ _ hR]) rfl ⟨rfl,hb⟩
theorem Zo {W W':World} {b:Nat} {o:Obj} (hb:Below W W W') (h:W.heap[b]?=some o):W'.heap[b]?=some o:=kB hb h
theorem lv_abs {P:Program} {md:Region.Mode} {ops:Array Oper} {Q:Exit->Act->World->Prop} {S:World->Prop} {f:Nat} {l:Array Bool} {a:Act} {w:World} (h:∀ X:Nat->Array Bool->Act->World->Prop,X=(fun f l a w=>wpAnyH P md ops Q S f l a w)->X f l a w):wpAnyH P md ops Q S f l a w:=h _ rfl
theorem lv_vis (W:World):Yj (fun _=>True) W [.int .i64 3,.string ⟨#[120]⟩,On,Oo,Ot,Ot,Ot,On,On] (Gen.var [120]):=Xd (nm:=[120]) (s:=[]) Od Od (Sl.nil _ _ _) (Sl.nil _ _ _) (Sl.nil _ _ _)
def lvA (k:Nat) (t2 t17 t19 t20 t21 t22 t23 t24:Value):Act:=⟨#[.bool false,Om (k+1),t2,undef,undef,undef,undef,undef,undef,undef,undef,undef,undef,.agg #[.int .i64 3,.string ⟨#[120]⟩,On,Oo,Ot,Ot,Ot,On,On],.agg #[On,Oo,.int .i64 1,Oo,Ot,Ot,Ot,On,On],Ol k 0 2 2,.agg #[.int .i64 14,.string ⟨#[43]⟩,On,Oo,Ot,Ot,Ol k 0 2 2,On,On],t17,.agg #[.int .i64 14,.string ⟨#[43]⟩,On,Oo,Ot,Ot,Ol k 0 2 2,On,On],t19,t20,t21,t22,t23,t24,undef,undef,undef,undef,undef,undef,undef,undef,undef,undef,undef,undef,undef,undef,undef,undef,undef,undef,undef,undef,undef,undef,undef,undef,undef,undef,undef,undef,undef,undef,undef,undef,undef,undef,undef,undef,undef,undef,undef,undef,undef,undef,undef,undef,undef,undef],[]⟩
theorem Ya {W W':World} {o:Obj} (h:W.alloc o=W'):Below W W W':=by subst h;exact Zb _ _
theorem Yw {W W':World} {o:Obj} (h:W.alloc o=W'):W'.heap[W.heap.size]?=some o:=by subst h;exact Qw _ _
theorem lv_ne {W:World} {a b:Nat} {x y:Array Value} {t t':TypeId} (hx:W.heap[a]?=some (.cells x t (0,0))) (hy:W.heap[b]?=some (.cells y t' (0,0))) (h:x.size≠y.size):a≠b:=by
 rintro rfl
 rw [hx] at hy
 simp only [Qu,Obj.cells.injEq] at hy
 exact h (by rw [hy.1])
def lput (W:World) (R:Nat) (a0 a1 a2 a3 a4 a5 a6 a7 a8:Value):World:=(((((((((W.setCell ⟨R,0,none⟩ a0).setCell ⟨R,1,none⟩ a1).setCell ⟨R,2,none⟩ a2).setCell ⟨R,3,none⟩ a3).setCell ⟨R,4,none⟩ a4).setCell ⟨R,5,none⟩ a5).setCell ⟨R,6,none⟩ a6).setCell ⟨R,7,none⟩ a7).setCell ⟨R,8,none⟩ a8)
theorem N3 {W:World} {R:Nat} {a0 a1 a2 a3 a4 a5 a6 a7 a8 x0 x1 x2 x3 x4 x5 x6 x7 x8:Value} {t:TypeId} (h:W.heap[R]?=some (.cells #[x0,x1,x2,x3,x4,x5,x6,x7,x8] t (0,0))):(lput W R a0 a1 a2 a3 a4 a5 a6 a7 a8).heap[R]?=some (.cells #[a0,a1,a2,a3,a4,a5,a6,a7,a8] t (0,0)):=by
 have h1:(W.setCell ⟨R,0,none⟩ a0).heap[R]?=some (.cells #[a0,x1,x2,x3,x4,x5,x6,x7,x8] t (0,0)):=by rw [Qd _ _ _ _ _ _ h];rfl
 have h2:((W.setCell ⟨R,0,none⟩ a0).setCell ⟨R,1,none⟩ a1).heap[R]?=some (.cells #[a0,a1,x2,x3,x4,x5,x6,x7,x8] t (0,0)):=by rw [Qd _ _ _ _ _ _ h1];rfl
 have h3:(((W.setCell ⟨R,0,none⟩ a0).setCell ⟨R,1,none⟩ a1).setCell ⟨R,2,none⟩ a2).heap[R]?=some (.cells #[a0,a1,a2,x3,x4,x5,x6,x7,x8] t (0,0)):=by rw [Qd _ _ _ _ _ _ h2];rfl
 have h4:((((W.setCell ⟨R,0,none⟩ a0).setCell ⟨R,1,none⟩ a1).setCell ⟨R,2,none⟩ a2).setCell ⟨R,3,none⟩ a3).heap[R]?=some (.cells #[a0,a1,a2,a3,x4,x5,x6,x7,x8] t (0,0)):=by rw [Qd _ _ _ _ _ _ h3];rfl
 have h5:(((((W.setCell ⟨R,0,none⟩ a0).setCell ⟨R,1,none⟩ a1).setCell ⟨R,2,none⟩ a2).setCell ⟨R,3,none⟩ a3).setCell ⟨R,4,none⟩ a4).heap[R]?=some (.cells #[a0,a1,a2,a3,a4,x5,x6,x7,x8] t (0,0)):=by rw [Qd _ _ _ _ _ _ h4];rfl
 have h6:((((((W.setCell ⟨R,0,none⟩ a0).setCell ⟨R,1,none⟩ a1).setCell ⟨R,2,none⟩ a2).setCell ⟨R,3,none⟩ a3).setCell ⟨R,4,none⟩ a4).setCell ⟨R,5,none⟩ a5).heap[R]?=some (.cells #[a0,a1,a2,a3,a4,a5,x6,x7,x8] t (0,0)):=by rw [Qd _ _ _ _ _ _ h5];rfl
 have h7:(((((((W.setCell ⟨R,0,none⟩ a0).setCell ⟨R,1,none⟩ a1).setCell ⟨R,2,none⟩ a2).setCell ⟨R,3,none⟩ a3).setCell ⟨R,4,none⟩ a4).setCell ⟨R,5,none⟩ a5).setCell ⟨R,6,none⟩ a6).heap[R]?=some (.cells #[a0,a1,a2,a3,a4,a5,a6,x7,x8] t (0,0)):=by rw [Qd _ _ _ _ _ _ h6];rfl
 have h8:((((((((W.setCell ⟨R,0,none⟩ a0).setCell ⟨R,1,none⟩ a1).setCell ⟨R,2,none⟩ a2).setCell ⟨R,3,none⟩ a3).setCell ⟨R,4,none⟩ a4).setCell ⟨R,5,none⟩ a5).setCell ⟨R,6,none⟩ a6).setCell ⟨R,7,none⟩ a7).heap[R]?=some (.cells #[a0,a1,a2,a3,a4,a5,a6,a7,x8] t (0,0)):=by rw [Qd _ _ _ _ _ _ h7];rfl
 unfold lput
 rw [Qd _ _ _ _ _ _ h8];rfl
theorem Lo {W:World} {R k:Nat} {a0 a1 a2 a3 a4 a5 a6 a7 a8:Value} (h:k≠R):(lput W R a0 a1 a2 a3 a4 a5 a6 a7 a8).heap[k]?=W.heap[k]?:=by
 unfold lput
 rw [Z4 h,Z4 h,Z4 h,Z4 h,Z4 h,Z4 h,Z4 h,Z4 h,Z4 h]
theorem M6 {B R:Nat} {w W:World} {a0 a1 a2 a3 a4 a5 a6 a7 a8:Value} (h:Below B w W) (hR:B<=R):Below B w (lput W R a0 a1 a2 a3 a4 a5 a6 a7 a8):=
 ((((((((h.setCell (p:=⟨R,0,none⟩) hR _).setCell (p:=⟨R,1,none⟩) hR _).setCell (p:=⟨R,2,none⟩) hR _).setCell (p:=⟨R,3,none⟩) hR _).setCell (p:=⟨R,4,none⟩) hR _).setCell (p:=⟨R,5,none⟩) hR _).setCell (p:=⟨R,6,none⟩) hR _).setCell (p:=⟨R,7,none⟩) hR _).setCell (p:=⟨R,8,none⟩) hR _
theorem lv_put {W Ws:World} {F:Nat} {a0 a1 a2 a3 a4 a5 a6 a7 a8 x0 x1 x2 x3 x4 x5 x6 x7 x8:Value} {t:TypeId} (h:W.heap[F]?=some (.cells #[x0,x1,x2,x3,x4,x5,x6,x7,x8] t (0,0)))
  (hW:(((((((((W.setCell ⟨F,0,none⟩ a0).setCell ⟨F,1,none⟩ a1).setCell ⟨F,2,none⟩ a2).setCell ⟨F,3,none⟩ a3).setCell ⟨F,4,none⟩ a4).setCell ⟨F,5,none⟩ a5).setCell ⟨F,6,none⟩ a6).setCell ⟨F,7,none⟩ a7).setCell ⟨F,8,none⟩ a8)=Ws):
  Ws.heap[F]?=some (.cells #[a0,a1,a2,a3,a4,a5,a6,a7,a8] t (0,0))/\(∀ b,b≠F->Ws.heap[b]?=W.heap[b]?)/\∀ (B:Nat) (w:World),B<=F->Below B w W->Below B w Ws:=by
 subst hW
 exact ⟨N3 h,fun b hb=>Lo hb,fun B w hB hw=>M6 hw hB⟩
theorem lv_is {W:World} {k a d e:Nat} (hk:W.heap[k]?=some (.cells #[.int .i64 3,.string ⟨#[120]⟩,On,Oo,Ot,Ot,Ot,On,On,On,Oo,.int .i64 1,Oo,Ot,Ot,Ot,On,On] 59 (0,0))) (hA:W.heap[a]?=some (.cells #[.string ⟨#[120]⟩] 9 (0,0))) (hE:W.heap[e]?=some (.cells #[.int .i64 14,.string ⟨#[43]⟩,On,Oo,Ot,Ot,Ol k 0 2 2,On,On,.int .i64 9,Oo,On,Oo,Ot,Ot,Ol d 0 2 2,On,On] 59 (0,0))) (hD:W.heap[d]?=some (.cells #[On,Oo,.int .i64 4,Oo,Ot,Ot,Ot,On,On,On,Oo,.int .i64 7,Oo,Ot,Ot,Ot,On,On] 59 (0,0))):Yj (fun _=>True) W [.int .i64 10,Oo,On,Oo,Ol a 0 1 1,Ot,Ol e 0 2 2,On,On] Dn:=by
 have D:∀ n:Int,Yj (fun _=>True) W [On,Oo,.int .i64 n,Oo,Ot,Ot,Ot,On,On] (Gen.int n):=fun n=>Xd (nm:=[]) (s:=[]) Od Od (Sl.nil _ _ _) (Sl.nil _ _ _) (Sl.nil _ _ _)
 have hv:Yj (fun _=>True) W [.int .i64 3,.string ⟨#[120]⟩,On,Oo,Ot,Ot,Ot,On,On] (Gen.var [120]):=Xd (nm:=[120]) (s:=[]) Od Od (Sl.nil _ _ _) (Sl.nil _ _ _) (Sl.nil _ _ _)
 have hS:Yj (fun _=>True) W [.int .i64 14,.string ⟨#[43]⟩,On,Oo,Ot,Ot,Ol k 0 2 2,On,On] Kt:=Xd (nm:=[43]) (s:=[]) Od Od (Sl.nil _ _ _) (Sl.nil _ _ _) (Y2 (xs:=[Gen.var [120],Gen.int 1]) hk trivial ((Cs.one (r:=Vv) (x:=Gen.var [120]) hv).app (Cs.one (r:=Vv) (x:=Gen.int 1) (D 1))) rfl rfl Od)
 have hL:Yj (fun _=>True) W [.int .i64 9,Oo,On,Oo,Ot,Ot,Ol d 0 2 2,On,On] Ja:=Xd (nm:=[]) (s:=[]) Od Od (Sl.nil _ _ _) (Sl.nil _ _ _) (Y2 (xs:=[Gen.int 4,Gen.int 7]) hD trivial ((Cs.one (r:=Vv) (x:=Gen.int 4) (D 4)).app (Cs.one (r:=Vv) (x:=Gen.int 7) (D 7))) rfl rfl Od)
 exact Xd (nm:=[]) (s:=[]) Od Od (Y2 hA trivial (Cs.one (r:=Zi) (x:=[120]) (show Zi.R _ W [.string ⟨#[120]⟩] [120] from ⟨rfl,Od⟩)) rfl rfl Od) (Sl.nil _ _ _) (Y2 (xs:=[Kt,Ja]) hE trivial ((Cs.one (r:=Vv) (x:=Kt) hS).app (Cs.one (r:=Vv) (x:=Ja) hL)) rfl rfl Od)
def LvMid (k:Nat) (w2:World) (t2:Value) (wx:World):Prop:=∃ F a d e,t2=.pointer (some ⟨F,0,none⟩)/\wx.heap[F]?=some (.cells #[.int .i64 10,Oo,On,Oo,Ol a 0 1 1,Ot,Ol e 0 2 2,On,On] 59 (0,0))/\wx.heap[a]?=some (.cells #[.string ⟨#[120]⟩] 9 (0,0)) /\
 wx.heap[e]?=some (.cells #[.int .i64 14,.string ⟨#[43]⟩,On,Oo,Ot,Ot,Ol k 0 2 2,On,On,.int .i64 9,Oo,On,Oo,Ot,Ot,Ol d 0 2 2,On,On] 59 (0,0))/\wx.heap[d]?=some (.cells #[On,Oo,.int .i64 4,Oo,Ot,Ot,Ot,On,On,On,Oo,.int .i64 7,Oo,Ot,Ot,Ot,On,On] 59 (0,0))/\Below w2 w2 wx
theorem Ec (w:World):Calls prog 26 #[] w fun e w'=>e=.returned (.bool true)/\Below w w w':=by
 have aH:=Qq Ky;have cQ:=Qq Ur
 go_enter func26,ntmps26
 go_upto_region 2 with (first | (go_at_call 72;refine (cQ.out _).mono ?_;rintro e w1 ⟨rfl,dD⟩;have dM:=Qq dD;clear dD) | (go_at_call 73;refine (aH.out 1 _).mono ?_;rintro e w2 ⟨rfl,dE⟩;have dN:=Qq dE;clear dE))
 generalize aZ:World.alloc (World.alloc w2 _) _=V
 have bZ:=eqB aZ (Zl _ _ _)
 have dJ:=eqH (b:=w2.heap.size) aZ (Q0 _ _ _)
 have dK:=eqH (b:=w2.heap.size+1) aZ (Q1 _ _ _)
 have cI:=Qq ((dM.out.thn dN.out).thn bZ)
 have dT:=Qq dJ
 refine let_mvar% ?Lq1:=fun w':World=>(Pb w' (w2+1) (.int .i64 14) (.string ⟨#[43]⟩) On Oo Ot Ot (Ol w2 0 2 2) On On (Below V V w'):Prop);?_
 have HS:∀ W,Below V V W->?Lq1 W:=fun W h=>by
  have hr:=Zo h dK
  exact ⟨(Qk _ _ 0 _ _ _ hr).trans rfl,(Qk _ _ 1 _ _ _ hr).trans rfl,(Qk _ _ 2 _ _ _ hr).trans rfl,(Qk _ _ 3 _ _ _ hr).trans rfl,(Qk _ _ 4 _ _ _ hr).trans rfl,(Qk _ _ 5 _ _ _ hr).trans rfl,(Qk _ _ 6 _ _ _ hr).trans rfl,(Qk _ _ 7 _ _ _ hr).trans rfl,(Qk _ _ 8 _ _ _ hr).trans rfl,h⟩
 have aT:∀ W,?Lq1 W->Below V V W:=fun W h=>h.2.2.2.2.2.2.2.2.2
 have L:=Qq HS
 have cO:=Qq (HS V (Qz _ _))
 have Z:=Qq (fun W (h:?Lq1 W)=>HS W.drew (aT W h).drew)
 have Y:=Qq (fun W o (h:?Lq1 W)=>HS (W.alloc o) ((aT W h).alloc (aT W h).size o))
 have cN:=Qq aT
 have dU:=Qq (fun n W (h:?Lq1 W)=>(Ky n W).mono (R':=fun e w'=>e=.returned (.agg #[On,Oo,.int .i64 n,Oo,Ot,Ot,Ot,On,On])/\Below W W w'/\?Lq1 w') (by rintro e w' ⟨rfl,hb⟩;exact ⟨rfl,hb,HS _ ((aT W h).thn hb)⟩))
 have eB:=bZ.size
 clear HS aT bZ dJ dK aZ cQ
 go_cut [2] (fun t2 wx=>LvMid w2 V t2 wx)
 case first=>
  refine wp_region_held_drew (S:=?Lq1) Og (Z.out _ cO.out) (fun D=>?_)
  have O:=Qq (cN.out _ D)
  generalize V.drew=M at D O |-
  refine tkD (v:=?_) 1 (fun w0 aC=>?_) ?_;rotate_left
  ·(obtain ⟨c0,c1,c2,c3,c4,c5,c6,c7,c8,_⟩:=aC;go_simp;try with_reducible rfl)
  refine lv_abs (fun X hX=>?_)
  have aX:∀ (a F d e:Nat) (M:World),Hid (Below V V M)->Hid (M.heap[a]?=some (.cells #[.string ⟨#[120]⟩] 9 (0,0)))->Hid (M.heap[F]?=some (.cells #[On,Oo,On,Oo,Ot,Ot,Ot,On,On] 59 (0,0)))->Hid (V<=F)->Hid (M.heap[d]?=some (.cells #[On,Oo,.int .i64 4,Oo,Ot,Ot,Ot,On,On,On,Oo,.int .i64 7,Oo,Ot,Ot,Ot,On,On] 59 (0,0)))->Hid (M.heap[e]?=some (.cells #[.int .i64 14,.string ⟨#[43]⟩,On,Oo,Ot,Ot,Ol w2 0 2 2,On,On,.int .i64 9,Oo,On,Oo,Ot,Ot,Ol d 0 2 2,On,On] 59 (0,0)))->X 1 #[true,true,true,true,true,true,true,true,true,false] (lvA w2 (.pointer (some ⟨F,0,none⟩)) (.slice (some ⟨a,0,none⟩) 1 1) (.agg #[On,Oo,.int .i64 4,Oo,Ot,Ot,Ot,On,On]) (.agg #[On,Oo,.int .i64 7,Oo,Ot,Ot,Ot,On,On]) (.slice (some ⟨d,0,none⟩) 2 2) (.agg #[.int .i64 9,Oo,On,Oo,Ot,Ot,Ol d 0 2 2,On,On]) (.slice (some ⟨e,0,none⟩) 2 2) (.agg #[.int .i64 10,Oo,On,Oo,Ol a 0 1 1,Ot,Ol e 0 2 2,On,On])) M:=by
   intro a F d e M O HA HF aB HD HE
   subst hX
   show wpAnyH _ _ _ _ _ _ _ _ _
   unfold lvA
   have D:=L.out _ O.out
   have bY:=HF.out
   obtain ⟨r0,r1,r2,r3,r4,r5,r6,r7,r8⟩:=row9 bY;obtain ⟨f0,f1,f2,f3,f4,f5,f6,f7,f8⟩:=frz9 bY
   refine rdD 9 (fun K T=>?_) Qh
   go_simp
   generalize dB:World.setCell _ _ _=ws
   obtain ⟨eA,cD,dG⟩:=lv_put HF.out dB
   have dA:=dG _ _ aB.out O.out
   refine T.out _ _ (L.out _ dA) (fun D=>?_)
   clear f0 r0 f1 r1 f2 r2 f3 r3 f4 r4 f5 r5 f6 r6 f7 r7 f8 r8 dB dG bY T K
   refine wpAnyH_done Og ?_ _
   go_wp2_with fail
   go_meet
   exact ⟨_,_,_,_,rfl,eA,(cD _ (lv_ne HA.out HF.out Of)).trans HA.out,(cD _ (lv_ne HE.out HF.out Od)).trans HE.out,(cD _ (lv_ne HD.out HF.out Od)).trans HD.out,dA⟩
  have bL:∀ (F d e:Nat) (M:World),Hid (Below V V M)->Hid (M.heap[F]?=some (.cells #[On,Oo,On,Oo,Ot,Ot,Ot,On,On] 59 (0,0)))->Hid (V<=F)->Hid (M.heap[d]?=some (.cells #[On,Oo,.int .i64 4,Oo,Ot,Ot,Ot,On,On,On,Oo,.int .i64 7,Oo,Ot,Ot,Ot,On,On] 59 (0,0)))->Hid (M.heap[e]?=some (.cells #[.int .i64 14,.string ⟨#[43]⟩,On,Oo,Ot,Ot,Ol w2 0 2 2,On,On,.int .i64 9,Oo,On,Oo,Ot,Ot,Ol d 0 2 2,On,On] 59 (0,0)))->X 3 #[false,true,true,true,true,true,true,false,true,false] (lvA w2 (.pointer (some ⟨F,0,none⟩)) undef (.agg #[On,Oo,.int .i64 4,Oo,Ot,Ot,Ot,On,On]) (.agg #[On,Oo,.int .i64 7,Oo,Ot,Ot,Ot,On,On]) (.slice (some ⟨d,0,none⟩) 2 2) (.agg #[.int .i64 9,Oo,On,Oo,Ot,Ot,Ol d 0 2 2,On,On]) (.slice (some ⟨e,0,none⟩) 2 2) undef) M:=by
   intro F d e M O HF aB HD HE
   subst hX
   show wpAnyH _ _ _ _ _ _ _ _ _
   unfold lvA
   have D:=L.out _ O.out
   refine rdD 0 (fun K T=>?_) Qh
   go_simp
   generalize J:World.alloc _ _=U
   have G:=Ya J
   have N:=Yw J
   have I:=Qq (O.out.thn G)
   have aA:=Qq (Zo G HF.out)
   have Z:=Qq (Zo G HD.out)
   have aJ:=Qq (Zo G HE.out)
   refine T.out _ _ (L.out _ I.out) (fun D=>?_)
   refine tkD (v:=?_) 7 (fun w0 aC=>?_) ?_;rotate_left
   ·(obtain ⟨c0,c1,c2,c3,c4,c5,c6,c7,c8,_⟩:=aC;go_simp;try with_reducible rfl)
   exact aX _ _ _ _ U I (Qq N) aA aB Z aJ
  have bP:∀ (a d e:Nat) (M:World),Hid (Below V V M)->Hid (M.heap[a]?=some (.cells #[.string ⟨#[120]⟩] 9 (0,0)))->Hid (M.heap[d]?=some (.cells #[On,Oo,.int .i64 4,Oo,Ot,Ot,Ot,On,On,On,Oo,.int .i64 7,Oo,Ot,Ot,Ot,On,On] 59 (0,0)))->Hid (M.heap[e]?=some (.cells #[.int .i64 14,.string ⟨#[43]⟩,On,Oo,Ot,Ot,Ol w2 0 2 2,On,On,.int .i64 9,Oo,On,Oo,Ot,Ot,Ol d 0 2 2,On,On] 59 (0,0)))->X 2 #[true,true,true,true,true,true,true,true,false,false] (lvA w2 undef (.slice (some ⟨a,0,none⟩) 1 1) (.agg #[On,Oo,.int .i64 4,Oo,Ot,Ot,Ot,On,On]) (.agg #[On,Oo,.int .i64 7,Oo,Ot,Ot,Ot,On,On]) (.slice (some ⟨d,0,none⟩) 2 2) (.agg #[.int .i64 9,Oo,On,Oo,Ot,Ot,Ol d 0 2 2,On,On]) (.slice (some ⟨e,0,none⟩) 2 2) (.agg #[.int .i64 10,Oo,On,Oo,Ol a 0 1 1,Ot,Ol e 0 2 2,On,On])) M:=by
   intro a d e M O HA HD HE
   subst hX
   show wpAnyH _ _ _ _ _ _ _ _ _
   unfold lvA
   have D:=L.out _ O.out
   refine rdD 8 (fun K T=>?_) Qh
   go_simp
   generalize J:World.alloc _ _=U
   have G:=Ya J
   have N:=Yw J
   have I:=Qq (O.out.thn G)
   have Y:=Qq (Zo G HA.out)
   have Z:=Qq (Zo G HD.out)
   have aJ:=Qq (Zo G HE.out)
   refine T.out _ _ (L.out _ I.out) (fun D=>?_)
   exact aX _ _ _ _ U I Y (Qq N) (Qq O.out.size) Z aJ
  have cW:∀ (d e:Nat) (M:World),Hid (Below V V M)->Hid (M.heap[d]?=some (.cells #[On,Oo,.int .i64 4,Oo,Ot,Ot,Ot,On,On,On,Oo,.int .i64 7,Oo,Ot,Ot,Ot,On,On] 59 (0,0)))->Hid (M.heap[e]?=some (.cells #[.int .i64 14,.string ⟨#[43]⟩,On,Oo,Ot,Ot,Ol w2 0 2 2,On,On,.int .i64 9,Oo,On,Oo,Ot,Ot,Ol d 0 2 2,On,On] 59 (0,0)))->X 4 #[false,true,true,true,true,true,true,false,false,false] (lvA w2 undef undef (.agg #[On,Oo,.int .i64 4,Oo,Ot,Ot,Ot,On,On]) (.agg #[On,Oo,.int .i64 7,Oo,Ot,Ot,Ot,On,On]) (.slice (some ⟨d,0,none⟩) 2 2) (.agg #[.int .i64 9,Oo,On,Oo,Ot,Ot,Ol d 0 2 2,On,On]) (.slice (some ⟨e,0,none⟩) 2 2) undef) M:=by
   intro d e M O HD HE
   subst hX
   show wpAnyH _ _ _ _ _ _ _ _ _
   unfold lvA
   have D:=L.out _ O.out
   refine rsD [0,8] ?_
   refine rcD (fun K T=>?_) ?_
   ·go_simp
    generalize J:World.alloc _ _=U
    have G:=Ya J
    have N:=Yw J
    have I:=Qq (O.out.thn G)
    have Z:=Qq (Zo G HD.out)
    have aJ:=Qq (Zo G HE.out)
    refine T.out _ _ (L.out _ I.out) (fun D=>?_)
    refine tkD (v:=?_) 7 (fun w0 aC=>?_) ?_;rotate_left
    ·(obtain ⟨c0,c1,c2,c3,c4,c5,c6,c7,c8,_⟩:=aC;go_simp;try with_reducible rfl)
    exact bP _ _ _ U I (Qq N) Z aJ
   refine rcD (fun K T=>?_) Qh
   go_simp
   generalize J:World.alloc _ _=U
   have G:=Ya J
   have N:=Yw J
   have I:=Qq (O.out.thn G)
   have Z:=Qq (Zo G HD.out)
   have aJ:=Qq (Zo G HE.out)
   refine T.out _ _ (L.out _ I.out) (fun D=>?_)
   exact bL _ _ _ U I (Qq N) (Qq O.out.size) Z aJ
  have aW:∀ (a F d:Nat) (M:World),Hid (Below V V M)->Hid (M.heap[a]?=some (.cells #[.string ⟨#[120]⟩] 9 (0,0)))->Hid (M.heap[F]?=some (.cells #[On,Oo,On,Oo,Ot,Ot,Ot,On,On] 59 (0,0)))->Hid (V<=F)->Hid (M.heap[d]?=some (.cells #[On,Oo,.int .i64 4,Oo,Ot,Ot,Ot,On,On,On,Oo,.int .i64 7,Oo,Ot,Ot,Ot,On,On] 59 (0,0)))->X 3 #[true,true,true,true,true,true,false,false,true,false] (lvA w2 (.pointer (some ⟨F,0,none⟩)) (.slice (some ⟨a,0,none⟩) 1 1) (.agg #[On,Oo,.int .i64 4,Oo,Ot,Ot,Ot,On,On]) (.agg #[On,Oo,.int .i64 7,Oo,Ot,Ot,Ot,On,On]) (.slice (some ⟨d,0,none⟩) 2 2) (.agg #[.int .i64 9,Oo,On,Oo,Ot,Ot,Ol d 0 2 2,On,On]) undef undef) M:=by
   intro a F d M O HA HF aB HD
   subst hX
   show wpAnyH _ _ _ _ _ _ _ _ _
   unfold lvA
   have D:=L.out _ O.out
   refine rdD 6 (fun K T=>?_) Qh
   go_simp
   generalize J:World.alloc _ _=U
   have G:=Ya J
   have N:=Yw J
   have I:=Qq (O.out.thn G)
   have Y:=Qq (Zo G HA.out)
   have aA:=Qq (Zo G HF.out)
   have Z:=Qq (Zo G HD.out)
   refine T.out _ _ (L.out _ I.out) (fun D=>?_)
   refine tkD (v:=?_) 7 (fun w0 aC=>?_) ?_;rotate_left
   ·(obtain ⟨c0,c1,c2,c3,c4,c5,c6,c7,c8,_⟩:=aC;go_simp;try with_reducible rfl)
   exact aX _ _ _ _ U I Y aA aB Z (Qq N)
  have bK:∀ (F d:Nat) (M:World),Hid (Below V V M)->Hid (M.heap[F]?=some (.cells #[On,Oo,On,Oo,Ot,Ot,Ot,On,On] 59 (0,0)))->Hid (V<=F)->Hid (M.heap[d]?=some (.cells #[On,Oo,.int .i64 4,Oo,Ot,Ot,Ot,On,On,On,Oo,.int .i64 7,Oo,Ot,Ot,Ot,On,On] 59 (0,0)))->X 4 #[false,true,true,true,true,true,false,false,true,false] (lvA w2 (.pointer (some ⟨F,0,none⟩)) undef (.agg #[On,Oo,.int .i64 4,Oo,Ot,Ot,Ot,On,On]) (.agg #[On,Oo,.int .i64 7,Oo,Ot,Ot,Ot,On,On]) (.slice (some ⟨d,0,none⟩) 2 2) (.agg #[.int .i64 9,Oo,On,Oo,Ot,Ot,Ol d 0 2 2,On,On]) undef undef) M:=by
   intro F d M O HF aB HD
   subst hX
   show wpAnyH _ _ _ _ _ _ _ _ _
   unfold lvA
   have D:=L.out _ O.out
   refine rsD [0,6] ?_
   refine rcD (fun K T=>?_) ?_
   ·go_simp
    generalize J:World.alloc _ _=U
    have G:=Ya J
    have N:=Yw J
    have I:=Qq (O.out.thn G)
    have aA:=Qq (Zo G HF.out)
    have Z:=Qq (Zo G HD.out)
    refine T.out _ _ (L.out _ I.out) (fun D=>?_)
    exact aW _ _ _ U I (Qq N) aA aB Z
   refine rcD (fun K T=>?_) Qh
   go_simp
   generalize J:World.alloc _ _=U
   have G:=Ya J
   have N:=Yw J
   have I:=Qq (O.out.thn G)
   have aA:=Qq (Zo G HF.out)
   have Z:=Qq (Zo G HD.out)
   refine T.out _ _ (L.out _ I.out) (fun D=>?_)
   exact bL _ _ _ U I aA aB Z (Qq N)
  have bO:∀ (a d:Nat) (M:World),Hid (Below V V M)->Hid (M.heap[a]?=some (.cells #[.string ⟨#[120]⟩] 9 (0,0)))->Hid (M.heap[d]?=some (.cells #[On,Oo,.int .i64 4,Oo,Ot,Ot,Ot,On,On,On,Oo,.int .i64 7,Oo,Ot,Ot,Ot,On,On] 59 (0,0)))->X 4 #[true,true,true,true,true,true,false,false,false,false] (lvA w2 undef (.slice (some ⟨a,0,none⟩) 1 1) (.agg #[On,Oo,.int .i64 4,Oo,Ot,Ot,Ot,On,On]) (.agg #[On,Oo,.int .i64 7,Oo,Ot,Ot,Ot,On,On]) (.slice (some ⟨d,0,none⟩) 2 2) (.agg #[.int .i64 9,Oo,On,Oo,Ot,Ot,Ol d 0 2 2,On,On]) undef undef) M:=by
   intro a d M O HA HD
   subst hX
   show wpAnyH _ _ _ _ _ _ _ _ _
   unfold lvA
   have D:=L.out _ O.out
   refine rsD [6,8] ?_
   refine rcD (fun K T=>?_) ?_
   ·go_simp
    generalize J:World.alloc _ _=U
    have G:=Ya J
    have N:=Yw J
    have I:=Qq (O.out.thn G)
    have Y:=Qq (Zo G HA.out)
    have Z:=Qq (Zo G HD.out)
    refine T.out _ _ (L.out _ I.out) (fun D=>?_)
    refine tkD (v:=?_) 7 (fun w0 aC=>?_) ?_;rotate_left
    ·(obtain ⟨c0,c1,c2,c3,c4,c5,c6,c7,c8,_⟩:=aC;go_simp;try with_reducible rfl)
    exact bP _ _ _ U I Y Z (Qq N)
   refine rcD (fun K T=>?_) Qh
   go_simp
   generalize J:World.alloc _ _=U
   have G:=Ya J
   have N:=Yw J
   have I:=Qq (O.out.thn G)
   have Y:=Qq (Zo G HA.out)
   have Z:=Qq (Zo G HD.out)
   refine T.out _ _ (L.out _ I.out) (fun D=>?_)
   exact aW _ _ _ U I Y (Qq N) (Qq O.out.size) Z
  have cV:∀ (d:Nat) (M:World),Hid (Below V V M)->Hid (M.heap[d]?=some (.cells #[On,Oo,.int .i64 4,Oo,Ot,Ot,Ot,On,On,On,Oo,.int .i64 7,Oo,Ot,Ot,Ot,On,On] 59 (0,0)))->X 5 #[false,true,true,true,true,true,false,false,false,false] (lvA w2 undef undef (.agg #[On,Oo,.int .i64 4,Oo,Ot,Ot,Ot,On,On]) (.agg #[On,Oo,.int .i64 7,Oo,Ot,Ot,Ot,On,On]) (.slice (some ⟨d,0,none⟩) 2 2) (.agg #[.int .i64 9,Oo,On,Oo,Ot,Ot,Ol d 0 2 2,On,On]) undef undef) M:=by
   intro d M O HD
   subst hX
   show wpAnyH _ _ _ _ _ _ _ _ _
   unfold lvA
   have D:=L.out _ O.out
   refine rsD [0,6,8] ?_
   refine rcD (fun K T=>?_) ?_
   ·go_simp
    generalize J:World.alloc _ _=U
    have G:=Ya J
    have N:=Yw J
    have I:=Qq (O.out.thn G)
    have Z:=Qq (Zo G HD.out)
    refine T.out _ _ (L.out _ I.out) (fun D=>?_)
    exact bO _ _ U I (Qq N) Z
   refine rcD (fun K T=>?_) ?_
   ·go_simp
    generalize J:World.alloc _ _=U
    have G:=Ya J
    have N:=Yw J
    have I:=Qq (O.out.thn G)
    have Z:=Qq (Zo G HD.out)
    refine T.out _ _ (L.out _ I.out) (fun D=>?_)
    exact cW _ _ U I Z (Qq N)
   refine rcD (fun K T=>?_) Qh
   go_simp
   generalize J:World.alloc _ _=U
   have G:=Ya J
   have N:=Yw J
   have I:=Qq (O.out.thn G)
   have Z:=Qq (Zo G HD.out)
   refine T.out _ _ (L.out _ I.out) (fun D=>?_)
   exact bK _ _ U I (Qq N) (Qq O.out.size) Z
  have aV:∀ (a F:Nat) (M:World),Hid (Below V V M)->Hid (M.heap[a]?=some (.cells #[.string ⟨#[120]⟩] 9 (0,0)))->Hid (M.heap[F]?=some (.cells #[On,Oo,On,Oo,Ot,Ot,Ot,On,On] 59 (0,0)))->Hid (V<=F)->X 5 #[true,true,true,true,false,false,false,false,true,false] (lvA w2 (.pointer (some ⟨F,0,none⟩)) (.slice (some ⟨a,0,none⟩) 1 1) (.agg #[On,Oo,.int .i64 4,Oo,Ot,Ot,Ot,On,On]) (.agg #[On,Oo,.int .i64 7,Oo,Ot,Ot,Ot,On,On]) undef undef undef undef) M:=by
   intro a F M O HA HF aB
   subst hX
   show wpAnyH _ _ _ _ _ _ _ _ _
   unfold lvA
   have D:=L.out _ O.out
   refine rdD 4 (fun K T=>?_) Qh
   go_simp
   generalize J:World.alloc _ _=U
   have G:=Ya J
   have N:=Yw J
   have I:=Qq (O.out.thn G)
   have Y:=Qq (Zo G HA.out)
   have aA:=Qq (Zo G HF.out)
   refine T.out _ _ (L.out _ I.out) (fun D=>?_)
   refine tkD (v:=?_) 5 (fun w0 aC=>?_) ?_;rotate_left
   ·(obtain ⟨c0,c1,c2,c3,c4,c5,c6,c7,c8,_⟩:=aC;go_simp;try with_reducible rfl)
   exact aW _ _ _ U I Y aA aB (Qq N)
  have bJ:∀ (F:Nat) (M:World),Hid (Below V V M)->Hid (M.heap[F]?=some (.cells #[On,Oo,On,Oo,Ot,Ot,Ot,On,On] 59 (0,0)))->Hid (V<=F)->X 6 #[false,true,true,true,false,false,false,false,true,false] (lvA w2 (.pointer (some ⟨F,0,none⟩)) undef (.agg #[On,Oo,.int .i64 4,Oo,Ot,Ot,Ot,On,On]) (.agg #[On,Oo,.int .i64 7,Oo,Ot,Ot,Ot,On,On]) undef undef undef undef) M:=by
   intro F M O HF aB
   subst hX
   show wpAnyH _ _ _ _ _ _ _ _ _
   unfold lvA
   have D:=L.out _ O.out
   refine rsD [0,4] ?_
   refine rcD (fun K T=>?_) ?_
   ·go_simp
    generalize J:World.alloc _ _=U
    have G:=Ya J
    have N:=Yw J
    have I:=Qq (O.out.thn G)
    have aA:=Qq (Zo G HF.out)
    refine T.out _ _ (L.out _ I.out) (fun D=>?_)
    exact aV _ _ U I (Qq N) aA aB
   refine rcD (fun K T=>?_) Qh
   go_simp
   generalize J:World.alloc _ _=U
   have G:=Ya J
   have N:=Yw J
   have I:=Qq (O.out.thn G)
   have aA:=Qq (Zo G HF.out)
   refine T.out _ _ (L.out _ I.out) (fun D=>?_)
   refine tkD (v:=?_) 5 (fun w0 aC=>?_) ?_;rotate_left
   ·(obtain ⟨c0,c1,c2,c3,c4,c5,c6,c7,c8,_⟩:=aC;go_simp;try with_reducible rfl)
   exact bK _ _ U I aA aB (Qq N)
  have bN:∀ (a:Nat) (M:World),Hid (Below V V M)->Hid (M.heap[a]?=some (.cells #[.string ⟨#[120]⟩] 9 (0,0)))->X 6 #[true,true,true,true,false,false,false,false,false,false] (lvA w2 undef (.slice (some ⟨a,0,none⟩) 1 1) (.agg #[On,Oo,.int .i64 4,Oo,Ot,Ot,Ot,On,On]) (.agg #[On,Oo,.int .i64 7,Oo,Ot,Ot,Ot,On,On]) undef undef undef undef) M:=by
   intro a M O HA
   subst hX
   show wpAnyH _ _ _ _ _ _ _ _ _
   unfold lvA
   have D:=L.out _ O.out
   refine rsD [4,8] ?_
   refine rcD (fun K T=>?_) ?_
   ·go_simp
    generalize J:World.alloc _ _=U
    have G:=Ya J
    have N:=Yw J
    have I:=Qq (O.out.thn G)
    have Y:=Qq (Zo G HA.out)
    refine T.out _ _ (L.out _ I.out) (fun D=>?_)
    refine tkD (v:=?_) 5 (fun w0 aC=>?_) ?_;rotate_left
    ·(obtain ⟨c0,c1,c2,c3,c4,c5,c6,c7,c8,_⟩:=aC;go_simp;try with_reducible rfl)
    exact bO _ _ U I Y (Qq N)
   refine rcD (fun K T=>?_) Qh
   go_simp
   generalize J:World.alloc _ _=U
   have G:=Ya J
   have N:=Yw J
   have I:=Qq (O.out.thn G)
   have Y:=Qq (Zo G HA.out)
   refine T.out _ _ (L.out _ I.out) (fun D=>?_)
   exact aV _ _ U I Y (Qq N) (Qq O.out.size)
  have cU:∀ (M:World),Hid (Below V V M)->X 7 #[false,true,true,true,false,false,false,false,false,false] (lvA w2 undef undef (.agg #[On,Oo,.int .i64 4,Oo,Ot,Ot,Ot,On,On]) (.agg #[On,Oo,.int .i64 7,Oo,Ot,Ot,Ot,On,On]) undef undef undef undef) M:=by
   intro M O
   subst hX
   show wpAnyH _ _ _ _ _ _ _ _ _
   unfold lvA
   have D:=L.out _ O.out
   refine rsD [0,4,8] ?_
   refine rcD (fun K T=>?_) ?_
   ·go_simp
    generalize J:World.alloc _ _=U
    have G:=Ya J
    have N:=Yw J
    have I:=Qq (O.out.thn G)
    refine T.out _ _ (L.out _ I.out) (fun D=>?_)
    exact bN _ U I (Qq N)
   refine rcD (fun K T=>?_) ?_
   ·go_simp
    generalize J:World.alloc _ _=U
    have G:=Ya J
    have N:=Yw J
    have I:=Qq (O.out.thn G)
    refine T.out _ _ (L.out _ I.out) (fun D=>?_)
    refine tkD (v:=?_) 5 (fun w0 aC=>?_) ?_;rotate_left
    ·(obtain ⟨c0,c1,c2,c3,c4,c5,c6,c7,c8,_⟩:=aC;go_simp;try with_reducible rfl)
    exact cV _ U I (Qq N)
   refine rcD (fun K T=>?_) Qh
   go_simp
   generalize J:World.alloc _ _=U
   have G:=Ya J
   have N:=Yw J
   have I:=Qq (O.out.thn G)
   refine T.out _ _ (L.out _ I.out) (fun D=>?_)
   exact bJ _ U I (Qq N) (Qq O.out.size)
  have aU:∀ (a F:Nat) (M:World),Hid (Below V V M)->Hid (M.heap[a]?=some (.cells #[.string ⟨#[120]⟩] 9 (0,0)))->Hid (M.heap[F]?=some (.cells #[On,Oo,On,Oo,Ot,Ot,Ot,On,On] 59 (0,0)))->Hid (V<=F)->X 6 #[true,true,true,false,false,false,false,false,true,false] (lvA w2 (.pointer (some ⟨F,0,none⟩)) (.slice (some ⟨a,0,none⟩) 1 1) (.agg #[On,Oo,.int .i64 4,Oo,Ot,Ot,Ot,On,On]) undef undef undef undef undef) M:=by
   intro a F M O HA HF aB
   subst hX
   show wpAnyH _ _ _ _ _ _ _ _ _
   unfold lvA
   have D:=L.out _ O.out
   refine rdD 3 (fun K T=>?_) Qh
   go_simp
   refine (aH.out 7 _).mono ?_
   rintro e5 U ⟨rfl,G⟩
   have I:=Qq (O.out.thn G)
   have Y:=Qq (Zo G HA.out)
   have aA:=Qq (Zo G HF.out)
   refine T.out _ _ (L.out _ I.out) (fun D=>?_)
   exact aV _ _ U I Y aA aB
  have bI:∀ (F:Nat) (M:World),Hid (Below V V M)->Hid (M.heap[F]?=some (.cells #[On,Oo,On,Oo,Ot,Ot,Ot,On,On] 59 (0,0)))->Hid (V<=F)->X 7 #[false,true,true,false,false,false,false,false,true,false] (lvA w2 (.pointer (some ⟨F,0,none⟩)) undef (.agg #[On,Oo,.int .i64 4,Oo,Ot,Ot,Ot,On,On]) undef undef undef undef undef) M:=by
   intro F M O HF aB
   subst hX
   show wpAnyH _ _ _ _ _ _ _ _ _
   unfold lvA
   have D:=L.out _ O.out
   refine rsD [0,3] ?_
   refine rcD (fun K T=>?_) ?_
   ·go_simp
    generalize J:World.alloc _ _=U
    have G:=Ya J
    have N:=Yw J
    have I:=Qq (O.out.thn G)
    have aA:=Qq (Zo G HF.out)
    refine T.out _ _ (L.out _ I.out) (fun D=>?_)
    exact aU _ _ U I (Qq N) aA aB
   refine rcD (fun K T=>?_) Qh
   go_simp
   refine (aH.out 7 _).mono ?_
   rintro e5 U ⟨rfl,G⟩
   have I:=Qq (O.out.thn G)
   have aA:=Qq (Zo G HF.out)
   refine T.out _ _ (L.out _ I.out) (fun D=>?_)
   exact bJ _ U I aA aB
  have bM:∀ (a:Nat) (M:World),Hid (Below V V M)->Hid (M.heap[a]?=some (.cells #[.string ⟨#[120]⟩] 9 (0,0)))->X 7 #[true,true,true,false,false,false,false,false,false,false] (lvA w2 undef (.slice (some ⟨a,0,none⟩) 1 1) (.agg #[On,Oo,.int .i64 4,Oo,Ot,Ot,Ot,On,On]) undef undef undef undef undef) M:=by
   intro a M O HA
   subst hX
   show wpAnyH _ _ _ _ _ _ _ _ _
   unfold lvA
   have D:=L.out _ O.out
   refine rsD [3,8] ?_
   refine rcD (fun K T=>?_) ?_
   ·go_simp
    refine (aH.out 7 _).mono ?_
    rintro e5 U ⟨rfl,G⟩
    have I:=Qq (O.out.thn G)
    have Y:=Qq (Zo G HA.out)
    refine T.out _ _ (L.out _ I.out) (fun D=>?_)
    exact bN _ U I Y
   refine rcD (fun K T=>?_) Qh
   go_simp
   generalize J:World.alloc _ _=U
   have G:=Ya J
   have N:=Yw J
   have I:=Qq (O.out.thn G)
   have Y:=Qq (Zo G HA.out)
   refine T.out _ _ (L.out _ I.out) (fun D=>?_)
   exact aU _ _ U I Y (Qq N) (Qq O.out.size)
  have cT:∀ (M:World),Hid (Below V V M)->X 8 #[false,true,true,false,false,false,false,false,false,false] (lvA w2 undef undef (.agg #[On,Oo,.int .i64 4,Oo,Ot,Ot,Ot,On,On]) undef undef undef undef undef) M:=by
   intro M O
   subst hX
   show wpAnyH _ _ _ _ _ _ _ _ _
   unfold lvA
   have D:=L.out _ O.out
   refine rsD [0,3,8] ?_
   refine rcD (fun K T=>?_) ?_
   ·go_simp
    generalize J:World.alloc _ _=U
    have G:=Ya J
    have N:=Yw J
    have I:=Qq (O.out.thn G)
    refine T.out _ _ (L.out _ I.out) (fun D=>?_)
    exact bM _ U I (Qq N)
   refine rcD (fun K T=>?_) ?_
   ·go_simp
    refine (aH.out 7 _).mono ?_
    rintro e5 U ⟨rfl,G⟩
    have I:=Qq (O.out.thn G)
    refine T.out _ _ (L.out _ I.out) (fun D=>?_)
    exact cU  U I
   refine rcD (fun K T=>?_) Qh
   go_simp
   generalize J:World.alloc _ _=U
   have G:=Ya J
   have N:=Yw J
   have I:=Qq (O.out.thn G)
   refine T.out _ _ (L.out _ I.out) (fun D=>?_)
   exact bI _ U I (Qq N) (Qq O.out.size)
  have bQ:∀ (a F:Nat) (M:World),Hid (Below V V M)->Hid (M.heap[a]?=some (.cells #[.string ⟨#[120]⟩] 9 (0,0)))->Hid (M.heap[F]?=some (.cells #[On,Oo,On,Oo,Ot,Ot,Ot,On,On] 59 (0,0)))->Hid (V<=F)->X 7 #[true,true,false,false,false,false,false,false,true,false] (lvA w2 (.pointer (some ⟨F,0,none⟩)) (.slice (some ⟨a,0,none⟩) 1 1) undef undef undef undef undef undef) M:=by
   intro a F M O HA HF aB
   subst hX
   show wpAnyH _ _ _ _ _ _ _ _ _
   unfold lvA
   have D:=L.out _ O.out
   refine rdD 2 (fun K T=>?_) Qh
   go_simp
   refine (aH.out 4 _).mono ?_
   rintro e5 U ⟨rfl,G⟩
   have I:=Qq (O.out.thn G)
   have Y:=Qq (Zo G HA.out)
   have aA:=Qq (Zo G HF.out)
   refine T.out _ _ (L.out _ I.out) (fun D=>?_)
   exact aU _ _ U I Y aA aB
  have cX:∀ (F:Nat) (M:World),Hid (Below V V M)->Hid (M.heap[F]?=some (.cells #[On,Oo,On,Oo,Ot,Ot,Ot,On,On] 59 (0,0)))->Hid (V<=F)->X 8 #[false,true,false,false,false,false,false,false,true,false] (lvA w2 (.pointer (some ⟨F,0,none⟩)) undef undef undef undef undef undef undef) M:=by
   intro F M O HF aB
   subst hX
   show wpAnyH _ _ _ _ _ _ _ _ _
   unfold lvA
   have D:=L.out _ O.out
   refine rsD [0,2] ?_
   refine rcD (fun K T=>?_) ?_
   ·go_simp
    generalize J:World.alloc _ _=U
    have G:=Ya J
    have N:=Yw J
    have I:=Qq (O.out.thn G)
    have aA:=Qq (Zo G HF.out)
    refine T.out _ _ (L.out _ I.out) (fun D=>?_)
    exact bQ _ _ U I (Qq N) aA aB
   refine rcD (fun K T=>?_) Qh
   go_simp
   refine (aH.out 4 _).mono ?_
   rintro e5 U ⟨rfl,G⟩
   have I:=Qq (O.out.thn G)
   have aA:=Qq (Zo G HF.out)
   refine T.out _ _ (L.out _ I.out) (fun D=>?_)
   exact bI _ U I aA aB
  have cY:∀ (a:Nat) (M:World),Hid (Below V V M)->Hid (M.heap[a]?=some (.cells #[.string ⟨#[120]⟩] 9 (0,0)))->X 8 #[true,true,false,false,false,false,false,false,false,false] (lvA w2 undef (.slice (some ⟨a,0,none⟩) 1 1) undef undef undef undef undef undef) M:=by
   intro a M O HA
   subst hX
   show wpAnyH _ _ _ _ _ _ _ _ _
   unfold lvA
   have D:=L.out _ O.out
   refine rsD [2,8] ?_
   refine rcD (fun K T=>?_) ?_
   ·go_simp
    refine (aH.out 4 _).mono ?_
    rintro e5 U ⟨rfl,G⟩
    have I:=Qq (O.out.thn G)
    have Y:=Qq (Zo G HA.out)
    refine T.out _ _ (L.out _ I.out) (fun D=>?_)
    exact bM _ U I Y
   refine rcD (fun K T=>?_) Qh
   go_simp
   generalize J:World.alloc _ _=U
   have G:=Ya J
   have N:=Yw J
   have I:=Qq (O.out.thn G)
   have Y:=Qq (Zo G HA.out)
   refine T.out _ _ (L.out _ I.out) (fun D=>?_)
   exact bQ _ _ U I Y (Qq N) (Qq O.out.size)
  have cS:∀ (M:World),Hid (Below V V M)->X 9 #[false,true,false,false,false,false,false,false,false,false] (lvA w2 undef undef undef undef undef undef undef undef) M:=by
   intro M O
   subst hX
   show wpAnyH _ _ _ _ _ _ _ _ _
   unfold lvA
   have D:=L.out _ O.out
   refine rsD [0,2,8] ?_
   refine rcD (fun K T=>?_) ?_
   ·go_simp
    generalize J:World.alloc _ _=U
    have G:=Ya J
    have N:=Yw J
    have I:=Qq (O.out.thn G)
    refine T.out _ _ (L.out _ I.out) (fun D=>?_)
    exact cY _ U I (Qq N)
   refine rcD (fun K T=>?_) ?_
   ·go_simp
    refine (aH.out 4 _).mono ?_
    rintro e5 U ⟨rfl,G⟩
    have I:=Qq (O.out.thn G)
    refine T.out _ _ (L.out _ I.out) (fun D=>?_)
    exact cT  U I
   refine rcD (fun K T=>?_) Qh
   go_simp
   generalize J:World.alloc _ _=U
   have G:=Ya J
   have N:=Yw J
   have I:=Qq (O.out.thn G)
   refine T.out _ _ (L.out _ I.out) (fun D=>?_)
   exact cX _ U I (Qq N) (Qq O.out.size)
  exact cS _ O
 obtain ⟨F,a,d,e,rfl,hF,hA,hE,hD,hB⟩:=hcut
 obtain ⟨w5,rfl⟩:∃ w5,w5=wc:=⟨_,rfl⟩
 have hX:=lv_is (Zo hB dT.out) hA hE hD
 have cK:=Qq (fun W (hb:Below w5 w5 W)=>Jz (fun _=>True) (fun _=>True) ⟨#[109]⟩ (.slice none 0 0) _ Dn [] 100 _ W Of (hX.move (.of_below hb) P8) (Sl.nil _ _ _) Lx)
 have cL:=Qq (fun W (hb:Below w5 w5 W)=>Jz (fun _=>True) (fun _=>True) ⟨#[109]⟩ (.slice none 0 0) _ Dn [] 11 _ W Of (hX.move (.of_below hb) P8) (Sl.nil _ _ _) Nq)
 have cM:=Qq (fun W=>Jz (fun _=>True) (fun _=>True) ⟨#[109]⟩ (.slice none 0 0) _ (Gen.var [120]) [] 100 _ W Of (lv_vis W) (Sl.nil _ _ _) lv_var.at)
 have dO:=Qq (cI.out.thn hB)
 have dS:=Qq hF
 have cf:=fun j=>Qk _ _ j _ _ _ hF
 obtain ⟨c0,c1,c2,c3,c4,c5,c6,c7,c8⟩:=P4 cf
 simp only [Qa,Qb,Qc] at c0 c1 c2 c3 c4 c5 c6 c7 c8
 have dR:=Qq (fun S S' a b ca cb W ha hb=>Fb S S' a b ca cb W ha hb)
 clear hF hA hE hD hB hX cO Z Y cN dU cf L
 go_upto_region 4 with (go_at_call 54;refine (cK.out _ (Qz _ _)).mono ?_;rintro e' w6 ⟨cv,rfl,hv,dF⟩;obtain ⟨p3,k3,p4,k4,aI,_⟩:=Z5.cells hv;simp only [vcs] at aI;subst aI)
 generalize bW:World.alloc w6 _=w7
 have cA:=Ya bW
 have dC:w7.heap[w6.heap.size]?=some (.cells #[.int .i64 (Uo (.ok (Zm [Yx 5,Yx 8],88))).kind,.int .i64 (Uo (.ok (Zm [Yx 5,Yx 8],88))).n,.string ⟨(Uo (.ok (Zm [Yx 5,Yx 8],88))).s.toArray⟩,.slice p3 (Uo (.ok (Zm [Yx 5,Yx 8],88))).names.length k3,.slice p4 (Uo (.ok (Zm [Yx 5,Yx 8],88))).kids.length k4] 48 (0,0)):=(Yw bW).trans rfl
 have bU:=Qq (dF.thn cA)
 have dV:=Qq (hv.move (.of_below cA) P8)
 have dW:=Qq dC
 clear hv dF cA bW dC c0 c1 c2 c3 c4 c5 c6 c7 c8
 have cf:=fun j=>Qk _ _ j _ _ _ (Zo bU.out dS.out)
 obtain ⟨c0,c1,c2,c3,c4,c5,c6,c7,c8⟩:=P4 cf
 simp only [Qa,Qb,Qc] at c0 c1 c2 c3 c4 c5 c6 c7 c8
 clear cf
 go_upto_region 5 with (go_at_call 54;refine (cL.out _ bU.out).mono ?_;rintro e' w8 ⟨cv,rfl,hv,bD⟩;obtain ⟨q3,l3,q4,l4,aI,_⟩:=Z5.cells hv;simp only [vcs] at aI;subst aI;clear hv)
 generalize bA:World.alloc w8 _=w9
 have dP:=Qq ((bU.out.thn bD).thn (Ya bA))
 have cR:=Qq (Zo (Ya bA) (Zo bD dW.out))
 have cP:=Qq (dV.out.move (.of_below (bD.thn (Ya bA))) P8)
 clear bD bA c0 c1 c2 c3 c4 c5 c6 c7 c8 cK cL
 go_upto_region 6 with (first | (go_at_call 72;refine (Ur _).mono ?_;rintro e' eC ⟨rfl,bR⟩) | (go_at_call 54;refine (cM.out _).mono ?_;rintro e' bH ⟨cv,rfl,hv,bS⟩;obtain ⟨r3,m3,r4,m4,aI,_⟩:=Z5.cells hv;simp only [vcs] at aI;subst aI;clear hv))
 rw [show Dv 100 (Except.ok (Zm [Yx 5,Yx 8],88))=12 from rfl,show Kc (Except.ok (Zm [Yx 5,Yx 8],88))=0 from rfl,show Dv 11 (Except.error 19)=0 from rfl,show Kc (Except.error 19)=19 from rfl,show Dv 100 (Except.error 9)=0 from rfl,show Kc (Except.error 9)=9 from rfl]
 rw [show Uo (Except.ok (Zm [Yx 5,Yx 8],88))=Zm [Yx 5,Yx 8] from rfl] at cP cR |-
 go_upto_region 7 with fail
 generalize bB:World.alloc bH _=wa
 generalize bC:World.alloc wa _=wb
 generalize bX:World.alloc wb _=wc
 have dH:=Ya bB;have dI:=Ya bC;have cB:=Ya bX
 have cE:=Zo cB (Yw bC);have cF:=Yw bX
 have za:wa=bH.heap.size+1:=by rw [<- bB];simp
 have zb:wb=bH.heap.size+1+1:=by rw [<- bC,<- bB];simp
 rw [za] at cE
 rw [zb] at cF
 have bE:=(bR.thn bS).thn ((dH.thn dI).thn cB)
 have dQ:=Qq (dO.out.thn (dP.out.thn bE))
 have hx:=Zo bE cR.out
 have hI:∀ n:Int,Z5 (fun _=>True) wc [On,.int .i64 n,Oo,Ot,Ot] (Yx n):=fun n=>Zu (s:=[]) Od (Sl.nil _ _ _) (Sl.nil _ _ _)
 have hw:Z5 (fun _=>True) wc [.int .i64 5,On,Oo,Ot,Ol (bH+1) 0 2 2] (Zm [Yx 5,Yx 8]):=
  Zu (s:=[]) Od (Sl.nil _ _ _) (Y2 (xs:=[Yx 5,Yx 8]) cE trivial ((Cs.one (r:=Zc) (x:=Yx 5) (hI 5)).app (Cs.one (r:=Zc) (x:=Yx 8) (hI 8))) rfl rfl Od)
 have cC:=Fb _ _ _ _ _ _ wc (cP.out.move (.of_below bE) P8) hw
 rw [Gn.2 rfl] at cC
 have cJ:=Qq cC
 have df:=fun j=>Qk _ _ j _ _ _ hx
 have yf:=fun j=>Qk _ _ j _ _ _ cF
 obtain ⟨d0,d1,d2,d3,d4⟩:=P3 df
 obtain ⟨y0,y1,y2,y3,y4⟩:=P3 yf
 simp only [Qa,Qb,Qc] at d0 d1 d2 d3 d4 y0 y1 y2 y3 y4
 clear cC za zb bB bC bX dH dI cB cE cF bE bR bS hx hI hw df yf cM dR
 unfold vcs at cJ
 go_wp2_with (go_at_call 74;refine cJ.out.mono ?_;rintro e' w' ⟨rfl,hg⟩)
 go_ret
 exact ⟨rfl,dQ.out.thn (hg.bl)⟩
end Go.Proofs.YtlanplhphiikjaaGreatDoor
