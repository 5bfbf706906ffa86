import Derived.Test.YtdpibdpbgokmoaaGreatDoorC21
set_option maxRecDepth 100000
set_option maxHeartbeats 400000000
namespace Go.Proofs.YtdpibdpbgokmoaaGreatDoor
open Go.RowKit Go.Shelf Go.Lib Tryz
theorem Zb {W:World} {b:Nat} {o:Obj} (h:W.heap[b]?=some o) (o':Obj):(W.alloc o').heap[b]?=some o:=((Zg W o').block b (Z8 h)).trans h
theorem Y6 {W:World} {n:Nat} (h:W=n) (o:Obj):(W.alloc o).heap[n]?=some o:=by subst h;exact Qw W o
theorem Sq {T:Type} (r:Rd T) (S:Nat→Prop) (w:World) (p:Option Addr) (c:Nat):Sl r S w (.slice p 0 c) []:=⟨p,c,rfl,Qqk,fun h=>absurd rfl h⟩
theorem Nd (S:Nat→Prop) (w:World) (p1 p2 p3:Option Addr) (c1 c2 c3:Nat):Yv S w [.int .i64 2,Qqe,.int .i64 1,Qqe,.slice p1 0 c1,.slice p2 0 c2,.slice p3 0 c3,Qqd,Qqd] Gen.yes:=
 Xz (nm:=[]) (s:=[]) Qqk Qqk (Sq _ _ _ _ _) (Sq _ _ _ _ _) (Sq _ _ _ _ _)
theorem Uj {S:Nat→Prop} {w:World} (nm:Bs) (k:Int) (tn:Bs) (h1:nm.length≤1000000) (h2:tn.length≤1000000):X7.R S w [nm,k,tn,Qqd,Qqf,Qqf] ⟨nm,.mk k tn 0 [] []⟩:=
 ⟨_,rfl,h1,Kn h2 (Sl.nil _ _ _) (Sl.nil _ _ _)⟩
theorem Nf {S:Nat→Prop} {w:World} (nm:Bs) (b:Bool) (k:Int) (h1:nm.length≤1000000):Gg.R S w [nm,.bool b,k,Qqe,Qqd,Qqf,Qqf] ⟨nm,b,.mk k [] 0 [] []⟩:=
 ⟨_,rfl,h1,Kn (s:=[]) Qqk (Sl.nil _ _ _) (Sl.nil _ _ _)⟩
theorem Ku {S:Nat→Prop} {w:World} (a:Bs) (ha:a.length≤1000000):Cs Zh S w [[.string ⟨a.toArray⟩]] [a]:=Cs.one (r:=Zh) (x:=a) (show Zh.R S w [a] a from ⟨rfl,ha⟩)
def Jv (w:World) (x:Ex) (e:Ending) (w':World):Prop:=∃ cs,e=.returned (.agg cs.toArray)∧Yv (fun b=>w≤b) w' cs x∧Below w w w'
def NewSc (w:World) (x:Sc) (e:Ending) (w':World):Prop:=∃ cs,e=.returned (.agg cs.toArray)∧Xu (fun b=>w≤b) w' cs x∧Below w w w'
theorem Zu {w W:World} (h:Below w w W) (o:Obj):Below w w (W.alloc o):=h.alloc h.size o
theorem Ta {T:Type} {r:Rd T} {E:TypeId} {S:Nat→Prop} {B b n:Nat} {w:World} {cells:Array Value} {xs:List T} {css:List (List Value)} (hb:w.heap[b]?=some (.cells cells E (0,0))) (hB:B≤b) (hcs:Cs r (fun x=>S x∧x≠b) w css xs) (hc:css.flatten=cells.toList) (hn:n=xs.length) (hl:xs.length≤1000000):Own r E S B w (.slice (some ⟨b,0,none⟩) n n) xs css:=by
 subst hn
 refine ⟨⟨hcs.flat,.inr ⟨b,xs.length,cells,rfl,hB,hb,Q9 _,by unfold maxLen;omega,?_,?_⟩⟩,hcs.move (.refl _ _) (fun c _ h=>⟨h.1,fun e=>h.2 (Qb e)⟩)⟩
 ·have:=hcs.flat
  rw [hc] at this
  simpa using this
 rw [← hc,Zj (by rw [hcs.flat];exact Q9 _)]
theorem Jr {g:Nat} {W W':World} {c:Nat} {o:Obj} (h:Below g W W') (hc:c<g) (hg:W.heap[c]?=some o):W'.heap[c]?=some o:=(h.block c hc).trans hg
def Xc (S:Nat→Prop) (w:World) (v:Value) (xs:List Int):Prop:=
 ∃ p cap,v=.slice p xs.length cap∧xs.length≤9223372036854775807∧(xs≠[]→∃ b off,p=some ⟨b,off,none⟩∧S b∧b<w.heap.size∧∀ i x,xs[i]?=some x→w.cell? ⟨b,off+i,none⟩=some (.int .i64 x))
theorem Xc.len {S:Nat→Prop} {w:World} {v:Value} {xs:List Int} (h:Xc S w v xs):∃ p cap,v=.slice p xs.length cap∧xs.length≤9223372036854775807:=by
 obtain ⟨p,cap,h1,h2,_⟩:=h;exact ⟨p,cap,h1,h2⟩
theorem Xc.below {S:Nat→Prop} {w w':World} {v:Value} {xs:List Int} (h:Xc S w v xs) (hb:Below w w w'):Xc S w' v xs:=by
 obtain ⟨p,cap,h1,h2,h3⟩:=h
 refine ⟨p,cap,h1,h2,fun G=>?_⟩
 obtain ⟨b,D,e,hS,A,hc⟩:=h3 G
 exact ⟨b,D,e,hS,Qa A hb.size,fun i x hx=>(hb.cell (p:=⟨b,D+i,none⟩) A).trans (hc i x hx)⟩
theorem Yr (S:Nat→Prop) (v:Value) (l:List Int) (i:Nat) (m:Int) (w:World) (hs:Xc S w v l) (hi:Ub l) (hm:1≤m) (hm2:m≤1000000000):
  Calls prog 18 #[v,i,m] w fun e w'=>e=.returned (.int .i64 (Yp l i m))∧w=w':=by
 have I:decide ((i:Int)<0)=false:=Qqk
 obtain ⟨p,cap,rfl,hl,A⟩:=hs
 by_cases h:i<l.length
 ·obtain ⟨n,D⟩:∃ n,l[i]?=some n:=⟨_,Qx h⟩
  obtain ⟨b,J,rfl,_,hb,A⟩:=A (fun e=>by rw [e] at h;exact absurd h (Z6 i))
  have c0:=A i n D
  have HA:=Qq (fun W=>Rq n m W (hi n (Qy D)).1 (hi n (Qy D)).2 hm Qqj)
  have G:Yp l i m=U6 n m:=by unfold Yp;rw [D]
  rw [G]
  generalize U6 n m=r at HA ⊢
  have h1:(i:Int)<(l.length:Int):=Qqj
  have h2:decide ((l.length:Int)≤(i:Int))=false:=by simp;omega
  clear hi D A G
  go_enter func18,ntmps18
  go_wp2_with (go_at_call 13;refine (HA.out _).mono ?_;rintro e w' ⟨rfl,rfl⟩)
  go_ret
  exact ⟨rfl,rfl⟩
 have G:Yp l i m=0:=by unfold Yp;rw [List.getElem?_eq_none Qqj]
 rw [G]
 have h2:decide ((l.length:Int)≤(i:Int))=true:=by simp;omega
 clear hi G A
 go_enter func18,ntmps18
 go_wp2_with fail
 go_ret
 exact ⟨rfl,rfl⟩
theorem U9 {S:World→Prop} {W:World} (hS:∀ w',Below W W w'→S w') (hB:∀ w',S w'→Below W W w'):Hid (S W.drew)∧Hid (S W)∧Hid (∀ w',S w'→S w'.drew)∧Hid (∀ w',S w'→Below W W w')∧Hid (∀ w' o,S w'→S (w'.alloc o))∧Hid (∀ w',Below W W w'→S w'):=
 ⟨Qq (hS _ (Qz _ _).drew),Qq (hS _ (Qz _ _)),Qq (fun w' h=>hS _ (hB w' h).drew),Qq hB,Qq (fun w' o h=>hS _ ((hB w' h).alloc (hB w' h).size o)),Qq hS⟩
def put9 (W:World) (R:Nat) (a0 a1 a2 a3 a4 a5 a6 a7 a8:Value):World:=(((((((((W.setCell ⟨R,0,none⟩ a0).setCell ⟨R,1,none⟩ a1).setCell ⟨R,2,none⟩ a2).setCell ⟨R,3,none⟩ a3).setCell ⟨R,4,none⟩ a4).setCell ⟨R,5,none⟩ a5).setCell ⟨R,6,none⟩ a6).setCell ⟨R,7,none⟩ a7).setCell ⟨R,8,none⟩ a8)
theorem Qjs {W:World} {R:Nat} {a0 a1 a2 a3 a4 a5 a6 a7 a8 x0 x1 x2 x3 x4 x5 x6 x7 x8:Value} {t:TypeId} (h:W.heap[R]?=some (.cells #[x0,x1,x2,x3,x4,x5,x6,x7,x8] t (0,0))):(put9 W R a0 a1 a2 a3 a4 a5 a6 a7 a8).heap[R]?=some (.cells #[a0,a1,a2,a3,a4,a5,a6,a7,a8] t (0,0)):=by
 have A:=Qi _ _ 0 _ _ a0 h;have A:=Qi _ _ 1 _ _ a1 A;have A:=Qi _ _ 2 _ _ a2 A;have A:=Qi _ _ 3 _ _ a3 A;have A:=Qi _ _ 4 _ _ a4 A;have A:=Qi _ _ 5 _ _ a5 A;have A:=Qi _ _ 6 _ _ a6 A;have A:=Qi _ _ 7 _ _ a7 A;have A:=Qi _ _ 8 _ _ a8 A
 simpa [put9] using A
theorem Lk {W:World} {R k:Nat} {a0 a1 a2 a3 a4 a5 a6 a7 a8:Value} (h:k≠R):(put9 W R a0 a1 a2 a3 a4 a5 a6 a7 a8).heap[k]?=W.heap[k]?:=by
 unfold put9
 repeat rw [Za h]
theorem Tz {B R:Nat} {w W:World} {a0 a1 a2 a3 a4 a5 a6 a7 a8:Value} (h:Below B w W) (hR:B≤R):Below B w (put9 W R a0 a1 a2 a3 a4 a5 a6 a7 a8):=
 ((((((((h.setCell (p:=⟨R,0,none⟩) hR _).setCell (p:=⟨R,1,none⟩) hR _).setCell (p:=⟨R,2,none⟩) hR _).setCell (p:=⟨R,3,none⟩) hR _).setCell (p:=⟨R,4,none⟩) hR _).setCell (p:=⟨R,5,none⟩) hR _).setCell (p:=⟨R,6,none⟩) hR _).setCell (p:=⟨R,7,none⟩) hR _).setCell (p:=⟨R,8,none⟩) hR _
theorem Xe {W:World} {R:Nat} {a0 a1 a2 a3 a4 a5 a6 a7 a8 x0 x1 x2 x3 x4 x5 x6 x7 x8:Value} {t:TypeId} (h:W.heap[R]?=some (.cells #[x0,x1,x2,x3,x4,x5,x6,x7,x8] t (0,0))) (j:Nat):(put9 W R a0 a1 a2 a3 a4 a5 a6 a7 a8).cell? ⟨R,j,none⟩=#[a0,a1,a2,a3,a4,a5,a6,a7,a8][j]?:=
 Qk _ _ _ _ _ _ (Qjs h)
def ExIs (S:Nat→Prop) (w:World) (x:Ex) (e:Ending) (w':World):Prop:=∃ ek es en et e1 f1 g1 e2 f2 g2 e3 f3 g3 ea ez,e=.returned (.agg (Qqi ek es en et e1 f1 g1 e2 f2 g2 e3 f3 g3 ea ez))∧Yv (fun b=>S b∨w≤b) w' (Qqi ek es en et e1 f1 g1 e2 f2 g2 e3 f3 g3 ea ez) x∧Below w w w'
theorem rop_any (S:Nat→Prop) (o:Bs) (a b:Ex) (ca cb:List Value) (w:World) (ho:o.length≤1000000) (ha0:Yv S w ca a) (hb0:Yv S w cb b):
  Calls prog 63 #[sv o,ca,cb] w (ExIs S w (Gen.op o [a,b])):=by
 have J:Yv (fun c=>S c∧c<w) w ca a:=ha0.move (.refl _ _) (fun b hb h=>⟨h,hb⟩)
 have hb:Yv (fun c=>S c∧c<w) w cb b:=hb0.move (.refl _ _) (fun b hb h=>⟨h,hb⟩)
 obtain ⟨aC,aG,aE,aI,O,aM,aS,U,aO,aU,Y,aQ,aW,aA,aK,M⟩:=Yv.cells J
 obtain ⟨aD,aH,aF,aJ,T,aN,aT,V,aP,aV,Z,aR,aX,aB,aL,N⟩:=Yv.cells hb
 subst M;subst N
 have HA:=Qq J;have HB:=Qq hb
 clear J hb ha0 hb0
 unfold sv
 go_enter func63,ntmps63
 go_wp2_with fail
 generalize A:(((w.alloc _).alloc _).alloc _).alloc _=W1
 have D:=eqB A (Zu (Zu (Zu (Zg w _) _) _) _)
 have I:=eqH (b:=w.heap.size+1+1) A (Zb (Y6 Qqk _) _)
 have G:=eqH (b:=w.heap.size+1+1+1) A (Y6 Qqk _)
 clear A
 refine Q7 (v:=.agg #[.int .i64 14,o,Qqd,Qqe,Qqf,Qqf,Qqb (w+1+1+1) 0 2 2,Qqd,Qqd]) (by simp [results,results63,go_sem,Qk _ _ _ _ _ _ I]) rfl ⟨_,_,_,_,_,_,_,_,_,_,_,_,_,_,_,rfl,?_,D⟩
 refine Xz ho (s:=[]) Qqk (Sl.nil _ _ _) (Sl.nil _ _ _) ?_
 exact Y4 G (.inr Qqj) ((Cs.one (r:=Xp) ((HA.out.move (.of_below D) Qzx).move (.refl _ _) (fun b _ h=>.inl h.1))).app (Cs.one (r:=Xp) ((HB.out.move (.of_below D) Qzx).move (.refl _ _) (fun b _ h=>.inl h.1)))) rfl rfl Qqk
theorem Yk {S:Nat→Prop} {w:World} (k:Int) (nm:Bs) (n:Int) (sx:Bs) (h1:nm.length≤1000000) (h2:sx.length≤1000000):Yv S w [k,nm,n,sx,Qqf,Qqf,Qqf,Qqd,Qqd] (.mk k nm n sx [] [] [] 0 0):=
 Xz h1 h2 (Sl.nil _ _ _) (Sl.nil _ _ _) (Sl.nil _ _ _)
theorem A6 {W:World} {R b j:Nat} {x0 x1 x2 x3 x4 x5 x6 x7 x8 u:Value} (h:b≠R) (hc:W.cell? ⟨b,j,none⟩=some u):(put9 W R x0 x1 x2 x3 x4 x5 x6 x7 x8).cell? ⟨b,j,none⟩=some u:=(World.cell?_of_block (Lk h)).trans hc
def ExAt (Rb:Nat) (w:World) (x:Ex) (e:Ending) (w':World):Prop:=∃ ek es en et e1 f1 g1 e2 f2 g2 e3 f3 g3 ea ez,e=.returned (.agg (Qqi ek es en et e1 f1 g1 e2 f2 g2 e3 f3 g3 ea ez))∧Yv (fun b=>Rb<b) w' (Qqi ek es en et e1 f1 g1 e2 f2 g2 e3 f3 g3 ea ez) x∧Below w w w'
theorem Vg (Rb:Nat) (o:Bs) (a b:Ex) (ca cb:List Value) (w:World) (ho:o.length≤1000000) (ha:Yv (fun b=>Rb<b) w ca a) (hb:Yv (fun b=>Rb<b) w cb b) (hR:Rb<w):
  Calls prog 63 #[o,ca,cb] w (ExAt Rb w (Gen.op o [a,b])):=
 (rop_any _ o a b ca cb w ho ha hb).mono fun _ _ ⟨ek,es,en,et,e1,f1,g1,e2,f2,g2,e3,f3,g3,ea,ez,h1,h2,h3⟩=>⟨ek,es,en,et,e1,f1,g1,e2,f2,g2,e3,f3,g3,ea,ez,h1,h2.move (.refl _ _) (fun b _ h=>h.elim id (fun h=>Qqj)),h3⟩
theorem U8 {w W:World} {cs:List Value} {x:Ex} {c0 c1 c2 c3 c4 c5 c6 c7 c8:Value} (hx:Yv (fun b=>w<b) W [c0,c1,c2,c3,c4,c5,c6,c7,c8] x) (hb:Below w w W) (hc:cs=[c0,c1,c2,c3,c4,c5,c6,c7,c8]):Jv w x (.returned (.agg #[c0,c1,c2,c3,c4,c5,c6,c7,c8])) (put9 W w c0 c1 c2 c3 c4 c5 c6 c7 c8):=
 ⟨cs,by rw [hc],by rw [hc];exact hx.move (fun b hb _=>Lk (by have h:w.heap.size<b:=hb;omega)) (fun b _ h=>by show w≤b;have h':w.heap.size<b:=h;omega),Tz hb (Q9 _)⟩
def Yu (L:List (Nat × Nat × Value)) (w:World):Prop:=∀ x ∈ L,w.cell? ⟨x.1,x.2.1,none⟩=some x.2.2
def Wa:List (Nat × Nat × Value)→World→Prop
 | [],_=>True
 | [x],w=>w.cell? ⟨x.1,x.2.1,none⟩=some x.2.2
 | x::y::l,w=>w.cell? ⟨x.1,x.2.1,none⟩=some x.2.2∧Wa (y::l) w
theorem Yu.spread:∀ {L:List (Nat × Nat × Value)} {w:World},Yu L w→Wa L w
 | [],_,_=>trivial
 | [x],_,h=>h x (List.mem_cons_self ..)
 | x::y::l,_,h=>⟨h x (List.mem_cons_self ..),Yu.spread (L:=y::l) (fun z hz=>h z (List.mem_cons_of_mem _ hz))⟩
theorem Yu.later {L:List (Nat × Nat × Value)} {w w':World} (h:Yu L w) (hb:Below w w w'):Yu L w':=fun x hx=>kC hb (h x hx)
theorem Yu.alloc {L:List (Nat × Nat × Value)} {w:World} (h:Yu L w) (o:Obj):Yu L (w.alloc o):=h.later (Zg _ _)
theorem Yu.drew {L:List (Nat × Nat × Value)} {w:World} (h:Yu L w):Yu L w.drew:=h
theorem Yu.put9 {L:List (Nat × Nat × Value)} {w:World} {R:Nat} (h:Yu L w) (hn:∀ x ∈ L,R<x.1) (a0 a1 a2 a3 a4 a5 a6 a7 a8:Value):Yu L (put9 w R a0 a1 a2 a3 a4 a5 a6 a7 a8):=fun x hx=>A6 (Nat.ne_of_gt (hn x hx)) (h x hx)
def Jc (b:Nat) (a0 a1 a2 a3 a4 a5 a6 a7 a8:Value):List (Nat × Nat × Value):=[(b,0,a0),(b,1,a1),(b,2,a2),(b,3,a3),(b,4,a4),(b,5,a5),(b,6,a6),(b,7,a7),(b,8,a8)]
theorem Yu.row {w:World} {b:Nat} {t:TypeId} {a0 a1 a2 a3 a4 a5 a6 a7 a8:Value} (h:w.heap[b]?=some (.cells #[a0,a1,a2,a3,a4,a5,a6,a7,a8] t (0,0))):Yu (Jc b a0 a1 a2 a3 a4 a5 a6 a7 a8) w:=by
 intro x hx
 simp only [Jc,Z3,Z2,or_false] at hx
 rcases hx with rfl | rfl | rfl | rfl | rfl | rfl | rfl | rfl | rfl
 all_goals exact Qk _ _ _ _ _ _ h
theorem Yu.app {K L:List (Nat × Nat × Value)} {w:World} (h:Yu K w) (g:Yu L w):Yu (K++L) w:=fun x hx=>(Z4.1 hx).elim (h x) (g x)
theorem Xa {R b:Nat} (h:R<b) (a0 a1 a2 a3 a4 a5 a6 a7 a8:Value):∀ x ∈ Jc b a0 a1 a2 a3 a4 a5 a6 a7 a8,R<x.1:=by
 intro x hx
 simp only [Jc,Z3,Z2,or_false] at hx
 rcases hx with rfl | rfl | rfl | rfl | rfl | rfl | rfl | rfl | rfl
 all_goals exact h
theorem Ua {R:Nat} {K L:List (Nat × Nat × Value)} (h:∀ x ∈ K,R<x.1) (g:∀ x ∈ L,R<x.1):∀ x ∈ K++L,R<x.1:=fun x hx=>(Z4.1 hx).elim (h x) (g x)
theorem C5 {W:World} {b:Nat} {t:TypeId} {x0 x1 x2 x3 x4 x5 x6 x7 x8:Value} (h:W.heap[b]?=some (.cells #[x0,x1,x2,x3,x4,x5,x6,x7,x8] t (0,0))):(W.frozen? ⟨b,0,none⟩=false∧W.frozen? ⟨b,1,none⟩=false∧W.frozen? ⟨b,2,none⟩=false∧W.frozen? ⟨b,3,none⟩=false∧W.frozen? ⟨b,4,none⟩=false∧W.frozen? ⟨b,5,none⟩=false∧W.frozen? ⟨b,6,none⟩=false∧W.frozen? ⟨b,7,none⟩=false∧W.frozen? ⟨b,8,none⟩=false)∧Qzf W b x0 x1 x2 x3 x4 x5 x6 x7 x8:=
 ⟨⟨fA 0 h,fA 1 h,fA 2 h,fA 3 h,fA 4 h,fA 5 h,fA 6 h,fA 7 h,fA 8 h⟩,Qk _ _ 0 _ _ _ h,Qk _ _ 1 _ _ _ h,Qk _ _ 2 _ _ _ h,Qk _ _ 3 _ _ _ h,Qk _ _ 4 _ _ _ h,Qk _ _ 5 _ _ _ h,Qk _ _ 6 _ _ _ h,Qk _ _ 7 _ _ _ h,Qk _ _ 8 _ _ _ h⟩
theorem Vm {X W:World} (h:Below X.drew.heap.size X.drew W):Below X X W:=(Qz _ _).drew.thn h
theorem Vf {X W:World} {o:Obj} (h:World.alloc X o=W):Below X X W:=by rw [← h];exact Zg _ _
theorem Je {X W:World} {o:Obj} (h:World.alloc X o=W):W.heap[X.heap.size]?=some o:=by rw [← h];exact Qw _ _
theorem Dw {X W:World} {o o':Obj} {g:Nat} (_h:World.alloc X o=W) (hg:X.heap[g]?=some o'):g<X.heap.size:=Z8 hg
theorem Gq {X W:World} {o:Obj} (h:World.alloc X o=W):W=X.heap.size+1:=by rw [← h];simp
theorem R2 {W:World} {b c:Nat} {o:Obj} (h:W.heap[b]?=some o) (e:c=b):W.heap[c]?=some o:=by rw [e];exact h
theorem Yh {w w':World} {b:Nat} {o:Obj} (hb:Below w w w') (h:w.heap[b]?=some o):w'.heap[b]?=some o:=kB hb h
theorem Wi (S:Nat→Prop) (v:Value) (l:List Int) (w:World) (hs:Xc S w v l) (hi:Ub l) (hk:Yp l 0 13=3):
  Calls prog 17 #[v,Qqd] w (Jv w (Gen.check 3)):=by
 have HP:=Qq (fun W (hb:Below w w W)=>Yr S v l 0 13 W (hs.below hb) hi Qqj Qqj)
 rw [hk] at HP
 obtain ⟨p,cap,rfl,_⟩:=hs.len
 clear hs hi hk
 go_enter func17,ntmps17
 go_upto_region 8 with fail
 generalize aA:(((((((w.alloc _).alloc _).alloc _).alloc _).alloc _).alloc _).alloc _).alloc _=W8
 have aX:=eqB aA (Zu (Zu (Zu (Zu (Zu (Zu (Zu (Zg w _) _) _) _) _) _) _) _)
 have bE:W8=w.heap.size+8:=by rw [← aA];simp
 have r8:=eqH (b:=w.heap.size) aA (Zb (Zb (Zb (Zb (Zb (Zb (Zb (Y6 rfl _) _) _) _) _) _) _) _)
 have A:=(((Yu.row (show W8.heap[w.heap.size+1]?=some (.cells #[.int .i64 3,.string ⟨#[97]⟩,Qqd,Qqe,Qqf,Qqf,Qqf,Qqd,Qqd] 46 (0,0)) from by rw [← aA];exact Zb (Zb (Zb (Zb (Zb (Zb (Y6 Qqk _) _) _) _) _) _) _)).app (Yu.row (show W8.heap[w.heap.size+1+1]?=some (.cells #[.int .i64 3,.string ⟨#[98]⟩,Qqd,Qqe,Qqf,Qqf,Qqf,Qqd,Qqd] 46 (0,0)) from by rw [← aA];exact Zb (Zb (Zb (Zb (Zb (Y6 Qqk _) _) _) _) _) _))).app (Yu.row (show W8.heap[w.heap.size+1+1+1+1+1+1]?=some (.cells #[Qqd,Qqe,.int .i64 1,Qqe,Qqf,Qqf,Qqf,Qqd,Qqd] 46 (0,0)) from by rw [← aA];exact Zb (Y6 Qqk _) _)))
 have hG:=(Ua (Ua (Xa (show w<w.heap.size+1 by omega) (.int .i64 3) (.string ⟨#[97]⟩) (.int .i64 0) (.string ⟨#[]⟩) (.slice none 0 0) (.slice none 0 0) (.slice none 0 0) (.int .i64 0) (.int .i64 0)) (Xa (show w<w.heap.size+1+1 by omega) (.int .i64 3) (.string ⟨#[98]⟩) (.int .i64 0) (.string ⟨#[]⟩) (.slice none 0 0) (.slice none 0 0) (.slice none 0 0) (.int .i64 0) (.int .i64 0))) (Xa (show w<w.heap.size+1+1+1+1+1+1 by omega) (.int .i64 0) (.string ⟨#[]⟩) (.int .i64 1) (.string ⟨#[]⟩) (.slice none 0 0) (.slice none 0 0) (.slice none 0 0) (.int .i64 0) (.int .i64 0)))
 have aG:=Qq aX;have HR:=Qq r8
 clear aA aX r8 bE
 go_upto_region 14 with (go_at_call 18;refine (HP.out _ aG.out).mono ?_;rintro e w' ⟨rfl,rfl⟩)
 refine let_mvar% ?Lq1:=fun w':World=>(Qza w' (w+1) (.int .i64 3) (.string ⟨#[97]⟩) Qqd Qqe Qqf Qqf Qqf Qqd Qqd ((Qza w' (w+1+1) (.int .i64 3) (.string ⟨#[98]⟩) Qqd Qqe Qqf Qqf Qqf Qqd Qqd ((Qzf w' (w+1+1+1+1+1+1) Qqd Qqe (.int .i64 1) Qqe Qqf Qqf Qqf Qqd Qqd:Prop)):Prop)):Prop);?_
 have HS:=Qq (fun w' (h:Yu (Jc (w+1) (.int .i64 3) (.string ⟨#[97]⟩) (.int .i64 0) (.string ⟨#[]⟩) (.slice none 0 0) (.slice none 0 0) (.slice none 0 0) (.int .i64 0) (.int .i64 0)++Jc (w+1+1) (.int .i64 3) (.string ⟨#[98]⟩) (.int .i64 0) (.string ⟨#[]⟩) (.slice none 0 0) (.slice none 0 0) (.slice none 0 0) (.int .i64 0) (.int .i64 0)++Jc (w+1+1+1+1+1+1) (.int .i64 0) (.string ⟨#[]⟩) (.int .i64 1) (.string ⟨#[]⟩) (.slice none 0 0) (.slice none 0 0) (.slice none 0 0) (.int .i64 0) (.int .i64 0)) w')=>(show ?Lq1 w' from Yu.spread h))
 have HG:=Qq hG
 have aH:=Qq (fun w' z0 z1 z2 z3 z4 z5 z6 z7 z8 (h:Yu _ w')=>HS.out _ (h.put9 HG.out z0 z1 z2 z3 z4 z5 z6 z7 z8))
 unfold put9 at aH
 have D:=aG
 clear hG
 obtain ⟨aC,aD,aE,bC⟩:=Qqp True.intro True.intro True.intro True.intro
 go_region_held3 ?Lq1 (first | with_reducible exact HS.out _ A | with_reducible exact HS.out _ A.drew | with_reducible exact HS.out _ (A.alloc _) | with_reducible exact HS.out _ (A.alloc _).drew | with_reducible exact HS.out _ ((A.alloc _).alloc _) | with_reducible exact HS.out _ ((A.alloc _).alloc _).drew | with_reducible exact HS.out _ (((A.alloc _).alloc _).alloc _) | with_reducible exact aH.out _ _ _ _ _ _ _ _ _ _ A)
  (first
   | (have hn:=T.out;clear hn;have hk:=aE.out;go_at_call 63;refine (Vg w [60,61] _ _ _ _ _ Qqk (by exact (Yk 3 [97] 0 [] Qqk Qqk)) (by exact T.out) (by exact Z8 HR.out)).mono ?_;rintro e W3 ⟨aM,aO,aN,aP,aI,aR,aU,aJ,aS,aV,aK,aT,aW,aL,aQ,rfl,bA,J⟩;clear aE hk;(try (have Y:=Vm J;clear J;have J:=Y;clear Y));have V:=A.later J;clear A;have A:=V;clear V;have N:=Qq (Yh J HR.out);clear HR;have HR:=N;clear N;have M:=Qq (D.out.thn J);clear D;have D:=M;clear M;(try (have U:=Qq (O.out.move (.of_below J) Qzx);clear O;have O:=U;clear U));(try (have U:=Qq (T.out.move (.of_below J) Qzx);clear T;have T:=U;clear U));have Z:=Qq bA;clear bA J;obtain ⟨⟨f0,f1,f2,f3,f4,f5,f6,f7,f8⟩,y0,y1,y2,y3,y4,y5,y6,y7,y8⟩:=C5 HR.out)
   | (have hn:=O.out;clear hn;have hk:=aD.out;go_at_call 63;refine (Vg w [43] _ _ _ _ _ Qqk (by exact (Yk 3 [98] 0 [] Qqk Qqk)) (by exact O.out) (by exact Z8 HR.out)).mono ?_;rintro e W2 ⟨bO,bS,bQ,bU,bG,bY,cE,bI,cA,cG,bK,cC,cI,bM,bW,rfl,aZ,I⟩;clear aD hk;(try (have Y:=Vm I;clear I;have I:=Y;clear Y));have V:=A.later I;clear A;have A:=V;clear V;have N:=Qq (Yh I HR.out);clear HR;have HR:=N;clear N;have M:=Qq (D.out.thn I);clear D;have D:=M;clear M;(try (have U:=Qq (O.out.move (.of_below I) Qzx);clear O;have O:=U;clear U));(try (have U:=Qq (Z.out.move (.of_below I) Qzx);clear Z;have Z:=U;clear U));have T:=Qq aZ;clear aZ I)
   | (have hk:=aC.out;go_at_call 63;refine (Vg w [42] _ _ _ _ _ Qqk (by exact (Yk 0 [] 1 [] Qqk Qqk)) (by exact (Yk 0 [] 1 [] Qqk Qqk)) (by exact Z8 HR.out)).mono ?_;rintro e W1 ⟨bN,bR,bP,bT,bF,bX,cD,bH,bZ,cF,bJ,cB,cH,bL,bV,rfl,aY,G⟩;clear aC hk;(try (have Y:=Vm G;clear G;have G:=Y;clear Y));have V:=A.later G;clear A;have A:=V;clear V;have N:=Qq (Yh G HR.out);clear HR;have HR:=N;clear N;have M:=Qq (D.out.thn G);clear D;have D:=M;clear M;(try (have U:=Qq (T.out.move (.of_below G) Qzx);clear T;have T:=U;clear U));(try (have U:=Qq (Z.out.move (.of_below G) Qzx);clear Z;have Z:=U;clear U));have O:=Qq aY;clear aY G)
   | fail)
 all_goals
  go_wp2_with fail
  show bodyPost _ _ _ _ _ (put9 _ w aM (.string aO) aN (.string aP) (.slice aI aR aU) (.slice aJ aS aV) (.slice aK aT aW) aL aQ)
  exact Q7 (v:=.agg (Qqi aM aO aN aP aI aR aU aJ aS aV aK aT aW aL aQ)) (by simp [results,results17,go_sem,Xe HR.out]) rfl (U8 Z.out D.out rfl)
theorem Av (S:Nat→Prop) (v:Value) (l:List Int) (w:World) (hs:Xc S w v l) (hi:Ub l) (hk:Yp l 0 13=4):
  Calls prog 17 #[v,Qqd] w (Jv w (Gen.check 4)):=by
 have HP:=Qq (fun W (hb:Below w w W)=>Yr S v l 0 13 W (hs.below hb) hi Qqj Qqj)
 rw [hk] at HP
 obtain ⟨p,cap,rfl,_⟩:=hs.len
 clear hs hi hk
 go_enter func17,ntmps17
 go_upto_region 8 with fail
 generalize J:(((((((w.alloc _).alloc _).alloc _).alloc _).alloc _).alloc _).alloc _).alloc _=W8
 have aU:=eqB J (Zu (Zu (Zu (Zu (Zu (Zu (Zu (Zg w _) _) _) _) _) _) _) _)
 have aZ:W8=w.heap.size+8:=by rw [← J];simp
 have r8:=eqH (b:=w.heap.size) J (Zb (Zb (Zb (Zb (Zb (Zb (Zb (Y6 rfl _) _) _) _) _) _) _) _)
 have A:=((Yu.row (show W8.heap[w.heap.size+1+1+1+1]?=some (.cells zQ 46 (0,0)) from by rw [← J];exact Zb (Zb (Zb (Y6 Qqk _) _) _) _)).app (Yu.row (show W8.heap[w.heap.size+1+1+1]?=some (.cells #[.int .i64 3,.string ⟨#[99]⟩,Qqd,Qqe,Qqf,Qqf,Qqf,Qqd,Qqd] 46 (0,0)) from by rw [← J];exact Zb (Zb (Zb (Zb (Y6 Qqk _) _) _) _) _)))
 have hG:=(Ua (Xa (show w<w.heap.size+1+1+1+1 by omega) (.int .i64 3) (.string ⟨#[100]⟩) (.int .i64 0) (.string ⟨#[]⟩) (.slice none 0 0) (.slice none 0 0) (.slice none 0 0) (.int .i64 0) (.int .i64 0)) (Xa (show w<w.heap.size+1+1+1 by omega) (.int .i64 3) (.string ⟨#[99]⟩) (.int .i64 0) (.string ⟨#[]⟩) (.slice none 0 0) (.slice none 0 0) (.slice none 0 0) (.int .i64 0) (.int .i64 0)))
 have aC:=Qq aU;have Z:=Qq r8
 clear J aU r8 aZ
 go_upto_region 16 with (go_at_call 18;refine (HP.out _ aC.out).mono ?_;rintro e w' ⟨rfl,rfl⟩)
 refine let_mvar% ?Lq1:=fun w':World=>(Qza w' (w+1+1+1+1) (.int .i64 3) (.string ⟨#[100]⟩) Qqd Qqe Qqf Qqf Qqf Qqd Qqd ((Qzf w' (w+1+1+1) (.int .i64 3) (.string ⟨#[99]⟩) Qqd Qqe Qqf Qqf Qqf Qqd Qqd:Prop)):Prop);?_
 have HS:=Qq (fun w' (h:Yu (Jc (w+1+1+1+1) (.int .i64 3) (.string ⟨#[100]⟩) (.int .i64 0) (.string ⟨#[]⟩) (.slice none 0 0) (.slice none 0 0) (.slice none 0 0) (.int .i64 0) (.int .i64 0)++Jc (w+1+1+1) (.int .i64 3) (.string ⟨#[99]⟩) (.int .i64 0) (.string ⟨#[]⟩) (.slice none 0 0) (.slice none 0 0) (.slice none 0 0) (.int .i64 0) (.int .i64 0)) w')=>(show ?Lq1 w' from Yu.spread h))
 have HG:=Qq hG
 have aD:=Qq (fun w' z0 z1 z2 z3 z4 z5 z6 z7 z8 (h:Yu _ w')=>HS.out _ (h.put9 HG.out z0 z1 z2 z3 z4 z5 z6 z7 z8))
 unfold put9 at aD
 have I:=aC
 clear hG
 obtain ⟨U,V,aY⟩:=Qqo True.intro True.intro True.intro
 go_region_held3 ?Lq1 (first | with_reducible exact HS.out _ A | with_reducible exact HS.out _ A.drew | with_reducible exact HS.out _ (A.alloc _) | with_reducible exact HS.out _ (A.alloc _).drew | with_reducible exact HS.out _ ((A.alloc _).alloc _) | with_reducible exact HS.out _ ((A.alloc _).alloc _).drew | with_reducible exact HS.out _ (((A.alloc _).alloc _).alloc _) | with_reducible exact aD.out _ _ _ _ _ _ _ _ _ _ A)
  (first
   | (have hn:=O.out;clear hn;have hk:=V.out;go_at_call 63;refine (Vg w [111,114] _ _ _ _ _ Qqk (by exact (Yk 3 [100] 0 [] Qqk Qqk)) (by exact O.out) (by exact Z8 Z.out)).mono ?_;rintro e W2 ⟨aI,aK,aJ,aL,aE,aN,aQ,aF,aO,aR,aG,aP,aS,aH,aM,rfl,aW,G⟩;clear V hk;(try (have Y:=Vm G;clear G;have G:=Y;clear Y));have T:=A.later G;clear A;have A:=T;clear T;have N:=Qq (Yh G Z.out);clear Z;have Z:=N;clear N;have M:=Qq (I.out.thn G);clear I;have I:=M;clear M;(try (have h0:=Qq (O.out.move (.of_below G) Qzx);clear O;have O:=h0;clear h0));have aA:=Qq aW;clear aW G;obtain ⟨⟨f0,f1,f2,f3,f4,f5,f6,f7,f8⟩,y0,y1,y2,y3,y4,y5,y6,y7,y8⟩:=C5 Z.out)
   | (have hk:=U.out;go_at_call 63;refine (Vg w [33,61] _ _ _ _ _ Qqk (by exact (Yk 3 [99] 0 [] Qqk Qqk)) (by exact (Yk 1 [] 0 [97,98] Qqk Qqk)) (by exact Z8 Z.out)).mono ?_;rintro e W1 ⟨bE,bG,bF,bH,bA,bJ,bM,bB,bK,bN,bC,bL,bO,bD,bI,rfl,aV,D⟩;clear U hk;(try (have Y:=Vm D;clear D;have D:=Y;clear Y));have T:=A.later D;clear A;have A:=T;clear T;have N:=Qq (Yh D Z.out);clear Z;have Z:=N;clear N;have M:=Qq (I.out.thn D);clear I;have I:=M;clear M;(try (have h0:=Qq (aA.out.move (.of_below D) Qzx);clear aA;have aA:=h0;clear h0));have O:=Qq aV;clear aV D)
   | fail)
 all_goals
  go_wp2_with fail
  show bodyPost _ _ _ _ _ (put9 _ w aI (.string aK) aJ (.string aL) (.slice aE aN aQ) (.slice aF aO aR) (.slice aG aP aS) aH aM)
  exact Q7 (v:=.agg (Qqi aI aK aJ aL aE aN aQ aF aO aR aG aP aS aH aM)) (by simp [results,results17,go_sem,Xe Z.out]) rfl (U8 aA.out I.out rfl)
theorem Tq (S:Nat→Prop) (v:Value) (l:List Int) (w:World) (hs:Xc S w v l) (hi:Ub l) (hk:Yp l 0 13=10):
  Calls prog 17 #[v,Qqd] w (Jv w (Gen.check 10)):=by
 have HP:=Qq (fun W (hb:Below w w W)=>Yr S v l 0 13 W (hs.below hb) hi Qqj Qqj)
 rw [hk] at HP
 obtain ⟨p,cap,rfl,_⟩:=hs.len
 clear hs hi hk
 go_enter func17,ntmps17
 go_upto_region 8 with fail
 generalize J:(((((((w.alloc _).alloc _).alloc _).alloc _).alloc _).alloc _).alloc _).alloc _=W8
 have aU:=eqB J (Zu (Zu (Zu (Zu (Zu (Zu (Zu (Zg w _) _) _) _) _) _) _) _)
 have aZ:W8=w.heap.size+8:=by rw [← J];simp
 have r8:=eqH (b:=w.heap.size) J (Zb (Zb (Zb (Zb (Zb (Zb (Zb (Y6 rfl _) _) _) _) _) _) _) _)
 have A:=(((Yu.row (show W8.heap[w.heap.size+1+1+1+1]?=some (.cells zQ 46 (0,0)) from by rw [← J];exact Zb (Zb (Zb (Y6 Qqk _) _) _) _)).app (Yu.row (show W8.heap[w.heap.size+1]?=some (.cells #[.int .i64 3,.string ⟨#[97]⟩,Qqd,Qqe,Qqf,Qqf,Qqf,Qqd,Qqd] 46 (0,0)) from by rw [← J];exact Zb (Zb (Zb (Zb (Zb (Zb (Y6 Qqk _) _) _) _) _) _) _))).app (Yu.row (show W8.heap[w.heap.size+1+1+1]?=some (.cells #[.int .i64 3,.string ⟨#[99]⟩,Qqd,Qqe,Qqf,Qqf,Qqf,Qqd,Qqd] 46 (0,0)) from by rw [← J];exact Zb (Zb (Zb (Zb (Y6 Qqk _) _) _) _) _)))
 have hG:=(Ua (Ua (Xa (show w<w.heap.size+1+1+1+1 by omega) (.int .i64 3) (.string ⟨#[100]⟩) (.int .i64 0) (.string ⟨#[]⟩) (.slice none 0 0) (.slice none 0 0) (.slice none 0 0) (.int .i64 0) (.int .i64 0)) (Xa (show w<w.heap.size+1 by omega) (.int .i64 3) (.string ⟨#[97]⟩) (.int .i64 0) (.string ⟨#[]⟩) (.slice none 0 0) (.slice none 0 0) (.slice none 0 0) (.int .i64 0) (.int .i64 0))) (Xa (show w<w.heap.size+1+1+1 by omega) (.int .i64 3) (.string ⟨#[99]⟩) (.int .i64 0) (.string ⟨#[]⟩) (.slice none 0 0) (.slice none 0 0) (.slice none 0 0) (.int .i64 0) (.int .i64 0)))
 have aC:=Qq aU;have Z:=Qq r8
 clear J aU r8 aZ
 go_upto_region 30 with (go_at_call 18;refine (HP.out _ aC.out).mono ?_;rintro e w' ⟨rfl,rfl⟩)
 refine let_mvar% ?Lq1:=fun w':World=>(Qza w' (w+1+1+1+1) (.int .i64 3) (.string ⟨#[100]⟩) Qqd Qqe Qqf Qqf Qqf Qqd Qqd ((Qza w' (w+1) (.int .i64 3) (.string ⟨#[97]⟩) Qqd Qqe Qqf Qqf Qqf Qqd Qqd ((Qzf w' (w+1+1+1) (.int .i64 3) (.string ⟨#[99]⟩) Qqd Qqe Qqf Qqf Qqf Qqd Qqd:Prop)):Prop)):Prop);?_
 have HS:=Qq (fun w' (h:Yu (Jc (w+1+1+1+1) (.int .i64 3) (.string ⟨#[100]⟩) (.int .i64 0) (.string ⟨#[]⟩) (.slice none 0 0) (.slice none 0 0) (.slice none 0 0) (.int .i64 0) (.int .i64 0)++Jc (w+1) (.int .i64 3) (.string ⟨#[97]⟩) (.int .i64 0) (.string ⟨#[]⟩) (.slice none 0 0) (.slice none 0 0) (.slice none 0 0) (.int .i64 0) (.int .i64 0)++Jc (w+1+1+1) (.int .i64 3) (.string ⟨#[99]⟩) (.int .i64 0) (.string ⟨#[]⟩) (.slice none 0 0) (.slice none 0 0) (.slice none 0 0) (.int .i64 0) (.int .i64 0)) w')=>(show ?Lq1 w' from Yu.spread h))
 have HG:=Qq hG
 have aD:=Qq (fun w' z0 z1 z2 z3 z4 z5 z6 z7 z8 (h:Yu _ w')=>HS.out _ (h.put9 HG.out z0 z1 z2 z3 z4 z5 z6 z7 z8))
 unfold put9 at aD
 have I:=aC
 clear hG
 obtain ⟨U,V,aY⟩:=Qqo True.intro True.intro True.intro
 go_region_held3 ?Lq1 (first | with_reducible exact HS.out _ A | with_reducible exact HS.out _ A.drew | with_reducible exact HS.out _ (A.alloc _) | with_reducible exact HS.out _ (A.alloc _).drew | with_reducible exact HS.out _ ((A.alloc _).alloc _) | with_reducible exact HS.out _ ((A.alloc _).alloc _).drew | with_reducible exact HS.out _ (((A.alloc _).alloc _).alloc _) | with_reducible exact aD.out _ _ _ _ _ _ _ _ _ _ A)
  (first
   | (have hn:=O.out;clear hn;have hk:=V.out;go_at_call 63;refine (Vg w [97,110,100] _ _ _ _ _ Qqk (by exact (Yk 3 [100] 0 [] Qqk Qqk)) (by exact O.out) (by exact Z8 Z.out)).mono ?_;rintro e W2 ⟨aI,aK,aJ,aL,aE,aN,aQ,aF,aO,aR,aG,aP,aS,aH,aM,rfl,aW,G⟩;clear V hk;(try (have Y:=Vm G;clear G;have G:=Y;clear Y));have T:=A.later G;clear A;have A:=T;clear T;have N:=Qq (Yh G Z.out);clear Z;have Z:=N;clear N;have M:=Qq (I.out.thn G);clear I;have I:=M;clear M;(try (have h0:=Qq (O.out.move (.of_below G) Qzx);clear O;have O:=h0;clear h0));have aA:=Qq aW;clear aW G;obtain ⟨⟨f0,f1,f2,f3,f4,f5,f6,f7,f8⟩,y0,y1,y2,y3,y4,y5,y6,y7,y8⟩:=C5 Z.out)
   | (have hk:=U.out;go_at_call 63;refine (Vg w [43] _ _ _ _ _ Qqk (by exact (Yk 3 [97] 0 [] Qqk Qqk)) (by exact (Yk 3 [99] 0 [] Qqk Qqk)) (by exact Z8 Z.out)).mono ?_;rintro e W1 ⟨bE,bG,bF,bH,bA,bJ,bM,bB,bK,bN,bC,bL,bO,bD,bI,rfl,aV,D⟩;clear U hk;(try (have Y:=Vm D;clear D;have D:=Y;clear Y));have T:=A.later D;clear A;have A:=T;clear T;have N:=Qq (Yh D Z.out);clear Z;have Z:=N;clear N;have M:=Qq (I.out.thn D);clear I;have I:=M;clear M;(try (have h0:=Qq (aA.out.move (.of_below D) Qzx);clear aA;have aA:=h0;clear h0));have O:=Qq aV;clear aV D)
   | fail)
 all_goals
  go_wp2_with fail
  show bodyPost _ _ _ _ _ (put9 _ w aI (.string aK) aJ (.string aL) (.slice aE aN aQ) (.slice aF aO aR) (.slice aG aP aS) aH aM)
  exact Q7 (v:=.agg (Qqi aI aK aJ aL aE aN aQ aF aO aR aG aP aS aH aM)) (by simp [results,results17,go_sem,Xe Z.out]) rfl (U8 aA.out I.out rfl)
theorem Nh (S:Nat→Prop) (v:Value) (l:List Int) (w:World) (hs:Xc S w v l) (hi:Ub l) (hk:Yp l 0 13=0):
  Calls prog 17 #[v,Qqd] w (Jv w (Gen.check 0)):=by
 have HP:=Qq (fun W (hb:Below w w W)=>Yr S v l 0 13 W (hs.below hb) hi Qqj Qqj)
 rw [hk] at HP
 obtain ⟨p,cap,rfl,_⟩:=hs.len
 clear hs hi hk
 go_enter func17,ntmps17
 go_upto_region 8 with fail
 generalize A:(((((((w.alloc _).alloc _).alloc _).alloc _).alloc _).alloc _).alloc _).alloc _=N
 have J:=eqB A (Zu (Zu (Zu (Zu (Zu (Zu (Zu (Zg w _) _) _) _) _) _) _) _)
 have M:N=w.heap.size+8:=by rw [← A];simp
 have r8:=eqH (b:=w.heap.size) A (Zb (Zb (Zb (Zb (Zb (Zb (Zb (Y6 rfl _) _) _) _) _) _) _) _)
 have D:=eqH (b:=w.heap.size+1+1+1+1+1+1+1) A (Y6 Qqk _)
 have aE:w.heap.size<N.heap.size:=Qqj
 have aF:w.heap.size≠N.heap.size:=Qqj
 have aD:=Qq M
 clear M
 have I:=Qq J;have G:=Qq r8
 clear A J r8
 obtain ⟨O,T,U,V,Y,Z,aA,aB,aC⟩:=row9 D
 clear D
 go_upto_region 12 with (go_at_call 18;refine (HP.out _ I.out).mono ?_;rintro e w' ⟨rfl,rfl⟩)
 obtain ⟨y0,y1,y2,y3,y4,y5,y6,y7,y8⟩:=row9 G.out
 obtain ⟨f0,f1,f2,f3,f4,f5,f6,f7,f8⟩:=frz9 G.out
 go_wp2_with fail
 show bodyPost _ _ _ _ _ (put9 N w (.int .i64 2) Qqe (.int .i64 1) Qqe Qqf Qqf Qqf Qqd Qqd)
 exact Q7 (v:=.agg #[.int .i64 2,Qqe,.int .i64 1,Qqe,Qqf,Qqf,Qqf,Qqd,Qqd]) (by simp [results,results17,go_sem,Xe G.out]) rfl (U8 (Yk 2 [] 1 [] Qqk Qqk) I.out rfl)
theorem Nj (S:Nat→Prop) (v:Value) (l:List Int) (w:World) (hs:Xc S w v l) (hi:Ub l) (hk:Yp l 0 13=1):
  Calls prog 17 #[v,Qqd] w (Jv w (Gen.check 1)):=by
 have HP:=Qq (fun W (hb:Below w w W)=>Yr S v l 0 13 W (hs.below hb) hi Qqj Qqj)
 rw [hk] at HP
 obtain ⟨p,cap,rfl,_⟩:=hs.len
 clear hs hi hk
 go_enter func17,ntmps17
 go_upto_region 8 with fail
 generalize A:(((((((w.alloc _).alloc _).alloc _).alloc _).alloc _).alloc _).alloc _).alloc _=N
 have J:=eqB A (Zu (Zu (Zu (Zu (Zu (Zu (Zu (Zg w _) _) _) _) _) _) _) _)
 have M:N=w.heap.size+8:=by rw [← A];simp
 have r8:=eqH (b:=w.heap.size) A (Zb (Zb (Zb (Zb (Zb (Zb (Zb (Y6 rfl _) _) _) _) _) _) _) _)
 have D:=eqH (b:=w.heap.size+1+1+1+1+1+1+1) A (Y6 Qqk _)
 have aE:w.heap.size<N.heap.size:=Qqj
 have aF:w.heap.size≠N.heap.size:=Qqj
 have aD:=Qq M
 clear M
 have I:=Qq J;have G:=Qq r8
 clear A J r8
 obtain ⟨O,T,U,V,Y,Z,aA,aB,aC⟩:=row9 D
 clear D
 go_upto_region 12 with (go_at_call 18;refine (HP.out _ I.out).mono ?_;rintro e w' ⟨rfl,rfl⟩)
 obtain ⟨y0,y1,y2,y3,y4,y5,y6,y7,y8⟩:=row9 G.out
 obtain ⟨f0,f1,f2,f3,f4,f5,f6,f7,f8⟩:=frz9 G.out
 go_wp2_with fail
 show bodyPost _ _ _ _ _ (put9 N w (.int .i64 2) Qqe (.int .i64 1) Qqe Qqf Qqf Qqf Qqd Qqd)
 exact Q7 (v:=.agg #[.int .i64 2,Qqe,.int .i64 1,Qqe,Qqf,Qqf,Qqf,Qqd,Qqd]) (by simp [results,results17,go_sem,Xe G.out]) rfl (U8 (Yk 2 [] 1 [] Qqk Qqk) I.out rfl)
theorem N8 (S:Nat→Prop) (v:Value) (l:List Int) (w:World) (hs:Xc S w v l) (hi:Ub l) (hk:Yp l 0 13=2):
  Calls prog 17 #[v,Qqd] w (Jv w (Gen.check 2)):=by
 have HP:=Qq (fun W (hb:Below w w W)=>Yr S v l 0 13 W (hs.below hb) hi Qqj Qqj)
 rw [hk] at HP
 obtain ⟨p,cap,rfl,_⟩:=hs.len
 clear hs hi hk
 go_enter func17,ntmps17
 go_upto_region 8 with fail
 generalize A:(((((((w.alloc _).alloc _).alloc _).alloc _).alloc _).alloc _).alloc _).alloc _=N
 have J:=eqB A (Zu (Zu (Zu (Zu (Zu (Zu (Zu (Zg w _) _) _) _) _) _) _) _)
 have M:N=w.heap.size+8:=by rw [← A];simp
 have r8:=eqH (b:=w.heap.size) A (Zb (Zb (Zb (Zb (Zb (Zb (Zb (Y6 rfl _) _) _) _) _) _) _) _)
 have D:=eqH (b:=w.heap.size+1+1+1+1+1+1+1) A (Y6 Qqk _)
 have aE:w.heap.size<N.heap.size:=Qqj
 have aF:w.heap.size≠N.heap.size:=Qqj
 have aD:=Qq M
 clear M
 have I:=Qq J;have G:=Qq r8
 clear A J r8
 obtain ⟨O,T,U,V,Y,Z,aA,aB,aC⟩:=row9 D
 clear D
 go_upto_region 12 with (go_at_call 18;refine (HP.out _ I.out).mono ?_;rintro e w' ⟨rfl,rfl⟩)
 obtain ⟨y0,y1,y2,y3,y4,y5,y6,y7,y8⟩:=row9 G.out
 obtain ⟨f0,f1,f2,f3,f4,f5,f6,f7,f8⟩:=frz9 G.out
 go_wp2_with fail
 show bodyPost _ _ _ _ _ (put9 N w (.int .i64 2) Qqe (.int .i64 1) Qqe Qqf Qqf Qqf Qqd Qqd)
 exact Q7 (v:=.agg #[.int .i64 2,Qqe,.int .i64 1,Qqe,Qqf,Qqf,Qqf,Qqd,Qqd]) (by simp [results,results17,go_sem,Xe G.out]) rfl (U8 (Yk 2 [] 1 [] Qqk Qqk) I.out rfl)
theorem Wp (S:Nat→Prop) (v:Value) (l:List Int) (w:World) (hs:Xc S w v l) (hi:Ub l) (hk:Yp l 0 13=9):
  Calls prog 17 #[v,Qqd] w (Jv w (Gen.check 9)):=by
 have HP:=Qq (fun W (hb:Below w w W)=>Yr S v l 0 13 W (hs.below hb) hi Qqj Qqj)
 rw [hk] at HP
 obtain ⟨p,cap,rfl,_⟩:=hs.len
 clear hs hi hk
 go_enter func17,ntmps17
 go_upto_region 8 with fail
 generalize D:(((((((w.alloc _).alloc _).alloc _).alloc _).alloc _).alloc _).alloc _).alloc _=A
 have aP:=eqB D (Zu (Zu (Zu (Zu (Zu (Zu (Zu (Zg w _) _) _) _) _) _) _) _)
 have aS:A=w.heap.size+8:=by rw [← D];simp
 have r8:=eqH (b:=w.heap.size) D (Zb (Zb (Zb (Zb (Zb (Zb (Zb (Y6 rfl _) _) _) _) _) _) _) _)
 have hc:=eqH (b:=w.heap.size+1+1+1) D (Zb (Zb (Zb (Zb (Y6 Qqk _) _) _) _) _)
 have bK:w.heap.size<A.heap.size:=Qqj
 have bL:w.heap.size≠A.heap.size:=Qqj
 have bJ:=Qq aS
 clear aS
 have U:=Qq aP;have V:=Qq r8
 clear D aP r8
 obtain ⟨c0,c1,c2,c3,c4,c5,c6,c7,c8⟩:=row9 hc
 clear hc
 go_upto_region 28 with (go_at_call 18;refine (HP.out _ U.out).mono ?_;rintro e w' ⟨rfl,rfl⟩)
 go_wp2_with (first
   | (go_at_call 63;refine (Vg w [61,61] _ _ (Qqi aX aZ aY bA aT bC bF aU bD bG aV bE bH aW bB) [.int .i64 1,Qqe,Qqd,Qqe,Qqf,Qqf,Qqf,Qqd,Qqd] _ Qqk G.out (Yk 1 [] 0 [] Qqk Qqk) (by have h:=(O.out:Below A A _).size;omega)).mono ?_;rintro e w2 ⟨aC,aE,aD,aF,Y,aH,aK,Z,aI,aL,aA,aJ,aM,aB,aG,rfl,aR,M⟩;have I:Below A A w2:=(O.out).thn M;have J:=kE I (show w<A.heap.size by omega) V.out;obtain ⟨y0,y1,y2,y3,y4,y5,y6,y7,y8⟩:=row9 J;obtain ⟨f0,f1,f2,f3,f4,f5,f6,f7,f8⟩:=frz9 J;clear J;obtain ⟨bI,N,T⟩:=Qqo (G.out.move (.of_below M) Qzx) aR I;clear aR M I)
   | (go_at_call 63;refine (Vg w [43,43] _ _ [.int .i64 3,.string ⟨#[99]⟩,Qqd,Qqe,Qqf,Qqf,Qqf,Qqd,Qqd] [.int .i64 3,.string ⟨#[99]⟩,Qqd,Qqe,Qqf,Qqf,Qqf,Qqd,Qqd] _ Qqk (Yk 3 [99] 0 [] Qqk Qqk) (Yk 3 [99] 0 [] Qqk Qqk) (by have h:=((Qz _ _):Below A A _).size;omega)).mono ?_;rintro e w1 ⟨aX,aZ,aY,bA,aT,bC,bF,aU,bD,bG,aV,bE,bH,aW,bB,rfl,aQ,aO⟩;have aN:Below A A w1:=((Qz _ _)).thn aO;have G:=Qq aQ;have O:=Qq aN;clear aQ aO aN))
 have hR:=kE T.out Qqj V.out
 show bodyPost _ _ _ _ _ (put9 w2 w aC (.string aE) aD (.string aF) (.slice Y aH aK) (.slice Z aI aL) (.slice aA aJ aM) aB aG)
 exact Q7 (v:=.agg (Qqi aC aE aD aF Y aH aK Z aI aL aA aJ aM aB aG)) (by simp [results,results17,go_sem,Xe hR]) rfl (U8 N.out (U.out.thn T.out) rfl)
theorem Sv (S:Nat→Prop) (v:Value) (l:List Int) (w:World) (hs:Xc S w v l) (hi:Ub l) (hk:Yp l 0 13=12):
  Calls prog 17 #[v,Qqd] w (Jv w (Gen.check 12)):=by
 have HP:=Qq (fun W (hb:Below w w W)=>Yr S v l 0 13 W (hs.below hb) hi Qqj Qqj)
 rw [hk] at HP
 obtain ⟨p,cap,rfl,_⟩:=hs.len
 clear hs hi hk
 go_enter func17,ntmps17
 go_upto_region 8 with fail
 generalize J:(((((((w.alloc _).alloc _).alloc _).alloc _).alloc _).alloc _).alloc _).alloc _=N
 have Z:=eqB J (Zu (Zu (Zu (Zu (Zu (Zu (Zu (Zg w _) _) _) _) _) _) _) _)
 have aA:N=w.heap.size+8:=by rw [← J];simp
 have r8:=eqH (b:=w.heap.size) J (Zb (Zb (Zb (Zb (Zb (Zb (Zb (Y6 rfl _) _) _) _) _) _) _) _)
 have Y:w.heap.size<N.heap.size:=Qqj
 have aD:w.heap.size≠N.heap.size:=Qqj
 have aC:=Qq aA
 clear aA
 have O:=Qq Z;have aB:=Qq r8
 clear J Z r8
 go_upto_region 33 with (go_at_call 18;refine (HP.out _ O.out).mono ?_;rintro e w' ⟨rfl,rfl⟩)
 have D:=Qq True.intro
 go_wp2_with (have hk:=D.out;clear D hk;generalize G:World.alloc N _=W9;have I:=eqB G (Zg _ _);have M:=eqH (b:=N.heap.size) G (Qw _ _);have A:=kE I Y aB.out;obtain ⟨y0,y1,y2,y3,y4,y5,y6,y7,y8⟩:=row9 A;obtain ⟨f0,f1,f2,f3,f4,f5,f6,f7,f8⟩:=frz9 A;obtain ⟨U,T,V⟩:=Qqo M I A;clear G M I A)
 show bodyPost _ _ _ _ _ (put9 W9 w (.int .i64 4) (.string ⟨#[97,110,121]⟩) Qqd Qqe Qqf Qqf (Qqb N 0 1 1) Qqd Qqd)
 exact Q7 (v:=.agg #[.int .i64 4,.string ⟨#[97,110,121]⟩,Qqd,Qqe,Qqf,Qqf,Qqb N 0 1 1,Qqd,Qqd]) (by simp [results,results17,go_sem,Xe V.out]) rfl (U8 (Xz (nm:=[97,110,121]) (s:=[]) Qqk Qqk (Sl.nil _ _ _) (Sl.nil _ _ _) (Y4 (xs:=[Ex.mk 9 [] 0 [] [] [] [] 0 0]) U.out Y (Cs.one (r:=Xp) (x:=Ex.mk 9 [] 0 [] [] [] [] 0 0) (c:=[.int .i64 9,.string ⟨#[]⟩,.int .i64 0,.string ⟨#[]⟩,.slice none 0 0,.slice none 0 0,.slice none 0 0,.int .i64 0,.int .i64 0]) (show Yv _ _ _ _ from Yk 9 [] 0 [] Qqk Qqk)) rfl rfl Qqk)) (O.out.thn T.out) rfl)
theorem Sh (S:Nat→Prop) (v:Value) (l:List Int) (w:World) (hs:Xc S w v l) (hi:Ub l) (hk:Yp l 0 13=11):
  Calls prog 17 #[v,Qqd] w (Jv w (Gen.check 11)):=by
 have HP:=Qq (fun W (hb:Below w w W)=>Yr S v l 0 13 W (hs.below hb) hi Qqj Qqj)
 rw [hk] at HP
 obtain ⟨p,cap,rfl,_⟩:=hs.len
 clear hs hi hk
 go_enter func17,ntmps17
 go_upto_region 8 with fail
 generalize G:(((((((w.alloc _).alloc _).alloc _).alloc _).alloc _).alloc _).alloc _).alloc _=W8
 have bE:=eqB G (Zu (Zu (Zu (Zu (Zu (Zu (Zu (Zg w _) _) _) _) _) _) _) _)
 have bG:W8=w.heap.size+8:=by rw [← G];simp
 have r8:=eqH (b:=w.heap.size) G (Zb (Zb (Zb (Zb (Zb (Zb (Zb (Y6 rfl _) _) _) _) _) _) _) _)
 have ha:=eqH (b:=w.heap.size+1) G (Zb (Zb (Zb (Zb (Zb (Zb (Y6 Qqk _) _) _) _) _) _) _)
 have hb:=eqH (b:=w.heap.size+1+1) G (Zb (Zb (Zb (Zb (Zb (Y6 Qqk _) _) _) _) _) _)
 have aA:=eqH (b:=w.heap.size+1+1+1+1+1+1) G (Zb (Y6 Qqk _) _)
 have Y:w.heap.size<W8.heap.size:=Qqj
 have bN:w.heap.size≠W8.heap.size:=Qqj
 have bL:=Qq bG
 clear bG
 have aN:=Qq bE;have bJ:=Qq r8
 clear G bE r8
 obtain ⟨a0,a1,a2,a3,a4,a5,a6,a7,a8⟩:=row9 ha
 clear ha
 obtain ⟨b0,b1,b2,b3,b4,b5,b6,b7,b8⟩:=row9 hb
 clear hb
 obtain ⟨aB,aC,aD,aE,aF,aG,aH,aI,aJ⟩:=row9 aA
 clear aA
 go_upto_region 32 with (go_at_call 18;refine (HP.out _ aN.out).mono ?_;rintro e w' ⟨rfl,rfl⟩)
 have N:=Qq True.intro;have O:=Qq True.intro
 go_wp2_with (first
   | (have hk:=N.out;clear N hk;generalize T:World.alloc W8 _=W9;have A:=eqB T (Zg _ _);have Z:=eqH (b:=W8.heap.size) T (Qw _ _);have a0:=kC A a0;have a1:=kC A a1;have a2:=kC A a2;have a3:=kC A a3;have a4:=kC A a4;have a5:=kC A a5;have a6:=kC A a6;have a7:=kC A a7;have a8:=kC A a8;have aB:=kC A aB;have aC:=kC A aC;have aD:=kC A aD;have aE:=kC A aE;have aF:=kC A aF;have aG:=kC A aG;have aH:=kC A aH;have aI:=kC A aI;have aJ:=kC A aJ;have aO:=Qq Z;have J:=Qq A;clear T Z A)
   | (have hk:=O.out;clear O hk;generalize I:World.alloc W9 _=bM;have U:=eqB I (Zg _ _);have M:=eqH (b:=W9.heap.size) I (Qw _ _);have aK:=Qq M;have D:=Qq U;clear I M U)
   | (go_at_call 63;refine (Vg w [33,61] _ _ [.int .i64 9,Qqe,Qqd,Qqe,Qqf,Qqf,Qqb W8 0 2 2,Qqd,Qqd] [.int .i64 9,Qqe,Qqd,Qqe,Qqf,Qqf,Qqb W9 0 2 2,Qqd,Qqd] _ Qqk (Xz (nm:=[]) (s:=[]) Qqk Qqk (Sl.nil _ _ _) (Sl.nil _ _ _) (Y4 (xs:=[Gen.a,Gen.b]) (kB D.out aO.out) Y ((Cs.one (r:=Xp) (Yk 3 [97] 0 [] Qqk Qqk)).app (Cs.one (r:=Xp) (Yk 3 [98] 0 [] Qqk Qqk))) rfl rfl Qqk)) (Xz (nm:=[]) (s:=[]) Qqk Qqk (Sl.nil _ _ _) (Sl.nil _ _ _) (Y4 (xs:=[Gen.one,Gen.a]) aK.out (Qa Y J.out.size) ((Cs.one (r:=Xp) (Yk 0 [] 1 [] Qqk Qqk)).app (Cs.one (r:=Xp) (Yk 3 [97] 0 [] Qqk Qqk))) rfl rfl Qqk)) (Qa Y (J.out.thn D.out).size)).mono ?_;rintro e w1 ⟨aT,aV,aU,aW,aP,aY,bB,aQ,aZ,bC,aR,bA,bD,aS,aX,rfl,bF,aL⟩;have V:=kE (J.out.thn (D.out.thn aL)) Y bJ.out;obtain ⟨y0,y1,y2,y3,y4,y5,y6,y7,y8⟩:=row9 V;obtain ⟨f0,f1,f2,f3,f4,f5,f6,f7,f8⟩:=frz9 V;have bI:=Qq V;clear V;have H1:=Qq bF;have bH:=Qq aL;clear bF aL))
 show bodyPost _ _ _ _ _ (put9 w1 w aT (.string aV) aU (.string aW) (.slice aP aY bB) (.slice aQ aZ bC) (.slice aR bA bD) aS aX)
 exact Q7 (v:=.agg (Qqi aT aV aU aW aP aY bB aQ aZ bC aR bA bD aS aX)) (by simp [results,results17,go_sem,Xe bI.out]) rfl (U8 H1.out (aN.out.thn (J.out.thn (D.out.thn bH.out))) rfl)
end Go.Proofs.YtdpibdpbgokmoaaGreatDoor
