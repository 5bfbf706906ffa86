import Derived.Test.YtdpibdpbgokmoaaGreatDoorA39
set_option maxRecDepth 100000
set_option maxHeartbeats 400000000
namespace Go.Proofs.YtdpibdpbgokmoaaGreatDoor
open Go.RowKit Go.Shelf Go.Lib Tryz
theorem put5_row {W:World} {R:Nat} {a b c d e x0 x1 x2 x3 x4:Value} {l:List Value} {t:TypeId} (h:W.heap[R]?=some (.cells (x0::x1::x2::x3::x4::l).toArray t (0,0))):(Zl W R a b c d e).heap[R]?=some (.cells (a::b::c::d::e::l).toArray t (0,0)):=by
 have h0:(W.setCell ⟨R,0,none⟩ a).heap[R]?=some (.cells (a::x1::x2::x3::x4::l).toArray t (0,0)):=by rw [Qi _ _ _ _ _ _ h];simp
 have h1:((W.setCell ⟨R,0,none⟩ a).setCell ⟨R,1,none⟩ b).heap[R]?=some (.cells (a::b::x2::x3::x4::l).toArray t (0,0)):=by rw [Qi _ _ _ _ _ _ h0];simp
 have h2:(((W.setCell ⟨R,0,none⟩ a).setCell ⟨R,1,none⟩ b).setCell ⟨R,2,none⟩ c).heap[R]?=some (.cells (a::b::c::x3::x4::l).toArray t (0,0)):=by rw [Qi _ _ _ _ _ _ h1];simp
 have h3:((((W.setCell ⟨R,0,none⟩ a).setCell ⟨R,1,none⟩ b).setCell ⟨R,2,none⟩ c).setCell ⟨R,3,none⟩ d).heap[R]?=some (.cells (a::b::c::d::x4::l).toArray t (0,0)):=by rw [Qi _ _ _ _ _ _ h2];simp
 unfold Zl
 rw [Qi _ _ _ _ _ _ h3];simp
theorem O6 (x:Bs) (ns:List Bs) (ks:List Val):X6 (Vf (x::ns) ks) x=0:=by
 unfold X6 X8
 simp [Vf,Val.names,List.findIdx?_cons]
theorem Qzt {S:Nat->Prop} {B:Nat} {w W:World} {g n cap:Nat} {p y:Val} {ks:List Val} {css:List (List Value)} (hO:Own Zc 36 S B w (.slice (some ⟨g,0,none⟩) n cap) (p::ks) css) (hn:n=ks.length+1) {cy:List Value} {a b c d e:Value} (hcy:cy=[a,b,c,d,e])
  (hg:∀ l x0 x1 x2 x3 x4,w.heap[g]?=some (.cells (x0::x1::x2::x3::x4::l).toArray 36 (0,0))->W.heap[g]?=some (.cells (a::b::c::d::e::l).toArray 36 (0,0)))
  (hoth:∀ k,k≠g->k<w.heap.size->W.heap[k]?=w.heap[k]?) (hy:Z9 (λb=>S b/\b≠g) W cy y):∃ css',Own Zc 36 S B W (.slice (some ⟨g,0,none⟩) n cap) (y::ks) css':=by
 subst hcy;subst hn
 rcases hO.row.2 with ⟨h,_⟩ | ⟨g',aF,M,hv,aB,aD,aE,Z,N,D⟩
 ·cases h
 simp only [Qr,Zv,Addr.mk.injEq] at hv
 obtain ⟨⟨rfl,-,-⟩,-,rfl⟩:=hv
 obtain ⟨G,A,rfl⟩:∃ G A,css=G::A:=by
  cases css with
  | nil=>have:=hO.cs.len;simp at this
  | cons G A=>exact ⟨G,A,rfl⟩
 have Y:G.length=5:=hO.cs.all G Ib
 have I:Zc.k=5:=rfl
 rw [I] at N D
 rw [List.flatten_cons] at D
 match G,Y with
 | [x0,x1,x2,x3,x4],_=>
  obtain ⟨l,O⟩:∃ l,M=(x0::x1::x2::x3::x4::l).toArray:=by
   obtain ⟨J⟩:=M
   have U:J=J.take ((p::ks).length*5)++J.drop ((p::ks).length*5):=(List.take_append_drop _ _).symm
   have h2:J.take ((p::ks).length*5)=[x0,x1,x2,x3,x4]++A.flatten:=D
   rw [h2] at U
   exact ⟨A.flatten++J.drop ((p::ks).length*5),congrArg List.toArray (U.trans Ib)⟩
  subst O
  have aC:=hg l x0 x1 x2 x3 x4 aD
  have T:(a::b::c::d::e::l).take ((y::ks).length*5)=[a,b,c,d,e]++A.flatten:=by
   have V:(x0::x1::x2::x3::x4::l).take ((p::ks).length*5)=[x0,x1,x2,x3,x4]++A.flatten:=D
   rw [show (p::ks).length*5=ks.length*5+5 by simp;omega] at V
   rw [show (y::ks).length*5=ks.length*5+5 by simp;omega]
   simp only [List.take_succ_cons,List.cons_append,List.nil_append,List.cons.injEq,true_and] at V |-
   exact V
  refine ⟨[a,b,c,d,e]::A,⟨⟨?_,.inr ⟨g,cap,_,rfl,aB,aC,aE,Z,?_,?_⟩⟩,?_⟩⟩
  ·have:=hO.row.1
   simp only [List.flatten_cons,Ql,List.length_cons,List.length_nil] at this |-
   exact this
  ·rw [I];simpa using N
  ·rw [I,List.flatten_cons];exact T
  have aA:Cs Zc (But S (.slice (some ⟨g,0,none⟩) (ks.length+1) cap)) w A ks:=⟨by have:=hO.cs.len;simpa using this,λj c x hc hx=>hO.cs.R (j+1) c x hc hx⟩
  have U:Cs Zc (But S (.slice (some ⟨g,0,none⟩) (ks.length+1) cap)) W [[a,b,c,d,e]] [y]:=Cs.one (Z9.move hy (.refl _ _) (λb _ hb=>⟨hb.1,λe=>hb.2 (by simpa [Value.ownBlock] using e)⟩))
  exact U.app (aA.move (λb hs hb=>hoth b (λe=>hs.2 (by rw [e];rfl)) hb) Ij)
theorem own_head {S:Nat->Prop} {B:Nat} {w:World} {q:Option Addr} {n cap:Nat} {p:Val} {ks:List Val} {css:List (List Value)} (hO:Own Zc 36 S B w (.slice q n cap) (p::ks) css):
  ∃ g x0 x1 x2 x3 x4 l,q=some ⟨g,0,none⟩/\B<=g/\w.heap[g]?=some (.cells (x0::x1::x2::x3::x4::l).toArray 36 (0,0)):=by
 rcases hO.row.2 with ⟨h,h0⟩ | ⟨g',N,D,hv,G,I,M,O,A,T⟩
 ·simp at h0
 simp only [Qr] at hv
 obtain ⟨rfl,-,rfl⟩:=hv
 have J:Zc.k=5:=rfl
 rw [J] at A
 obtain ⟨cl⟩:=D
 have hl:5<=cl.length:=by simp at A M;omega
 match cl,hl with
 | x0::x1::x2::x3::x4::l,_=>exact ⟨g',x0,x1,x2,x3,x4,l,rfl,G,I⟩
theorem Qjl (S S1:Nat->Prop) (x:Bs) (ns:List Bs) (p:Val) (ks:List Val) (y:Val) (cv cy:List Value) (w:World) (hv:Z9 S w cv (Vf (x::ns) (p::ks))) (hy0:Z9 S1 w cy y):
  Calls prog 137 #[cv,sv x,cy] w λe w'=>∃ cs',e=.returned (.tuple #[.agg cs'.toArray,.bool true])/\Z9 (λb=>w<=b) w' cs' (Vf (x::ns) (y::ks))/\Below w w w':=by
 have hy:Z9 (λb=>b<w) w cy y:=hy0.move (.refl _ _) (λb hb _=>hb)
 have hF:∀ W,Below w w W->Calls prog 124 #[cv,sv x] W λe w'=>e=.returned (.tuple #[Ic,.bool true])/\Below W W w':=λW hb=>by
  have h:=Nc S _ cv x W (Z9.move hv (.f hb) Ij)
  have e2:Xb (Vf (x::ns) (p::ks)) 0=true:=by simp [Xb,Vf,Val.kind,Val.kids]
  rw [O6,e2] at h
  exact h
 have HF:=Qq hF
 have HC:=Qq (λW (hb:Below w w W)=>cloneOwn 4 0 [] (x::ns) (p::ks) S cv W (Z9.move hv (.f hb) Ij))
 have cM:=Qq (λW (hb:Below w w W)=>Bw y _ cy W (Z9.move hy (.f hb) Ij))
 obtain ⟨p3,k3,p4,k4,O,_⟩:=Z9.cells hv
 simp only [Il] at O
 subst O
 obtain ⟨q3,l3,q4,l4,O,_⟩:=Z9.cells hy
 simp only [Il] at O
 subst O
 have cV:ks.length+1<=1000000:=by
  obtain ⟨nv,kv,_,_,_,hk⟩:=Uq.1 hv
  obtain ⟨_,_,_,h⟩:=hk.len
  simpa using h
 clear hv hy hy0 hF
 unfold sv at HF |-
 go_enter func137,ntmps137
 go_upto_region 1 with fail
 generalize aB:((w.alloc _).alloc _).alloc _=W1
 have bK:=Iq aB (Xt _ _ _ _)
 have h3:W1.heap[w.heap.size]?=some (.cells #[.int .i64 4,Ic,Ig,.slice p3 (ns.length+1) k3,.slice p4 (ks.length+1) k4] 36 (0,0)):=by rw [<- aB];exact (Zg _ _).block _ (by simp;omega) |>.trans (Q5 _ _ _)
 have h5:W1.heap[w.heap.size+1]?=some (.cells (Is y q3 l3 q4 l4) 36 (0,0)):=by rw [<- aB];exact (Zg _ _).block _ Ib |>.trans (Q6 _ _ _)
 have h6:=Ik (b:=w.heap.size+2) aB (Zi _ _ _ _)
 obtain ⟨aS,H3,H5,H6⟩:=It bK h3 h5 h6
 have V:=λj=>Qk _ _ j _ _ _ h3
 obtain ⟨r0,r1,r2,r3,r4⟩:=Iw V
 simp only [Qf,Qg,Qh] at r0 r1 r2 r3 r4
 clear V
 clear aB bK h3 h5 h6
 go_upto_region 4 with (go_at_call 124;refine (HF.o _ aS.o).mono ?_;rintro e w1 ⟨rfl,hb⟩;have T:=Qq hb;clear hb)
 have aW:=kB T.o H3.o
 have bF:=Qq aW;have Z:=Qq (aS.o.n T.o)
 clear r0 r1 r2 r3 r4
 have V:=λj=>Qk _ _ j _ _ _ aW
 obtain ⟨r0,r1,r2,r3,r4⟩:=Iw V
 simp only [Qf,Qg,Qh] at r0 r1 r2 r3 r4
 clear V
 clear aW
 go_upto_region 5 with (go_at_call 125;refine (HC.o _ Z.o).mono ?_;rintro e w2 ⟨np,D,kp,A,css,rfl,hO,hb,hN⟩;obtain ⟨HO,HN,aL⟩:=Im hO hN hb;have N:=kB hb bF.o;have bG:=Qq N;have q0:=Qk _ _ 0 _ _ _ N;have q1:=Qk _ _ 1 _ _ _ N;have q2:=Qk _ _ 2 _ _ _ N;have bT:=Qk _ _ 3 _ _ _ N;have bV:=Qk _ _ 4 _ _ _ N;obtain ⟨f0,f1,f2,f3,f4⟩:=Ip N;simp only [Qf,Qg,Qh] at q0 q1 q2 bT bV;clear hO hN hb N)
 obtain ⟨g,x0,x1,x2,x3,x4,l,rfl,dC,bL⟩:=own_head HO.o
 have dA:w.heap.size+3<=w1.heap.size:=by have:=T.o.size;have:=Z8 H6.o;omega
 have aC:(Zl w2 w (.int .i64 4) Ic Ig (.slice np (x::ns).length D) (Io g 0 (p::ks).length A)).heap[w.heap.size]?=some (.cells #[.int .i64 4,Ic,Ig,.slice np (ns.length+1) D,Io g 0 (ks.length+1) A] 36 (0,0)):=Yd bG.o
 have J:∀ k,k≠w.heap.size->(Zl w2 w (.int .i64 4) Ic Ig (.slice np (x::ns).length D) (Io g 0 (p::ks).length A)).heap[k]?=w2.heap[k]?:=λk hk=>Zf hk
 have aE:Below w w (Zl w2 w (.int .i64 4) Ic Ig (.slice np (x::ns).length D) (Io g 0 (p::ks).length A)):=Zd (Z.o.n aL.o) (Q9 _)
 unfold Zl at aC J aE
 try simp only [List.length_cons]
 simp only [List.length_cons] at aC J aE
 generalize World.setCell _ _ _=w3 at aC J aE |-
 have dD:w.heap.size+3<=g:=Ia
 have bM:=Z8 H5.o
 have bN:=Z8 H6.o
 have dJ:=T.o.size
 have aY:=(J g Ia).trans bL
 have cP:=Qq (HO.o.move (w':=w3) (Q9 _) (λb hb h=>J b (by
  rcases h with h | h
  ·have h':w1.heap.size<=b:=h
   omega
  have:=(HO.o.row.lt b h).1
  omega)))
 have cO:=Qq (HN.o.frame (w':=w3) (λb hS dH=>J b (by have:=hS.1;omega)))
 have aV:=Qq ((J (w+1) Ia).trans (kE aL.o Ia ((T.o.block _ bM).trans H5.o)))
 have bE:=Qq ((J (w+2) Ia).trans (kE aL.o Ia ((T.o.block _ bN).trans H6.o)))
 obtain ⟨aU,aT,cN⟩:=Im aC aE aY
 have cU:=Z8 aY
 clear aC aE J bL aY HO HN bF bG aL T Z aS H3 H5 H6 f0 f1 f2 f3 f4 q0 q1 q2 bT bV r0 r1 r2 r3 r4
 have bO:=Z8 aU.o
 have bP:=Z8 aV.o
 have cW:=Z8 bE.o
 have HD:=Qq (show ∀ W,(λW=>W.heap[w.heap.size]?=some (.cells #[.int .i64 4,Ic,Ig,.slice np (ns.length+1) D,Io g 0 (ks.length+1) A] 36 (0,0))/\W.heap[w.heap.size+1]?=some (.cells (Is y q3 l3 q4 l4) 36 (0,0))/\Below w w W) W->Ii W w 4 (Io g 0 (ks.length+1) A)/\BG W (w+1) y.kind y.n y.s (.slice q3 y.names.length l3) (.slice q4 y.kids.length l4) from λW h=>
  ⟨(Qk _ _ 4 _ _ _ h.1).trans rfl,(Qk _ _ 0 _ _ _ h.2.1).trans rfl,(Qk _ _ 1 _ _ _ h.2.1).trans rfl,(Qk _ _ 2 _ _ _ h.2.1).trans rfl,(Qk _ _ 3 _ _ _ h.2.1).trans rfl,(Qk _ _ 4 _ _ _ h.2.1).trans rfl⟩)
 have bC:=Qq (show ∀ W,Below w3 w3 W->(λW=>W.heap[w.heap.size]?=some (.cells #[.int .i64 4,Ic,Ig,.slice np (ns.length+1) D,Io g 0 (ks.length+1) A] 36 (0,0))/\W.heap[w.heap.size+1]?=some (.cells (Is y q3 l3 q4 l4) 36 (0,0))/\Below w w W) W from λW hb=>⟨kE hb bO aU.o,kE hb bP aV.o,aT.o.n hb⟩)
 have dE:(0:Int)<=0:=Int.le_refl 0
 have dF:(0:Int)<((ks.length+1:Nat):Int):=Ia
 have dG:(0:Int)<(ks.length:Int)+1:=Ia
 refine wp_region_held_drew (S:=λW=>W.heap[w.heap.size]?=some (.cells #[.int .i64 4,Ic,Ig,.slice np (ns.length+1) D,Io g 0 (ks.length+1) A] 36 (0,0))/\W.heap[w.heap.size+1]?=some (.cells (Is y q3 l3 q4 l4) 36 (0,0))/\Below w w W) Ir (bC.o _ (Qz _ _).drew) (λG=>?_)
 refine In (v:=?_) 0 (λw0 I=>?_) ?_;rotate_left
 ·(obtain ⟨b4,y0,y1,y2,y3,y4⟩:=HD.o w0 I;go_simp;try with_reducible rfl)
 refine In (v:=?_) 1 (λw0 I=>?_) ?_;rotate_left
 ·(obtain ⟨b4,y0,y1,y2,y3,y4⟩:=HD.o w0 I;go_simp;try with_reducible rfl)
 refine In (v:=?_) 2 (λw0 I=>?_) ?_;rotate_left
 ·(obtain ⟨b4,y0,y1,y2,y3,y4⟩:=HD.o w0 I;go_simp;try with_reducible rfl)
 refine In (v:=?_) 3 (λw0 I=>?_) ?_;rotate_left
 ·(obtain ⟨b4,y0,y1,y2,y3,y4⟩:=HD.o w0 I;go_simp;try with_reducible rfl)
 have aM:Hid (Below w3 w3 w3.drew):=Qq (Qz _ _).drew
 generalize w3.drew=wd at G aM |-
 refine AE 4 (λK hK=>?_) Qo
 go_simp
 refine (cM.o _ (aT.o.n aM.o)).mono ?_
 rintro e w5 ⟨cs',rfl,hv,hb⟩
 obtain ⟨u3,m3,u4,m4,O,_⟩:=Z9.cells hv
 simp only [Il] at O
 subst O
 have cS:=Qq hv
 have M:=Qq (aM.o.n hb)
 have dI:=aM.o.size
 clear hv hb
 try dsimp only
 refine hK.o _ _ (bC.o _ M.o) (λG=>?_)
 clear hK K
 refine In (v:=?_) 5 (λw0 I=>?_) ?_;rotate_left
 ·(obtain ⟨b4,y0,y1,y2,y3,y4⟩:=HD.o w0 I;go_simp;try with_reducible rfl)
 have aP:=kE M.o cU cN.o
 have dB:=Qq aP
 have fz:=λj=>Qn _ _ j _ _ aP
 obtain ⟨f0,f1,f2,f3,f4⟩:=Iw fz
 have V:=λj=>Qk _ _ j _ _ _ aP
 obtain ⟨r0,r1,r2,r3,r4⟩:=Iw V
 simp only [Qf,Qg,Qh] at r0 r1 r2 r3 r4
 clear V fz
 clear aP
 refine AE 6 (λK hK=>?_) Qo
 go_simp
 have U:∀ k,k≠g->(Zl w5 g y.kind y.n y.s (.slice u3 y.names.length m3) (.slice u4 y.kids.length m4)).heap[k]?=w5.heap[k]?:=λk hk=>Zf hk
 obtain ⟨cZ,aO⟩:=Qzt (W:=Zl w5 g y.kind y.n y.s (.slice u3 y.names.length m3) (.slice u4 y.kids.length m4)) (cP.o.below M.o) Ib rfl (λl x0 x1 x2 x3 x4 h=>put5_row h) (λk hk _=>U k hk) (Z9.move cS.o (λb h _=>U b (by have h':wd.heap.size<=b:=h;omega)) (λb _ h=>⟨by have h':wd.heap.size<=b:=h;show w1<=b;omega,by have h':wd.heap.size<=b:=h;omega⟩))
 have aN:=(cO.o.below M.o).frame (w':=Zl w5 g y.kind y.n y.s (.slice u3 y.names.length m3) (.slice u4 y.kids.length m4)) (λb hS _=>U b (λe=>hS.2 (by rw [e];rfl)))
 have aD:=(U w Ia).trans (kE M.o bO aU.o)
 have aX:=(U (w+1) Ia).trans (kE M.o bP aV.o)
 have Y:=(U (w+2) Ia).trans (kE M.o cW bE.o)
 have aF:Below w w (AI w5 g y u3 m3 u4 m4):=Zd (aT.o.n M.o) Ia
 unfold Zl at aO aN aD aX Y aF
 refine hK.o _ _ ⟨aD,aX,aF⟩ (λG=>?_)
 refine wpAnyH_done Ir ?_ _
 clear hK K G f0 f1 f2 f3 f4 r0 r1 r2 r3 r4 U aX
 generalize World.setCell _ _ _=w9 at aO aN aD Y aF |-
 obtain ⟨cQ,bD,cR,cL⟩:=It aO aN Y aF
 have V:=λj=>Qk _ _ j _ _ _ aD
 obtain ⟨z0,z1,z2,z3,z4⟩:=Iw V
 simp only [Qf,Qg,Qh] at z0 z1 z2 z3 z4
 clear V
 have fz:=λj=>Qn _ _ j _ _ Y
 obtain ⟨f0,f1,f2,f3,f4⟩:=Iw fz
 have V:=λj=>Qk _ _ j _ _ _ Y
 obtain ⟨r0,r1,r2,r3,r4⟩:=Iw V
 simp only [Qf,Qg,Qh] at r0 r1 r2 r3 r4
 clear V fz
 clear aD Y aO aN aF
 go_wp2_with fail
 show bodyPost _ _ _ _ _ (Zl w9 (w+1+1) (.int .i64 4) Ic Ig (.slice np (ns.length+1) D) (Io g 0 (ks.length+1) A))
 refine Q7 (v:=.tuple #[.agg #[.int .i64 4,Ic,Ig,.slice np (ns.length+1) D,Io g 0 (ks.length+1) A],.bool true]) (by simp [results,results137,go_sem,Ze cR.o]) rfl ⟨_,rfl,?_,Zd cL.o Ia⟩
 refine Yb (k:=4) (n:=0) (s:=[]) (names:=x::ns) (kids:=y::ks) Ib ((bD.o.frame (λb hS _=>Zf (by have:=hS.1;omega))).mono (λb _ hS=>by have:=hS.1;show w<=b;omega)) ?_
 have cX:=cQ.o.sl (S':=λb=>w1<=b) (by have h:=(bD.o.len);obtain ⟨_,_,h1,h2⟩:=h;simp only [List.length_cons] at *;exact cV) (λb h=>h) (λb _ h=>h)
 exact (cX.frame (λb hS _=>Zf (by have h':w1.heap.size<=b:=hS;omega))).mono (λb _ hS=>by have h':w1.heap.size<=b:=hS;show w<=b;omega)
theorem Qqx (g:Nat) (lb:Array Value) (eg:∀ args w,(callFunc g args).run prog w=.ok (.enter g args) w) (S0:Nat->Prop) (o:Bs) (f:Int->Int->Int) (u v:Val) (w:World) (ho:IsAr o f) (hku:u.kind=0) (hkv:v.kind≠0)
  (h0:∀ W,Below w w W->w<W.heap.size->Calls prog g (#[.int .i64 0]++lb) W (Xw S0 W (some u))) (h1:∀ W,Below w w W->w<W.heap.size->Calls prog g (#[.int .i64 1]++lb) W (Xw S0 W (some v))):
  Calls prog 140 #[o,.func (.func g) #[] lb,.int .i64 2] w (Ep w):=by
 obtain ⟨H0,H1,HM⟩:=Im h0 h1 Xf
 have aG:=Qq (λ(n:Int) (s:ByteArray) (p3 p4:Option Addr) (n3 k3 n4 k4:Nat) W=>of_eq 0 n s p3 p4 n3 k3 n4 k4 W)
 have I:=Qq (λ(s:ByteArray) (p3 p4:Option Addr) (n3 k3 n4 k4:Nat) W=>of_ne 0 v.kind v.n hkv s p3 p4 n3 k3 n4 k4 W)
 have aS:=λ(n:Int) (s:ByteArray) (p3 p4:Option Addr) (n3 k3 n4 k4:Nat) W=>fld1 (.int .i64 0) (.int .i64 n) (.string s) (.slice p3 n3 k3) (.slice p4 n4 k4) W
 have aF:=Qq hku
 clear h0 h1 hku hkv
 rcases ho with ⟨rfl,rfl⟩ | ⟨rfl,rfl⟩ | ⟨rfl,rfl⟩
 all_goals
  go_enter func140,ntmps140
  go_wp2_with (go_at_call 134;refine (HM.o _).mono ?_;rintro e w' ⟨rfl,rfl⟩)
  refine (H0.o _ (Zg _ _) Ib).mono ?_
  rintro e w1 ⟨cu,rfl,hu,U⟩
  obtain ⟨a3,aO,a4,aP,M,_⟩:=Z9.cells hu
  simp only [Il] at M
  subst M
  obtain ⟨T,aA,HU⟩:=Im ((U.block w Ib).trans (Qw w _)) ((Zg w _).n U) hu
  clear hu U
  go_wp2_with fail
  refine (H1.o _ aA.o (Z8 T.o)).mono ?_
  rintro e w2 ⟨cv,rfl,hv,O⟩
  obtain ⟨b3,aQ,b4,aR,M,_⟩:=Z9.cells hv
  simp only [Il] at M
  subst M
  have aB:=Qq ((O.block w (Z8 T.o)).trans T.o);have aD:=Qq (aA.o.n O)
  have aH:=Qq (Z9.move HU.o (.f O) Ij);have aI:=Qq hv
  clear hv O
  go_upto_region 10 with fail
  generalize N:(w2.alloc _).alloc _=w4
  have J:=Iq N (Zs _ _ _)
  have V:=Ik (b:=w2.heap.size) N (Q5 _ _ _)
  have Y:=Ik (b:=w2.heap.size+1) N (Q6 _ _ _)
  have aL:=Qq ((J.block w (Z8 aB.o)).trans aB.o);have aE:=Qq (aD.o.n J)
  have aM:=Qq (Z9.move aH.o (.f J) Ij);have aN:=Qq (Z9.move aI.o (.f J) Ij)
  have x0:=AB V;have y0:=AB Y;have x1:=AA V;have y1:=AA Y;have x2:=AM V;have y2:=AM Y;have x3:=AH V;have y3:=AH Y;have x4:=Iz V;have y4:=Iz Y
  clear J V Y N
  rw [aF.o] at x0
  go_wp2_with fail
  go_region_dies
  all_goals
   rename_i K A
   refine (aG.o _ _ _ _ _ _ _ _ _).mono ?_
   rintro e w5 ⟨rfl,hb⟩
   have G:=Qq (aE.o.n ((Qz _ _).drew.n hb))
   have Z:∀ {b j:Nat} {u:Value},w4.cell? ⟨b,j,none⟩=some u->w5.cell? ⟨b,j,none⟩=some u:=λhc=>kC ((Qz _ _).drew.n hb) hc
   replace y0:=Z y0;replace y1:=Z y1;replace y2:=Z y2;replace y3:=Z y3;replace y4:=Z y4
   clear hb Z x0 x1 x2 x3 x4
   dsimp only
   refine A _ _ ?_
   clear A K
   first
   | (
     refine wpAny_ready (rs:=[3,5]) (by decide +kernel) Ib ?_
     refine AllReady.cons rfl (λK A=>?_) ?_
     ·go_simp
      refine A _ _ ?_
      clear A K
      refine wpAny_ready (rs:=[5]) (by decide +kernel) Ib ?_
      refine AllReady.cons rfl (λK A=>?_) ?_
      ·go_simp
       refine (I.o _ _ _ _ _ _ _ _).mono ?_
       rintro e w6 ⟨rfl,D⟩
       exact ⟨rfl,rfl,G.o.n D⟩
      exact AllReady.nil
     refine AllReady.cons rfl (λK A=>?_) ?_
     ·go_simp
      refine (I.o _ _ _ _ _ _ _ _).mono ?_
      rintro e w6 ⟨rfl,D⟩
      exact ⟨rfl,rfl,G.o.n D⟩
     exact AllReady.nil)
   | (
     refine wpAny_ready (rs:=[3,4]) (by decide +kernel) Ib ?_
     refine AllReady.cons rfl (λK A=>?_) ?_
     ·go_simp
      refine A _ _ ?_
      clear A K
      refine wpAny_ready (rs:=[4]) (by decide +kernel) Ib ?_
      refine AllReady.cons rfl (λK A=>?_) ?_
      ·go_simp
       refine A _ _ ?_
       clear A K
       refine wpAny_ready (rs:=[5]) (by decide +kernel) Ib ?_
       refine AllReady.cons rfl (λK A=>?_) ?_
       ·go_simp
        refine (I.o _ _ _ _ _ _ _ _).mono ?_
        rintro e w6 ⟨rfl,D⟩
        exact ⟨rfl,rfl,G.o.n D⟩
       exact AllReady.nil
      exact AllReady.nil
     refine AllReady.cons rfl (λK A=>?_) ?_
     ·go_simp
      refine A _ _ ?_
      clear A K
      refine wpAny_ready (rs:=[3,5]) (by decide +kernel) Ib ?_
      refine AllReady.cons rfl (λK A=>?_) ?_
      ·go_simp
       refine A _ _ ?_
       clear A K
       refine wpAny_ready (rs:=[5]) (by decide +kernel) Ib ?_
       refine AllReady.cons rfl (λK A=>?_) ?_
       ·go_simp
        refine (I.o _ _ _ _ _ _ _ _).mono ?_
        rintro e w6 ⟨rfl,D⟩
        exact ⟨rfl,rfl,G.o.n D⟩
       exact AllReady.nil
      refine AllReady.cons rfl (λK A=>?_) ?_
      ·go_simp
       refine (I.o _ _ _ _ _ _ _ _).mono ?_
       rintro e w6 ⟨rfl,D⟩
       exact ⟨rfl,rfl,G.o.n D⟩
      exact AllReady.nil
     exact AllReady.nil)
theorem fld2 (a b c d e:Value) (w:World):(Instr.field 36 (.agg #[a,b,c,d,e]) 2).run prog w=.ok c w:=by
 simp [Instr.field,go_sem,part,asAgg]
theorem Lx {S:Nat->Prop} {w:World} {cs:List Value} {v:Val} (h:Z9 S w cs v):v.s.length<=1000000:=by
 cases v with
 | mk k n s ns ks=>obtain ⟨_,_,_,h1,_⟩:=Uq.1 h;exact h1
theorem op_cat (g:Nat) (lb:Array Value) (eg:∀ args w,(callFunc g args).run prog w=.ok (.enter g args) w) (S0:Nat->Prop) (u v:Val) (w:World) (hS0:∀ b,S0 b->b≠w.heap.size) (hku:u.kind=1) (hkv:v.kind=1)
  (h0:∀ W,Below w w W->w<W.heap.size->Calls prog g (#[.int .i64 0]++lb) W (Xw S0 W (some u))) (h1:∀ W,Below w w W->w<W.heap.size->Calls prog g (#[.int .i64 1]++lb) W (Xw S0 W (some v))):
  Calls prog 140 #[.string ⟨#[43,43]⟩,.func (.func g) #[] lb,.int .i64 2] w (Xw S0 w (if u.s.length+v.s.length<=4096 then some (.mk 1 0 (u.s++v.s) [] []) else none)):=by
 obtain ⟨H0,H1,HM,aR,bQ⟩:=AO h0 h1 Xf Ga hS0
 have aS:=Qq (λ(n:Int) (s:ByteArray) (p3 p4:Option Addr) (n3 k3 n4 k4:Nat) W=>of_eq 1 n s p3 p4 n3 k3 n4 k4 W)
 have bR:=λ(n:Int) (s:ByteArray) (p3 p4:Option Addr) (n3 k3 n4 k4:Nat) W=>fld2 (.int .i64 1) (.int .i64 n) (.string s) (.slice p3 n3 k3) (.slice p4 n4 k4) W
 have aP:=Qq hku;have aQ:=Qq hkv
 obtain ⟨R,aC⟩:=eX (Xw S0 w (if u.s.length+v.s.length<=4096 then some (.mk 1 0 (u.s++v.s) [] []) else none))
 rw [aC]
 have aX:=Qq aC
 clear h0 h1 hS0 hku hkv aC
 go_enter func140,ntmps140
 go_wp2_with (go_at_call 134;refine (HM.o _).mono ?_;rintro e w' ⟨rfl,rfl⟩)
 refine (H0.o _ (Zg _ _) Ib).mono ?_
 rintro e w1 ⟨cu,rfl,hu,aD⟩
 obtain ⟨a3,bE,a4,bF,J,_⟩:=Z9.cells hu
 simp only [Il] at J
 subst J
 obtain ⟨aA,aG,HU⟩:=Im ((aD.block w Ib).trans (Qw w _)) ((Zg w _).n aD) hu
 clear hu aD
 go_wp2_with fail
 refine (H1.o _ aG.o (Z8 aA.o)).mono ?_
 rintro e w2 ⟨cv,rfl,hv,T⟩
 obtain ⟨b3,bG,b4,bH,J,_⟩:=Z9.cells hv
 simp only [Il] at J
 subst J
 have aB:=Qq ((T.block w (Z8 aA.o)).trans aA.o);have aN:=Qq (aG.o.n T)
 have aY:=Qq (Z9.move HU.o (.f T) Ij);have bA:=Qq hv
 clear hv T
 have bU:w.heap.size<w2.heap.size:=Z8 aB.o
 go_upto_region 10 with fail
 generalize O:(w2.alloc _).alloc _=w4
 have I:=Iq O (Zs _ _ _)
 have g1:=Ik (b:=w2.heap.size) O (Q5 _ _ _)
 have g2:=Ik (b:=w2.heap.size+1) O (Q6 _ _ _)
 have aV:=Qq ((I.block w (Z8 aB.o)).trans aB.o);have aO:=Qq (aN.o.n I)
 have aZ:=Qq (Z9.move aY.o (.f I) Ij);have bB:=Qq (Z9.move bA.o (.f I) Ij)
 have x0:=AB g1;have N:=AB g2;have x1:=AA g1;have y1:=AA g2;have x2:=AM g1;have y2:=AM g2;have x3:=AH g1;have y3:=AH g2;have x4:=Iz g1;have V:=Iz g2
 clear I g1 g2 O
 rw [aP.o] at x0
 rw [aQ.o] at N
 have bS:=Lx aZ.o;have bT:=Lx bB.o
 have Z:((⟨u.s.toArray⟩:ByteArray)++⟨v.s.toArray⟩)=⟨(u.s++v.s).toArray⟩:=ByteArray.ext Ib
 have aL:∀ w,(Op.stringOp .add ⟨u.s.toArray⟩ ⟨v.s.toArray⟩).run prog w=.ok (.string ⟨(u.s++v.s).toArray⟩) w:=λw=>by
  rw [run_string_add_sum w _ _ (by show u.s.toArray.size+v.s.toArray.size<=_;simp;omega),Z]
 have M:(u.s++v.s).length=u.s.length+v.s.length:=Ql
 obtain ⟨t,ht⟩:=eX (u.s++v.s)
 rw [ht] at aL M
 have D:=aX.o
 rw [ht,<- M] at D
 have Y:=Qq D
 clear Z ht M D
 refine let_mvar% ?Lq1:=λw':World=>(AQ w' w2 (.int .i64 1) u.n u.s (.slice a3 u.names.length bE) (.slice a4 u.kids.length bF) ((AQ w' (w2+1) (.int .i64 1) v.n v.s (.slice b3 v.names.length bG) (.slice b4 v.kids.length bH) ((∃ N y1 y2 y3 V,w'.heap[w.heap.size]?=some (.cells #[N,y1,y2,y3,V] 36 (0,0)))/\Below w w w'):Prop)):Prop);?_
 have HX:∀ w' U,?Lq1 w'->Below w' w' U->?Lq1 U:=λw' U h h2=>by
  have A:∀ {b j:Nat} {u:Value},w'.cell? ⟨b,j,none⟩=some u->U.cell? ⟨b,j,none⟩=some u:=λhc=>kC h2 hc
  obtain ⟨N,y1,y2,y3,V,hy⟩:=h.2.2.2.2.2.2.2.2.2.2.1
  exact ⟨A h.1,A h.2.1,A h.2.2.1,A h.2.2.2.1,A h.2.2.2.2.1,A h.2.2.2.2.2.1,A h.2.2.2.2.2.2.1,A h.2.2.2.2.2.2.2.1,A h.2.2.2.2.2.2.2.2.1,A h.2.2.2.2.2.2.2.2.2.1,⟨N,y1,y2,y3,V,kB h2 hy⟩,h.2.2.2.2.2.2.2.2.2.2.2.n h2⟩
 have HY:∀ w',?Lq1 w'->(∃ N y1 y2 y3 V,w'.heap[w.heap.size]?=some (.cells #[N,y1,y2,y3,V] 36 (0,0))):=λw' h=>h.2.2.2.2.2.2.2.2.2.2.1
 have aI:∀ w',?Lq1 w'->Below w w w':=λw' h=>h.2.2.2.2.2.2.2.2.2.2.2
 have HP:∀ w' a b c d e,?Lq1 w'->?Lq1 (Zl w' w a b c d e):=λw' a b c d e h=>by
  have A:∀ {g j:Nat} {u:Value},g≠w->w'.cell? ⟨g,j,none⟩=some u->(Zl w' w a b c d e).cell? ⟨g,j,none⟩=some u:=λbL hc=>(World.cell?_of_block (Zf bL)).trans hc
  obtain ⟨N,y1,y2,y3,V,hy⟩:=h.2.2.2.2.2.2.2.2.2.2.1
  exact ⟨A Ia h.1,A Ia h.2.1,A Ia h.2.2.1,A Ia h.2.2.2.1,A Ia h.2.2.2.2.1,A Ia h.2.2.2.2.2.1,A Ia h.2.2.2.2.2.2.1,A Ia h.2.2.2.2.2.2.2.1,A Ia h.2.2.2.2.2.2.2.2.1,A Ia h.2.2.2.2.2.2.2.2.2.1,⟨a,b,c,d,e,Yd hy⟩,Zd (h.2.2.2.2.2.2.2.2.2.2.2) (Q9 _)⟩
 unfold Zl at HP
 have aK:=Qq (show ?Lq1 w4.drew from ⟨x0,x1,x2,x3,x4,N,y1,y2,y3,V,⟨_,_,_,_,_,aV.o⟩,aO.o.drew⟩)
 obtain ⟨bC,bD,aJ,aU⟩:=It HX HY aI HP
 clear HX HY aI HP x0 x1 x2 x3 x4 N y1 y2 y3 V
 go_wp2_with fail
 go_region_held3 ?Lq1 (first | with_reducible exact aK.o | with_reducible exact G | with_reducible exact aU.o _ _ _ _ _ _ G)
  (first
   | (go_at_call 131;refine (aS.o _ _ _ _ _ _ _ _ _).mono ?_;rintro e w5 ⟨rfl,hb⟩;have G:=bC.o _ _ AN hb;clear hb))
 all_goals
  have aH:=Qq (aJ.o _ G)
  obtain ⟨z0,z1,z2,z3,z4,r2⟩:=bD.o _ G;obtain ⟨f0,f1,f2,f3,f4⟩:=Ip r2;obtain ⟨r0,r1,bV,r3,r4⟩:=If r2;have aW:=Qq r2;clear r2
  clear G
  by_cases hl:t.length<=4096
  ·have D:=Y.o
   rw [if_pos hl] at D
   have bK:(t.length:Int)<=4096:=Ia
   go_wp2_with (go_at_call 134;refine (HM.o _).mono ?_;rintro e w' ⟨rfl,rfl⟩)
   show bodyPost _ _ _ _ _ (Zl w5 w (.int .i64 1) Ic t Ie Ie)
   refine Q7 (v:=.agg #[.int .i64 1,Ic,t,Ie,Ie]) (by simp [results,results140,go_sem,Ze aW.o]) rfl (by rw [<- D];exact ⟨_,rfl,Yb Ia (Sl.nil _ _ _) (Sl.nil _ _ _),Zd aH.o (Q9 _)⟩)
  have D:=Y.o
  rw [if_neg hl] at D
  have bK:¬ ((t.length:Int)<=4096):=Ia
  go_wp2_with (go_at_call 134;refine (aR.o _).mono ?_;rintro e w' ⟨rfl,rfl⟩)
  exact ⟨rfl,by rw [<- D];exact ⟨rfl,aH.o⟩⟩
theorem encI_app {a b:Int} {x y:Bs} (h:Jc a++x=Jc b++y):a=b/\x=y:=by
 unfold Jc at h
 rw [List.append_assoc,List.append_assoc] at h
 have:=Wr (zz a) (zz a) (zz b) x y (Q9 _) (List.append_cancel_left h)
 exact ⟨zz_inj this.1,this.2⟩
theorem T4:∀ {a b:List Int},a.length=b.length->kb a=kb b->a=b
 | [],[],_,_=>rfl
 | x::a,y::b,hl,h=>by
  have h2:Jc x++kb a=Jc y++kb b:=h
  obtain ⟨rfl,h3⟩:=encI_app h2
  rw [T4 (by simpa using hl) h3]
def M6 (ks:List Bs) (k j:Nat):Prop:=k<j/\∃ a,ks[k]?=some a/\ks[j]?=some a
theorem D7 {ks:List Bs} {i a:Nat} (hi:i<ks.length) (h:Yn (ks.take i) (ks.getD i [])=some a):M6 ks a i/\∀ c,c<a->¬ M6 ks c i:=by
 unfold Yn at h
 rw [List.findIdx?_eq_some_iff_getElem] at h
 obtain ⟨ha,he,hb⟩:=h
 rw [Qm] at ha
 have hk:ks[i]?=some (ks.getD i []):=by rw [Qs,Qx hi];rfl
 refine ⟨⟨Ia,ks.getD i [],?_,hk⟩,λc hc=>?_⟩
 ·have:(ks.take i)[a]=ks.getD i []:=by simpa using he
  rw [<- this,List.getElem_take]
  exact Qx Ia
 rintro ⟨A,x,h1,h2⟩
 have h3:=hb c hc
 rw [hk] at h2
 obtain rfl:ks.getD i []=x:=Qb h2
 have h4:(ks.take i)[c]'(by rw [Qm];omega)=ks.getD i []:=by
  rw [List.getElem_take]
  exact (Qj h1).2
 simp [h4] at h3
theorem Oe {ks:List Bs} {i:Nat} (hi:i<ks.length) (h:Yn (ks.take i) (ks.getD i [])=none) (c:Nat):¬ M6 ks c i:=by
 rintro ⟨A,x,h1,h2⟩
 have hk:ks[i]?=some (ks.getD i []):=by rw [Qs,Qx hi];rfl
 rw [hk] at h2
 obtain rfl:ks.getD i []=x:=Qb h2
 unfold Yn at h
 rw [List.findIdx?_eq_none_iff] at h
 have h3:=h (ks.getD i []) (by
  obtain ⟨hc,he⟩:=Qj h1
  rw [List.mem_take_iff_getElem]
  exact ⟨c,Ia,he⟩)
 simp at h3
theorem Nq {ks:List Bs} {n k j:Nat} (hn:k<n) (hk:∀ c d,c<=k->d<j->¬ M6 ks c d):∀ i,i<=j->i<=ks.length->k<(ust n ks i).1
 | 0,_,_=>hn
 | i+1,hi,hl=>by
  have ih:=Nq hn hk i Ia Ia
  have e:ust n ks (i+1)=Vs (ks.take i) (ust n ks i) (ks.getD i []):=rfl
  rw [e]
  generalize ust n ks i=st at ih |-
  unfold Vs
  cases hf:Yn (ks.take i) (ks.getD i []) with
  | none=>exact ih
  | some a=>
   show k<(if a<st.1 then (a,(ks.take i).length) else st).1
   split
   ·have:=(D7 Ia hf).1
    have h2:¬ a<=k:=λh=>hk a i h Ia this
    show k<a
    omega
   exact ih
theorem Rq {ks:List Bs} {n k j i0:Nat} (h0:ust n ks i0=(k,j)) (hk:∀ c d,c<k->¬ M6 ks c d):∀ m,i0+m<=ks.length->ust n ks (i0+m)=(k,j)
 | 0,_=>h0
 | m+1,hl=>by
  have ih:=Rq h0 hk m Ia
  show Vs (ks.take (i0+m)) (ust n ks (i0+m)) (ks.getD (i0+m) [])=_
  rw [ih]
  unfold Vs
  cases hf:Yn (ks.take (i0+m)) (ks.getD (i0+m) []) with
  | none=>rfl
  | some a=>
   show (if a<k then _ else (k,j))=(k,j)
   rw [if_neg]
   intro h
   exact hk a _ h (D7 Ia hf).1
theorem Qje {ks:List Bs} {k j:Nat} (hp:M6 ks k j) (hk:∀ c d,c<k->¬ M6 ks c d) (hj:∀ d,d<j->¬ M6 ks k d):ust ks.length ks ks.length=(k,j):=by
 have A:j<ks.length:=by obtain ⟨_,a,_,h⟩:=hp;exact (Qj h).1
 have h1:k<(ust ks.length ks j).1:=Nq (j:=j) (by have:=hp.1;omega) (λc d hc hd h=>by
  rcases Nat.lt_or_ge c k with D | D
  ·exact hk c d D h
  obtain rfl:c=k:=Ia
  exact hj d hd h) j (Q9 _) Ia
 have D:ust ks.length ks (j+1)=(k,j):=by
  show Vs (ks.take j) (ust ks.length ks j) (ks.getD j [])=_
  generalize ust ks.length ks j=st at h1 |-
  unfold Vs
  cases hf:Yn (ks.take j) (ks.getD j []) with
  | none=>exact absurd hp (Oe A hf k)
  | some a=>
   obtain ⟨h3,h4⟩:=D7 A hf
   obtain rfl:a=k:=by
    rcases Nat.lt_trichotomy a k with h | h | h
    ·exact absurd h3 (hk a j h)
    ·exact h
    exact absurd hp (h4 k h)
   show (if a<st.1 then (a,(ks.take j).length) else st)=_
   rw [if_pos h1,Qm,Z0 Ia]
 have:=Rq D hk (ks.length - (j+1)) Ia
 rwa [show j+1+(ks.length - (j+1))=ks.length by omega] at this
theorem Nx (K:Val->List Val) (q:Val->Val->Bool) (hq:∀ x u,Iu eqv (K x) (K u)=q x u):∀ rows:List Val,
  (Ke K rows=Ft.zero/\∀ (k j:Nat) (x u:Val),k<j->rows[k]?=some x->rows[j]?=some u->q x u=false) \/
  ∃ (k j:Nat) (x u:Val),k<j/\rows[k]?=some x/\rows[j]?=some u/\q x u=true/\Ke K rows=⟨11,[],x,u⟩/\(∀ (c d:Nat) (y z:Val),c<k->c<d->rows[c]?=some y->rows[d]?=some z->q y z=false)/\∀ (d:Nat) (z:Val),k<d->d<j->rows[d]?=some z->q x z=false
 | []=>.inl ⟨rfl,λk j x u _ h=>by simp at h⟩
 | v::l=>by
  cases hf:l.find? (λu=>Iu eqv (K v) (K u)) with
  | some u=>
   refine .inr ?_
   have hf2:=hf
   rw [List.find?_eq_some_iff_getElem] at hf2
   obtain ⟨D,i,hi,he,hb⟩:=hf2
   refine ⟨0,i+1,v,u,Ia,rfl,by rw [Qh,Qx hi,he],by rw [<- hq];exact D,by rw [Ke,hf],λc d y z hc=>Ia,λd z hd M A=>?_⟩
   obtain ⟨d,rfl⟩:∃ e,d=e+1:=⟨d - 1,Ia⟩
   rw [Qh] at A
   obtain ⟨O,I⟩:=Qj A
   have:=hb d Ia
   rw [I,hq] at this
   simpa using this
  | none=>
   have hn:=hf
   rw [List.find?_eq_none] at hn
   have h0:∀ (d:Nat) (z:Val),l[d]?=some z->q v z=false:=λd z A=>by
    have:=hn z (Qy A)
    rw [hq] at this
    simpa using this
   have hk:Ke K (v::l)=Ke K l:=by rw [Ke,hf]
   rcases Nx K q hq l with ⟨h1,G⟩ | ⟨k,j,x,u,h1,G,h3,h4,h5,h6,h7⟩
   ·refine .inl ⟨by rw [hk,h1],λk j x u T hx D=>?_⟩
    obtain ⟨j,rfl⟩:∃ e,j=e+1:=⟨j - 1,Ia⟩
    rw [Qh] at D
    cases k with
    | zero=>
     obtain rfl:v=x:=Qb hx
     exact h0 j u D
    | succ k=>exact G k j x u Ia (by simpa using hx) D
   refine .inr ⟨k+1,j+1,x,u,Ia,by simpa using G,by simpa using h3,h4,by rw [hk,h5],λc d y z hc J hy A=>?_,λd z hd N A=>?_⟩
   ·obtain ⟨d,rfl⟩:∃ e,d=e+1:=⟨d - 1,Ia⟩
    rw [Qh] at A
    cases c with
    | zero=>
     obtain rfl:v=y:=Qb hy
     exact h0 d z A
    | succ c=>exact h6 c d y z Ia Ia (by simpa using hy) A
   obtain ⟨d,rfl⟩:∃ e,d=e+1:=⟨d - 1,Ia⟩
   exact h7 d z Ia Ia (by simpa using A)
theorem Ci {K:Val->List Val} {I:Val->List Int} {m:Nat} {rows:List Val} (hK:∀ x ∈ rows,K x=(I x).map Y5) (hl:∀ x ∈ rows,(I x).length=m):
  Uy rows (ust rows.length (rows.map λx=>kb (I x)) rows.length)=Ke K rows:=by
 have M:(rows.map λx=>kb (I x)).length=rows.length:=Z7 _
 have A:∀ k j,M6 (rows.map λx=>kb (I x)) k j->∃ x u,k<j/\rows[k]?=some x/\rows[j]?=some u/\Iu eqv (K x) (K u)=true:=by
  rintro k j ⟨aA,a,O,D⟩
  rw [List.getElem?_map,Option.map_eq_some_iff] at O D
  obtain ⟨x,Y,rfl⟩:=O
  obtain ⟨u,V,he⟩:=D
  refine ⟨x,u,aA,Y,V,?_⟩
  have J:=Qy Y;have G:=Qy V
  rw [hK x J,hK u G,T4 (by rw [hl x J,hl u G]) he]
  exact Nr R9 _
 rcases Nx K (λx u=>Iu eqv (K x) (K u)) (λ_ _=>rfl) rows with ⟨O,D⟩ | ⟨k,j,x,u,O,D,Z,h4,h5,h6,h7⟩
 ·rw [O]
  exact Fw M λi j a b T ha hb e=>by
   obtain ⟨x,u,_,Y,V,U⟩:=A i j ⟨T,a,ha,by rw [hb,e]⟩
   have:=D i j x u T Y V
   rw [U] at this;cases this
 have hp:M6 (rows.map λx=>kb (I x)) k j:=by
  refine ⟨O,kb (I x),by rw [List.getElem?_map,D];rfl,?_⟩
  have J:=Qy D;have G:=Qy Z
  rw [hK x J,hK u G] at h4
  rw [List.getElem?_map,Z,Pa h4];rfl
 have e:=Qje hp (λc d hc h=>by
  obtain ⟨y,z,N,hy,hz,U⟩:=A c d h
  have:=h6 c d y z hc N hy hz
  rw [U] at this;cases this) (λd hd h=>by
  obtain ⟨y,z,N,hy,hz,U⟩:=A k d h
  obtain rfl:x=y:=Qb (D.symm.trans hy)
  have:=h7 d z N hd hz
  rw [U] at this;cases this)
 rw [M] at e
 have aD:=(Qj D).1
 rw [e,h5]
 unfold Uy
 rw [if_neg (by show ¬ k=rows.length;omega)]
 show (⟨11,[],rows.getD k Val.zero,rows.getD j Val.zero⟩:Ft)=_
 rw [Qs,Qs,D,Z];rfl
end Go.Proofs.YtdpibdpbgokmoaaGreatDoor
