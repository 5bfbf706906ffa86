import Derived.Test.YtcljcblceodciaaGreatDoorU41
import Derived.Test.YtcljcblceodciaaGreatDoorU40
import Derived.Test.YtcljcblceodciaaGreatDoorU39
import Derived.Test.YtcljcblceodciaaGreatDoorU38
import Derived.Test.YtcljcblceodciaaGreatDoorU37
import Derived.Test.YtcljcblceodciaaGreatDoorU27
import Derived.Test.YtcljcblceodciaaGreatDoorU44
set_option maxRecDepth 100000
set_option maxHeartbeats 400000000
namespace Go.Proofs.YtcljcblceodciaaGreatDoor
open Go.RowKit Go.Shelf Go.Lib Tryz
theorem P6 (S0 S1:Nat->Prop) (s:Sc) (cs:List Value) (lv:Value) (l:List Rel) (w:World) (hs:Xt S0 w cs s) (hl0:Sl Y6 S1 w lv l) (hlen:l.length=s.tables.length) (hsm:Kn s.sums) (hT:∀ t ∈ s.tables,Ms t) (hR:∀ r ∈ l,∀ v ∈ r.rows,Vr v):
  Calls prog 11 #[cs,lv] w (M8 w):=
 Jl.all Cv Td Ar (L0.all (Dm.all Af Tf)) Wy S0 S1 s cs lv l w hs hl0 hlen hsm hT hR
theorem put5_row {W:World} {R:Nat} {a b c d e x0 x1 x2 x3 x4:Value} {l:List Value} {t:TypeId} (h:W.heap[R]?=some (.cells (x0::x1::x2::x3::x4::l).toArray t (0,0))):(Zi W R a b c d e).heap[R]?=some (.cells (a::b::c::d::e::l).toArray t (0,0)):=by
 have h0:(W.setCell ⟨R,0,none⟩ a).heap[R]?=some (.cells (a::x1::x2::x3::x4::l).toArray t (0,0)):=by rw [Qi _ _ _ _ _ _ h];simp
 have h1:((W.setCell ⟨R,0,none⟩ a).setCell ⟨R,1,none⟩ b).heap[R]?=some (.cells (a::b::x2::x3::x4::l).toArray t (0,0)):=by rw [Qi _ _ _ _ _ _ h0];simp
 have h2:(((W.setCell ⟨R,0,none⟩ a).setCell ⟨R,1,none⟩ b).setCell ⟨R,2,none⟩ c).heap[R]?=some (.cells (a::b::c::x3::x4::l).toArray t (0,0)):=by rw [Qi _ _ _ _ _ _ h1];simp
 have h3:((((W.setCell ⟨R,0,none⟩ a).setCell ⟨R,1,none⟩ b).setCell ⟨R,2,none⟩ c).setCell ⟨R,3,none⟩ d).heap[R]?=some (.cells (a::b::c::d::x4::l).toArray t (0,0)):=by rw [Qi _ _ _ _ _ _ h2];simp
 unfold Zi
 rw [Qi _ _ _ _ _ _ h3];simp
theorem Ls (x:Bs) (ns:List Bs) (ks:List Val):Xf (Vw (x::ns) ks) x=0:=by
 unfold Xf Vx
 simp [Vw,Val.names,List.findIdx?_cons]
theorem Wd {S:Nat->Prop} {B:Nat} {w W:World} {g n cap:Nat} {p y:Val} {ks:List Val} {css:List (List Value)} (hO:Own Zd 36 S B w (.slice (some ⟨g,0,none⟩) n cap) (p::ks) css) (hn:n=ks.length+1) {cy:List Value} {a b c d e:Value} (hcy:cy=[a,b,c,d,e])
  (hg:∀ l x0 x1 x2 x3 x4,w.heap[g]?=some (.cells (x0::x1::x2::x3::x4::l).toArray 36 (0,0))->W.heap[g]?=some (.cells (a::b::c::d::e::l).toArray 36 (0,0)))
  (hoth:∀ k,k≠g->k<w.heap.size->W.heap[k]?=w.heap[k]?) (hy:Z9 (fun b=>S b/\b≠g) W cy y):∃ css',Own Zd 36 S B W (.slice (some ⟨g,0,none⟩) n cap) (y::ks) css':=by
 subst hcy;subst hn
 rcases hO.row.2 with ⟨h,_⟩ | ⟨g',aF,M,hv,aB,aD,aE,Z,N,D⟩
 ·cases h
 simp only [Qr,Zv,Addr.mk.injEq] at hv
 obtain ⟨⟨rfl,-,-⟩,-,rfl⟩:=hv
 obtain ⟨G,A,rfl⟩:∃ G A,css=G::A:=by
  cases css with
  | nil=>have:=hO.cs.len;simp at this
  | cons G A=>exact ⟨G,A,rfl⟩
 have Y:G.length=5:=hO.cs.all G Ca
 have I:Zd.k=5:=rfl
 rw [I] at N D
 rw [List.flatten_cons] at D
 match G,Y with
 | [x0,x1,x2,x3,x4],_=>
  obtain ⟨l,O⟩:∃ l,M=(x0::x1::x2::x3::x4::l).toArray:=by
   obtain ⟨J⟩:=M
   have U:J=J.take ((p::ks).length*5)++J.drop ((p::ks).length*5):=(List.take_append_drop _ _).symm
   have h2:J.take ((p::ks).length*5)=[x0,x1,x2,x3,x4]++A.flatten:=D
   rw [h2] at U
   exact ⟨A.flatten++J.drop ((p::ks).length*5),congrArg List.toArray (U.trans Ca)⟩
  subst O
  have aC:=hg l x0 x1 x2 x3 x4 aD
  have T:(a::b::c::d::e::l).take ((y::ks).length*5)=[a,b,c,d,e]++A.flatten:=by
   have V:(x0::x1::x2::x3::x4::l).take ((p::ks).length*5)=[x0,x1,x2,x3,x4]++A.flatten:=D
   rw [show (p::ks).length*5=ks.length*5+5 by simp;omega] at V
   rw [show (y::ks).length*5=ks.length*5+5 by simp;omega]
   simp only [List.take_succ_cons,List.cons_append,List.nil_append,List.cons.injEq,true_and] at V |-
   exact V
  refine ⟨[a,b,c,d,e]::A,⟨⟨?_,.inr ⟨g,cap,_,rfl,aB,aC,aE,Z,?_,?_⟩⟩,?_⟩⟩
  ·have:=hO.row.1
   simp only [List.flatten_cons,Ql,List.length_cons,List.length_nil] at this |-
   exact this
  ·rw [I];simpa using N
  ·rw [I,List.flatten_cons];exact T
  have aA:Cs Zd (But S (.slice (some ⟨g,0,none⟩) (ks.length+1) cap)) w A ks:=⟨by have:=hO.cs.len;simpa using this,fun j c x hc hx=>hO.cs.R (j+1) c x hc hx⟩
  have U:Cs Zd (But S (.slice (some ⟨g,0,none⟩) (ks.length+1) cap)) W [[a,b,c,d,e]] [y]:=Cs.one (Z9.move hy (.refl _ _) (fun b _ hb=>⟨hb.1,fun e=>hb.2 (by simpa [Value.ownBlock] using e)⟩))
  exact U.app (aA.move (fun b hs hb=>hoth b (fun e=>hs.2 (by rw [e];rfl)) hb) Qje)
theorem own_head {S:Nat->Prop} {B:Nat} {w:World} {q:Option Addr} {n cap:Nat} {p:Val} {ks:List Val} {css:List (List Value)} (hO:Own Zd 36 S B w (.slice q n cap) (p::ks) css):
  ∃ g x0 x1 x2 x3 x4 l,q=some ⟨g,0,none⟩/\B<=g/\w.heap[g]?=some (.cells (x0::x1::x2::x3::x4::l).toArray 36 (0,0)):=by
 rcases hO.row.2 with ⟨h,h0⟩ | ⟨g',N,D,hv,G,I,M,O,A,T⟩
 ·simp at h0
 simp only [Qr] at hv
 obtain ⟨rfl,-,rfl⟩:=hv
 have J:Zd.k=5:=rfl
 rw [J] at A
 obtain ⟨cl⟩:=D
 have hl:5<=cl.length:=by simp at A M;omega
 match cl,hl with
 | x0::x1::x2::x3::x4::l,_=>exact ⟨g',x0,x1,x2,x3,x4,l,rfl,G,I⟩
theorem Wz (S S1:Nat->Prop) (x:Bs) (ns:List Bs) (p:Val) (ks:List Val) (y:Val) (cv cy:List Value) (w:World) (hv:Z9 S w cv (Vw (x::ns) (p::ks))) (hy0:Z9 S1 w cy y):
  Calls prog 145 #[cv,sv x,cy] w fun e w'=>∃ cs',e=.returned (.tuple #[.agg cs'.toArray,.bool true])/\Z9 (fun b=>w<=b) w' cs' (Vw (x::ns) (y::ks))/\Below w w w':=by
 have hy:Z9 (fun b=>b<w) w cy y:=hy0.move (.refl _ _) (fun b hb _=>hb)
 have hF:∀ W,Below w w W->Calls prog 69 #[cv,sv x] W fun e w'=>e=.returned (.tuple #[Ci,.bool true])/\Below W W w':=fun W hb=>by
  have h:=Hs S _ cv x W (Z9.move hv (.of_below hb) Qje)
  have e2:X7 (Vw (x::ns) (p::ks)) 0=true:=by simp [X7,Vw,Val.kind,Val.kids]
  rw [Ls,e2] at h
  exact h
 have HF:=Qq hF
 have HC:=Qq (fun W (hb:Below w w W)=>cloneOwn 4 0 [] (x::ns) (p::ks) S cv W (Z9.move hv (.of_below hb) Qje))
 have cM:=Qq (fun W (hb:Below w w W)=>Fj y _ cy W (Z9.move hy (.of_below hb) Qje))
 obtain ⟨p3,k3,p4,k4,O,_⟩:=Z9.cells hv
 simp only [vcs] at O
 subst O
 obtain ⟨q3,l3,q4,l4,O,_⟩:=Z9.cells hy
 simp only [vcs] at O
 subst O
 have cV:ks.length+1<=1000000:=by
  obtain ⟨nv,kv,_,_,_,hk⟩:=Vg.1 hv
  obtain ⟨_,_,_,h⟩:=hk.len
  simpa using h
 clear hv hy hy0 hF
 unfold sv at HF |-
 go_enter func145,ntmps145
 go_upto_region 1 with fail
 generalize aB:((w.alloc _).alloc _).alloc _=W1
 have bK:=eqB aB (Xm _ _ _ _)
 have h3:W1.heap[w.heap.size]?=some (.cells #[.int .i64 4,Ci,Cl,.slice p3 (ns.length+1) k3,.slice p4 (ks.length+1) k4] 36 (0,0)):=by rw [<- aB];exact (Zg _ _).block _ (by simp;omega) |>.trans (Q5 _ _ _)
 have h5:W1.heap[w.heap.size+1]?=some (.cells (Cn y q3 l3 q4 l4) 36 (0,0)):=by rw [<- aB];exact (Zg _ _).block _ Ca |>.trans (Q6 _ _ _)
 have h6:=eqH (b:=w.heap.size+2) aB (Zl _ _ _ _)
 obtain ⟨aS,H3,H5,H6⟩:=Qjz bK h3 h5 h6
 have V:=fun j=>Qk _ _ j _ _ _ h3
 obtain ⟨r0,r1,r2,r3,r4⟩:=Qjw V
 simp only [Qf,Qg,Qh] at r0 r1 r2 r3 r4
 clear V
 clear aB bK h3 h5 h6
 go_upto_region 4 with (go_at_call 69;refine (HF.out _ aS.out).mono ?_;rintro e w1 ⟨rfl,hb⟩;have T:=Qq hb;clear hb)
 have aW:=kB T.out H3.out
 have bF:=Qq aW;have Z:=Qq (aS.out.thn T.out)
 clear r0 r1 r2 r3 r4
 have V:=fun j=>Qk _ _ j _ _ _ aW
 obtain ⟨r0,r1,r2,r3,r4⟩:=Qjw V
 simp only [Qf,Qg,Qh] at r0 r1 r2 r3 r4
 clear V
 clear aW
 go_upto_region 5 with (go_at_call 70;refine (HC.out _ Z.out).mono ?_;rintro e w2 ⟨np,D,kp,A,css,rfl,hO,hb,hN⟩;obtain ⟨HO,HN,aL⟩:=Qjq hO hN hb;have N:=kB hb bF.out;have bG:=Qq N;have q0:=Qk _ _ 0 _ _ _ N;have q1:=Qk _ _ 1 _ _ _ N;have q2:=Qk _ _ 2 _ _ _ N;have bT:=Qk _ _ 3 _ _ _ N;have bV:=Qk _ _ 4 _ _ _ N;obtain ⟨f0,f1,f2,f3,f4⟩:=frz5 N;simp only [Qf,Qg,Qh] at q0 q1 q2 bT bV;clear hO hN hb N)
 obtain ⟨g,x0,x1,x2,x3,x4,l,rfl,dC,bL⟩:=own_head HO.out
 have dA:w.heap.size+3<=w1.heap.size:=by have:=T.out.size;have:=Z8 H6.out;omega
 have aC:(Zi w2 w (.int .i64 4) Ci Cl (.slice np (x::ns).length D) (Cg g 0 (p::ks).length A)).heap[w.heap.size]?=some (.cells #[.int .i64 4,Ci,Cl,.slice np (ns.length+1) D,Cg g 0 (ks.length+1) A] 36 (0,0)):=Yw bG.out
 have J:∀ k,k≠w.heap.size->(Zi w2 w (.int .i64 4) Ci Cl (.slice np (x::ns).length D) (Cg g 0 (p::ks).length A)).heap[k]?=w2.heap[k]?:=fun k hk=>Zf hk
 have aE:Below w w (Zi w2 w (.int .i64 4) Ci Cl (.slice np (x::ns).length D) (Cg g 0 (p::ks).length A)):=Zc (Z.out.thn aL.out) (Q9 _)
 unfold Zi at aC J aE
 try simp only [List.length_cons]
 simp only [List.length_cons] at aC J aE
 generalize World.setCell _ _ _=w3 at aC J aE |-
 have dD:w.heap.size+3<=g:=C7
 have bM:=Z8 H5.out
 have bN:=Z8 H6.out
 have dJ:=T.out.size
 have aY:=(J g C7).trans bL
 have cP:=Qq (HO.out.move (w':=w3) (Q9 _) (fun b hb h=>J b (by
  rcases h with h | h
  ·have h':w1.heap.size<=b:=h
   omega
  have:=(HO.out.row.lt b h).1
  omega)))
 have cO:=Qq (HN.out.frame (w':=w3) (fun b hS dH=>J b (by have:=hS.1;omega)))
 have aV:=Qq ((J (w+1) C7).trans (kE aL.out C7 ((T.out.block _ bM).trans H5.out)))
 have bE:=Qq ((J (w+2) C7).trans (kE aL.out C7 ((T.out.block _ bN).trans H6.out)))
 obtain ⟨aU,aT,cN⟩:=Qjq aC aE aY
 have cU:=Z8 aY
 clear aC aE J bL aY HO HN bF bG aL T Z aS H3 H5 H6 f0 f1 f2 f3 f4 q0 q1 q2 bT bV r0 r1 r2 r3 r4
 have bO:=Z8 aU.out
 have bP:=Z8 aV.out
 have cW:=Z8 bE.out
 have HD:=Qq (show ∀ W,(fun W=>W.heap[w.heap.size]?=some (.cells #[.int .i64 4,Ci,Cl,.slice np (ns.length+1) D,Cg g 0 (ks.length+1) A] 36 (0,0))/\W.heap[w.heap.size+1]?=some (.cells (Cn y q3 l3 q4 l4) 36 (0,0))/\Below w w W) W->Cf W w 4 (Cg g 0 (ks.length+1) A)/\Qjn W (w+1) y.kind y.n y.s (.slice q3 y.names.length l3) (.slice q4 y.kids.length l4) from fun W h=>
  ⟨(Qk _ _ 4 _ _ _ h.1).trans rfl,(Qk _ _ 0 _ _ _ h.2.1).trans rfl,(Qk _ _ 1 _ _ _ h.2.1).trans rfl,(Qk _ _ 2 _ _ _ h.2.1).trans rfl,(Qk _ _ 3 _ _ _ h.2.1).trans rfl,(Qk _ _ 4 _ _ _ h.2.1).trans rfl⟩)
 have bC:=Qq (show ∀ W,Below w3 w3 W->(fun W=>W.heap[w.heap.size]?=some (.cells #[.int .i64 4,Ci,Cl,.slice np (ns.length+1) D,Cg g 0 (ks.length+1) A] 36 (0,0))/\W.heap[w.heap.size+1]?=some (.cells (Cn y q3 l3 q4 l4) 36 (0,0))/\Below w w W) W from fun W hb=>⟨kE hb bO aU.out,kE hb bP aV.out,aT.out.thn hb⟩)
 have dE:(0:Int)<=0:=Int.le_refl 0
 have dF:(0:Int)<((ks.length+1:Nat):Int):=C7
 have dG:(0:Int)<(ks.length:Int)+1:=C7
 refine wp_region_held_drew (S:=fun W=>W.heap[w.heap.size]?=some (.cells #[.int .i64 4,Ci,Cl,.slice np (ns.length+1) D,Cg g 0 (ks.length+1) A] 36 (0,0))/\W.heap[w.heap.size+1]?=some (.cells (Cn y q3 l3 q4 l4) 36 (0,0))/\Below w w W) Cd (bC.out _ (Qz _ _).drew) (fun G=>?_)
 refine tkD (v:=?_) 0 (fun w0 I=>?_) ?_;rotate_left
 ·(obtain ⟨b4,y0,y1,y2,y3,y4⟩:=HD.out w0 I;go_simp;try with_reducible rfl)
 refine tkD (v:=?_) 1 (fun w0 I=>?_) ?_;rotate_left
 ·(obtain ⟨b4,y0,y1,y2,y3,y4⟩:=HD.out w0 I;go_simp;try with_reducible rfl)
 refine tkD (v:=?_) 2 (fun w0 I=>?_) ?_;rotate_left
 ·(obtain ⟨b4,y0,y1,y2,y3,y4⟩:=HD.out w0 I;go_simp;try with_reducible rfl)
 refine tkD (v:=?_) 3 (fun w0 I=>?_) ?_;rotate_left
 ·(obtain ⟨b4,y0,y1,y2,y3,y4⟩:=HD.out w0 I;go_simp;try with_reducible rfl)
 have aM:Hid (Below w3 w3 w3.drew):=Qq (Qz _ _).drew
 generalize w3.drew=wd at G aM |-
 refine rdD 4 (fun K hK=>?_) Qo
 go_simp
 refine (cM.out _ (aT.out.thn aM.out)).mono ?_
 rintro e w5 ⟨cs',rfl,hv,hb⟩
 obtain ⟨u3,m3,u4,m4,O,_⟩:=Z9.cells hv
 simp only [vcs] at O
 subst O
 have cS:=Qq hv
 have M:=Qq (aM.out.thn hb)
 have dI:=aM.out.size
 clear hv hb
 try dsimp only
 refine hK.out _ _ (bC.out _ M.out) (fun G=>?_)
 clear hK K
 refine tkD (v:=?_) 5 (fun w0 I=>?_) ?_;rotate_left
 ·(obtain ⟨b4,y0,y1,y2,y3,y4⟩:=HD.out w0 I;go_simp;try with_reducible rfl)
 have aP:=kE M.out cU cN.out
 have dB:=Qq aP
 have fz:=fun j=>Qn _ _ j _ _ aP
 obtain ⟨f0,f1,f2,f3,f4⟩:=Qjw fz
 have V:=fun j=>Qk _ _ j _ _ _ aP
 obtain ⟨r0,r1,r2,r3,r4⟩:=Qjw V
 simp only [Qf,Qg,Qh] at r0 r1 r2 r3 r4
 clear V fz
 clear aP
 refine rdD 6 (fun K hK=>?_) Qo
 go_simp
 have U:∀ k,k≠g->(Zi w5 g y.kind y.n y.s (.slice u3 y.names.length m3) (.slice u4 y.kids.length m4)).heap[k]?=w5.heap[k]?:=fun k hk=>Zf hk
 obtain ⟨cZ,aO⟩:=Wd (W:=Zi w5 g y.kind y.n y.s (.slice u3 y.names.length m3) (.slice u4 y.kids.length m4)) (cP.out.below M.out) Ca rfl (fun l x0 x1 x2 x3 x4 h=>put5_row h) (fun k hk _=>U k hk) (Z9.move cS.out (fun b h _=>U b (by have h':wd.heap.size<=b:=h;omega)) (fun b _ h=>⟨by have h':wd.heap.size<=b:=h;show w1<=b;omega,by have h':wd.heap.size<=b:=h;omega⟩))
 have aN:=(cO.out.below M.out).frame (w':=Zi w5 g y.kind y.n y.s (.slice u3 y.names.length m3) (.slice u4 y.kids.length m4)) (fun b hS _=>U b (fun e=>hS.2 (by rw [e];rfl)))
 have aD:=(U w C7).trans (kE M.out bO aU.out)
 have aX:=(U (w+1) C7).trans (kE M.out bP aV.out)
 have Y:=(U (w+2) C7).trans (kE M.out cW bE.out)
 have aF:Below w w (Cu w5 g y u3 m3 u4 m4):=Zc (aT.out.thn M.out) C7
 unfold Zi at aO aN aD aX Y aF
 refine hK.out _ _ ⟨aD,aX,aF⟩ (fun G=>?_)
 refine wpAnyH_done Cd ?_ _
 clear hK K G f0 f1 f2 f3 f4 r0 r1 r2 r3 r4 U aX
 generalize World.setCell _ _ _=w9 at aO aN aD Y aF |-
 obtain ⟨cQ,bD,cR,cL⟩:=Qjz aO aN Y aF
 have V:=fun j=>Qk _ _ j _ _ _ aD
 obtain ⟨z0,z1,z2,z3,z4⟩:=Qjw V
 simp only [Qf,Qg,Qh] at z0 z1 z2 z3 z4
 clear V
 have fz:=fun j=>Qn _ _ j _ _ Y
 obtain ⟨f0,f1,f2,f3,f4⟩:=Qjw fz
 have V:=fun j=>Qk _ _ j _ _ _ Y
 obtain ⟨r0,r1,r2,r3,r4⟩:=Qjw V
 simp only [Qf,Qg,Qh] at r0 r1 r2 r3 r4
 clear V fz
 clear aD Y aO aN aF
 go_wp2_with fail
 show bodyPost _ _ _ _ _ (Zi w9 (w+1+1) (.int .i64 4) Ci Cl (.slice np (ns.length+1) D) (Cg g 0 (ks.length+1) A))
 refine Q7 (v:=.tuple #[.agg #[.int .i64 4,Ci,Cl,.slice np (ns.length+1) D,Cg g 0 (ks.length+1) A],.bool true]) (by simp [results,results145,go_sem,Ze cR.out]) rfl ⟨_,rfl,?_,Zc cL.out C7⟩
 refine Y5 (k:=4) (n:=0) (s:=[]) (names:=x::ns) (kids:=y::ks) Ca ((bD.out.frame (fun b hS _=>Zf (by have:=hS.1;omega))).mono (fun b _ hS=>by have:=hS.1;show w<=b;omega)) ?_
 have cX:=cQ.out.sl (S':=fun b=>w1<=b) (by have h:=(bD.out.len);obtain ⟨_,_,h1,h2⟩:=h;simp only [List.length_cons] at *;exact cV) (fun b h=>h) (fun b _ h=>h)
 exact (cX.frame (fun b hS _=>Zf (by have h':w1.heap.size<=b:=hS;omega))).mono (fun b _ hS=>by have h':w1.heap.size<=b:=hS;show w<=b;omega)
def listR:Option (List Val)->Option Val
 | some vs=>some (.mk 5 0 [] [] vs)
 | none=>none
theorem ev_list (nm:Bs) (n:Int) (s:Bs) (names binds:List Bs) (kids:List Ex) (a z:Int) (env:List (Bs × Val)) (f:Ex->Option Val) (hlen:kids.length<=4096) (hev:∀ e ∈ kids,EvO e env (f e)):EvO (.mk 9 nm n s names binds kids a z) env (listR (Jc f kids)):=by
 obtain ⟨L,hL⟩:=eX (Jc f kids)
 rw [hL]
 intro S0 S' cs p w O aA Z Y
 have aI:=Qq aA
 clear aA
 have he:Xk (fun b=>S0 b/\b<w) w p env:=Y.move (.refl _ _) (fun b hb h=>⟨h,hb⟩)
 obtain ⟨nv,bv,kv,rfl,bA,aC,hn,hb,hk⟩:=Yy.1 Z
 obtain ⟨np,nc,rfl,_⟩:=hn.len
 obtain ⟨bp,bc,rfl,_⟩:=hb.len
 obtain ⟨kp,kc,rfl,aT⟩:=hk.len
 obtain ⟨q,rfl⟩:=he.ptr
 obtain ⟨HE,HK,aK,aG⟩:=Qjz he hk hn hb
 obtain ⟨kl,A⟩:=eX (kids.length)
 rw [A] at HK aT
 have N:=Qq A
 clear Z he Y hn hb hk
 unfold sv
 rw [A]
 clear A
 go_enter func103,ntmps103
 go_upto_region 3 with fail
 generalize J:((w.alloc _).alloc _).alloc _=w3
 have D:=eqB J (Xm _ _ _ _)
 have M:=eqH (b:=w.heap.size) J (Zp _ _ _ _)
 have h1:=eqH (b:=w.heap.size+1) J (Zo _ _ _ _)
 have h2:=eqH (b:=w.heap.size+1+1) J (Zl _ _ _ _)
 have bB:w.heap.size+1+1<w3.heap.size:=Z8 h2
 have c0:=rA0 M;have c1:=rA1 M;have c2:=rA2 M;have c3:=rA3 M;have c4:=rA4 M;have c5:=rA5 M;have c6:=rA6 M
 obtain ⟨H0,H1,H2,U⟩:=Qjz M h1 h2 D
 have G:=Qq (fun W (hW:Below w3 w3 W)=>Ml (w+1) (fun b=>S0 b/\b≠w+1+1) S' kp kc kids (.pointer q) env f W (by rw [N.out];exact (HK.out.below D).below hW) ((Qk _ _ 0 _ _ _ (kB hW h1)).trans rfl) (fun b hb=>⟨O b (C9 D.size hW.size),by have:=hW.size;omega⟩) (aI.out.below (D.thn hW)) ((HE.out.move (.of_below D) Qje).move (.of_below hW) (fun b _ h=>⟨h.1,by have:=h.2;omega⟩)) hev)
 rw [hL,N.out] at G
 have aY:((kl:Int)<=4096):=C8 N.out
 have aZ:kl<=1000000:=C7
 have HM:=Qq X9
 have aM:=Qq O
 clear M h1 h2 D J HE HK hev hlen hL c1 c2 c3 c4 c5 aK aG O
 cases L with
 | none=>
  go_wp2_with (first
   | (go_at_call 142;refine (HM.out _).mono ?_;rintro e w' ⟨rfl,rfl⟩)
   | (go_at_call 141;refine (G.out _ (Qz _ _)).mono ?_;rintro e w5 ⟨rfl,hb⟩))
  exact ⟨rfl,rfl,U.out.thn hb⟩
 | some vs=>
  go_wp2_with (first
   | (go_at_call 142;refine (HM.out _).mono ?_;rintro e w' ⟨rfl,rfl⟩)
   | (go_at_call 141;refine (G.out _ (Qz _ _)).mono ?_;rintro e w4 ⟨p4,I,aX,rfl,V,aB,T⟩;have aL:=Qq V;have aJ:=Qq aB;clear V aB;have hR:=kB T H2.out;have aF:=Qq (U.out.thn T);have HR:=Qq hR;have fz:=fun j=>Qn _ _ j _ _ hR;obtain ⟨f0,f1,f2,f3,f4⟩:=Qjw fz;have rr:=fun j=>Qk _ _ j _ _ _ hR;obtain ⟨r0,r1,r2,r3,r4⟩:=Qjw rr;simp only [Qf,Qg,Qh] at r0 r1 r2 r3 r4;clear fz rr T hR))
  show bodyPost _ _ _ _ _ (Zi w4 (w+1+1) (.int .i64 5) Ci Cl Cm (.slice p4 kl I))
  refine Q7 (v:=.agg #[.int .i64 5,Ci,Cl,Cm,.slice p4 kl I]) (by simp [results,results103,go_sem,Ze HR.out]) rfl ⟨_,rfl,?_,Zc aF.out C7⟩
  have aC:Sl Zd (fun b=>S0 b/\b≠w+1+1) w4 (.slice p4 kl I) vs:=aL.out.sl (C8 aJ.out) (fun b hb=>⟨aM.out b C7,C7⟩) Qje
  exact Y5 (s:=[]) Ca (Sl.nil _ _ _) ((aC.frame (fun b hb _=>Zf hb.2)).mono (fun _ _ h=>h.1))
theorem enK:∀ args w,(callFunc 140 args).run prog w=.ok (.enter 140 args) w:=enters_of func140 Cd rfl
section
variable {env:List (Bs × Val)} {x y:Ex} {u v:Val}
theorem Ut {nm:Bs} (h:Ea nm env=some v):EvO (Gen.var nm) env (some v):=(Pu nm 0 [] [] [] [] 0 0 env v h).out
theorem evo_int (n:Int):EvO (Gen.int n) env (some (Yf n)):=ev_int [] n [] [] [] [] 0 0 env
theorem Su (s:Bs) (h:s.length<=4096):EvO (Gen.str s) env (some (.mk 1 0 s [] [])):=ev_text [] 0 s [] [] [] 0 0 env h
theorem evo_bool (n:Int):EvO (Gen.bool n) env (some (Vf (n==1))):=(Sa [] n [] [] [] [] 0 0 env).out
theorem Uu {o:Bs} {f:Int->Bool} (ho:Lz o f) (hx:EvO x env (some u)) (hy:EvO y env (some v)):EvO (Gen.op o [x,y]) env (some (Vf (f (Yv u v)))):=
 Gn o 0 [] [] [] [x,y] 0 0 env _ fun lb S0 W hS H=>op_cmp _ lb enK S0 o f u v W hS ho (fun A hb D=>H 0 x _ rfl hx A hb D) (fun A hb D=>H 1 y _ rfl hy A hb D)
theorem R0 {o:Bs} {f:Int->Int->Int} (ho:IsAr o f) {a b:Int} (hx:EvO x env (some (Yf a))) (hy:EvO y env (some (Yf b))):EvO (Gen.op o [x,y]) env (some (Yf (f a b))):=
 Gn o 0 [] [] [] [x,y] 0 0 env _ fun lb S0 W hS H=>op_ar _ lb enK S0 o f (Yf a) (Yf b) W hS ho rfl rfl (fun A hb D=>H 0 x _ rfl hx A hb D) (fun A hb D=>H 1 y _ rfl hy A hb D)
theorem Az {o:Bs} {f:Int->Int->Int} (ho:IsAr o f) {a:Int} (hv:v.kind≠0) (hx:EvO x env (some (Yf a))) (hy:EvO y env (some v)):EvO (Gen.op o [x,y]) env none:=
 Gn o 0 [] [] [] [x,y] 0 0 env none fun lb S0 W _ H=>Au _ lb enK S0 o f (Yf a) v W ho rfl hv (fun A hb D=>H 0 x _ rfl hx A hb D) (fun A hb D=>H 1 y _ rfl hy A hb D)
theorem evo_cat (hu:u.kind=1) (hv:v.kind=1) (hx:EvO x env (some u)) (hy:EvO y env (some v)):EvO (Gen.op [43,43] [x,y]) env (if u.s.length+v.s.length<=4096 then some (.mk 1 0 (u.s++v.s) [] []) else none):=
 Gn [43,43] 0 [] [] [] [x,y] 0 0 env _ fun lb S0 W hS H=>op_cat _ lb enK S0 u v W hS hu hv (fun A hb D=>H 0 x _ rfl hx A hb D) (fun A hb D=>H 1 y _ rfl hy A hb D)
theorem evo_not (hu:u.kind=2) (hx:EvO x env (some u)):EvO (Gen.op [110,111,116] [x]) env (some (Vf (!(u.n==1)))):=
 Gn [110,111,116] 0 [] [] [] [x] 0 0 env _ fun lb S0 W hS H=>op_not _ lb enK S0 u W hS hu (fun W' hb hl=>H 0 x _ rfl hx W' hb hl)
theorem Sd {o:Bs} {b:Bool} (ho:Nb o b) (hu:u.kind=2) (hv:v.kind=2) (hx:EvO x env (some u)) (hy:EvO y env (some v)):EvO (Gen.op o [x,y]) env (some (Vf (if (u.n==1)=b then v.n==1 else !b))):=
 Gn o 0 [] [] [] [x,y] 0 0 env _ fun lb S0 W hS H=>by
  by_cases h:(u.n==1)=b
  ·rw [if_pos h]
   exact op_log _ lb enK S0 o b u v W ho hS hu h hv (fun A hb D=>H 0 x _ rfl hx A hb D) (fun A hb D=>H 1 y _ rfl hy A hb D)
  rw [if_neg h]
  exact Fq _ lb enK S0 o b u W ho hS hu (by revert h;cases (u.n==1) <;> cases b <;> simp) (fun A hb D=>H 0 x _ rfl hx A hb D)
theorem Pa {o:Bs} {b:Bool} (ho:Nb o b) (hu:u.kind=2) (hx:EvO x env (some u)) (hy:EvO y env none):EvO (Gen.op o [x,y]) env (if (u.n==1)=b then none else some (Vf (!b))):=
 Gn o 0 [] [] [] [x,y] 0 0 env _ fun lb S0 W hS H=>by
  by_cases h:(u.n==1)=b
  ·rw [if_pos h]
   exact Ps _ lb enK S0 o b u W ho hu h (fun A hb D=>H 0 x _ rfl hx A hb D) (fun A hb D=>H 1 y _ rfl hy A hb D)
  rw [if_neg h]
  exact Fq _ lb enK S0 o b u W ho hS hu (by revert h;cases (u.n==1) <;> cases b <;> simp) (fun A hb D=>H 0 x _ rfl hx A hb D)
end
theorem Fs (b:Bool):(Vf b).kind=2:=by cases b <;> rfl
def rowV (A B:Int) (C:Bs) (D:Int) (E:Val):Val:=Vw [[97],[98],[99],[100],[101]] [Yf A,Yf B,.mk 1 0 C [] [],.mk 2 D [] [] [],E]
def hueV (E:Val):Prop:=E=.mk 3 0 [82,101,100] [] []\/∃ n,E=.mk 3 0 [68,97,114,107] [] [Yf n]
theorem Y4.kind1 {v:Val} (h:Y4 v) (hk:v.kind=1):∃ s,v=.mk 1 0 s [] []:=by
 cases h with
 | int n hb=>cases hk
 | text s=>exact ⟨s,rfl⟩
 | bool n hn=>cases hk
 | make s kids hs hl hk'=>cases hk
 | record names kids hl hn hs hk'=>cases hk
 | list kids hk'=>cases hk
theorem Y4.kind2 {v:Val} (h:Y4 v) (hk:v.kind=2):∃ n,v=.mk 2 n [] [] []:=by
 cases h with
 | int n hb=>cases hk
 | text s=>cases hk
 | bool n hn=>exact ⟨n,rfl⟩
 | make s kids hs hl hk'=>cases hk
 | record names kids hl hn hs hk'=>cases hk
 | list kids hk'=>cases hk
theorem Y4.hue {v:Val} (h:Y4 v) (hk:B1 [Gen.hue] v [72,117,101]=true):hueV v:=by
 unfold B1 at hk
 rw [Bool.and_eq_true] at hk
 obtain ⟨G,h4⟩:=hk
 have D:Jw Gen.hue v=true:=h4
 have A:=D
 cases h with
 | int n hb=>cases G
 | text s=>cases G
 | bool n hn=>cases G
 | make s kids hs hl hk'=>
  unfold Jw at D
  by_cases h1:[82,101,100]=s
  ·subst h1
   have I:decide (kids.length=0)=true:=D
   have:kids=[]:=Zy (of_decide_eq_true I)
   subst this
   exact .inl rfl
  by_cases h2:[68,97,114,107]=s
  ·subst h2
   match kids,hk',D with
   | [x],hk',D=>
    have I:(x.kind==0)=true:=D
    obtain ⟨n,rfl,_⟩:=(hk' x Ca).kind0 (by simpa using I)
    exact .inr ⟨n,rfl⟩
   | [],_,D=>cases D
   | _::_::_,_,D=>cases D
  have e:atP (fun c:Ct=>decide (c.name=(Val.mk 3 0 s [] kids).s)) Gen.hue.ctors=none:=by
   unfold atP Gen.hue
   simp [List.findIdx?_cons,Val.s,h1,h2]
  have I:Jw Gen.hue (.mk 3 0 s [] kids)=false:=by
   unfold Jw
   rw [e]
  rw [I] at A
  cases A
 | record names kids hl hn hs hk'=>cases G
 | list kids hk'=>cases G
theorem row_t {t:Tbl} (hc:t.columns=[⟨[97],Gen.whole⟩,⟨[98],Gen.whole⟩,⟨[99],Gen.text⟩,⟨[100],Gen.yesno⟩,⟨[101],Gen.hueT⟩]) {v:Val} (hv:Y4 v) (h:Ua [Gen.hue] t v=true):∃ A B C D E,v=rowV A B C D E/\hueV E:=by
 unfold Ua An at h
 rw [hc,Bool.and_eq_true,Bool.and_eq_true] at h
 obtain ⟨⟨h1,h2⟩,h3⟩:=h
 have M:v.names=[[97],[98],[99],[100],[101]]:=eqL_eq h2
 have G:=hv.kidG
 obtain ⟨h4,J⟩:=Jm h3
 have I:v.kind=4:=by simpa using h1
 have hz:v.n=0/\v.s=[]:=by
  cases hv with
  | int n hb=>cases I
  | text s=>cases I
  | bool n M=>cases I
  | make s kids hs hl hk'=>cases I
  | record names kids hl M hs hk'=>exact ⟨rfl,rfl⟩
  | list kids hk'=>cases I
 obtain ⟨k,n,s,names,kids⟩:=v
 simp only [Val.kind,Val.n,Val.s,Val.names,Val.kids] at M I hz h4 J G
 obtain ⟨rfl,rfl⟩:=hz
 subst I;subst M
 match kids,h4,J,G with
 | [a,b,c,d,e],_,J,G=>
  have ha:(a.kind==0)=true:=J 0 _ _ rfl rfl
  have hb:(b.kind==0)=true:=J 1 _ _ rfl rfl
  have hc:(c.kind==1)=true:=J 2 _ _ rfl rfl
  have hd:(d.kind==2)=true:=J 3 _ _ rfl rfl
  have he:B1 [Gen.hue] e [72,117,101]=true:=J 4 _ _ rfl rfl
  obtain ⟨A,rfl,_⟩:=(G a Ca).kind0 (by simpa using ha)
  obtain ⟨B,rfl,_⟩:=(G b Ca).kind0 (by simpa using hb)
  obtain ⟨C,rfl⟩:=(G c Ca).kind1 (by simpa using hc)
  obtain ⟨D,rfl⟩:=(G d Ca).kind2 (by simpa using hd)
  exact ⟨A,B,C,D,e,rfl,(G e Ca).hue he⟩
def Nt (A B:Int) (C:Bs) (D:Int) (E:Val):List (Bs × Val):=[([101],E),([100],.mk 2 D [] [] []),([99],.mk 1 0 C [] []),([98],Yf B),([97],Yf A)]
theorem Wm (A B:Int) (C:Bs) (D:Int) (E:Val):D7 (rowV A B C D E)=Nt A B C D E:=rfl
section
variable (A B:Int) (C:Bs) (D:Int) (E:Val)
theorem eva:EvO Gen.a (Nt A B C D E) (some (Yf A)):=Ut rfl
theorem evb:EvO Gen.b (Nt A B C D E) (some (Yf B)):=Ut rfl
theorem evc:EvO Gen.c (Nt A B C D E) (some (.mk 1 0 C [] [])):=Ut rfl
theorem evd:EvO Gen.d (Nt A B C D E) (some (.mk 2 D [] [] [])):=Ut rfl
theorem eve:EvO Gen.e (Nt A B C D E) (some E):=Ut rfl
theorem ev1 {env:List (Bs × Val)}:EvO Gen.one env (some (Yf 1)):=evo_int 1
theorem evy {env:List (Bs × Val)}:EvO Gen.yes env (some (Vf true)):=evo_bool 1
theorem Ly {env:List (Bs × Val)} {x y:Ex} {u v:Val} (hne:y≠x) (hx:EvO x env (some u)) (hy:EvO y env (some v)):EvO (.mk 9 [] 0 [] [] [] [x,y] 0 0) env (some (.mk 5 0 [] [] [u,v])):=by
 classical
 have h:=ev_list [] 0 [] [] [] [x,y] 0 0 env (fun e=>if e=x then some u else some v) Ca (fun e A=>by
  rcases Z3.1 A with rfl | A
  ·simp only [if_true];exact hx
  obtain rfl:=Z5.1 A
  simp only [if_neg hne];exact hy)
 have e:Jc (fun e=>if e=x then some u else some v) [x,y]=some [u,v]:=by
  simp [Jc,hne]
 rw [e] at h
 exact h
theorem R1 {env:List (Bs × Val)} {x y:Ex} {o:Bs} (ho:IsBin o) (hx:EvO x env none):EvO (Gen.op o [x,y]) env none:=
 Gn o 0 [] [] [] [x,y] 0 0 env none fun lb S0 W _ H=>op_no0 _ lb enK S0 o W ho (fun W' hb hl=>H 0 x _ rfl hx W' hb hl)
theorem Sv {env:List (Bs × Val)} {u v:Val} (ha:EvO Gen.a env (some u)) (hb:EvO Gen.b env (some v)):EvO Gen.rec env (some (Vw [[120],[121]] [v,u])):=by
 classical
 refine ev_rec [] 0 [] [[121],[120]] [] [Gen.a,Gen.b] 0 0 env (fun e=>if e=Gen.a then some u else some v) [u,v] _ (fun e A=>?_) ?_ (rec_xy u v)
 ·rcases Z3.1 A with rfl | A
  ·simp only [if_true];exact ha
  obtain rfl:=Z5.1 A
  rw [if_neg (by simp [Gen.a,Gen.b,Gen.var])];exact hb
 have D:¬ Gen.b=Gen.a:=by simp [Gen.a,Gen.b,Gen.var]
 simp [Jc,D]
theorem evo_fx {env:List (Bs × Val)} {u v:Val} (ha:EvO Gen.a env (some u)) (hb:EvO Gen.b env (some v)) (h1:EvO Gen.one env (some (Yf 1))):EvO (.mk 8 [120] 0 [] [] [] [Gen.wth] 0 0) env (some (Yf 1)):=
 Oq [120] 0 [] [] [] Gen.wth 0 0 env (Vw [[120],[121]] [Yf 1,u]) (Yf 1)
  (ev_with [] 0 [] [[120]] [] Gen.rec Gen.one 0 0 env (Vw [[120],[121]] [v,u]) (Yf 1) _ [120] rfl (Sv ha hb) h1 rfl (fun S S1 cv cy w h1 h2=>Wz S S1 [120] [[121]] v [u] (Yf 1) cv cy w h1 h2)) rfl rfl
theorem evo_fy {env:List (Bs × Val)} {u v:Val} (ha:EvO Gen.a env (some u)) (hb:EvO Gen.b env (some v)):EvO (.mk 8 [121] 0 [] [] [] [Gen.rec] 0 0) env (some u):=
 Oq [121] 0 [] [] [] Gen.rec 0 0 env (Vw [[120],[121]] [v,u]) u (Sv ha hb) rfl rfl
theorem isLt:Lz [60] fun c=>decide (c<0):=.inr (.inr (.inl ⟨rfl,rfl⟩))
theorem isLe:Lz [60,61] fun c=>decide (c<=0):=.inr (.inr (.inr ⟨rfl,rfl⟩))
theorem isEq:Lz [61,61] fun c=>c==0:=.inl ⟨rfl,rfl⟩
theorem isNe:Lz [33,61] fun c=>c != 0:=.inr (.inl ⟨rfl,rfl⟩)
theorem chk_any (k:Nat) (hk:Uy (Gen.check k)=true):∃ r,EvO (Gen.check k) (Nt A B C D E) r:=by
 match k,hk with
 | 0,_=>exact ⟨_,evy⟩
 | 1,_=>exact ⟨_,evy⟩
 | 2,_=>exact ⟨_,evy⟩
 | 3,_=>exact ⟨_,Uu isLe (eva _ _ _ _ _) (R0 (.inl ⟨rfl,rfl⟩) (evb _ _ _ _ _) (R0 (.inr (.inr ⟨rfl,rfl⟩)) ev1 ev1))⟩
 | 4,_=>exact ⟨_,Sd (b:=false) (.inr ⟨rfl,rfl⟩) rfl (Fs _) (evd _ _ _ _ _) (Uu isNe (evc _ _ _ _ _) (Su _ Cc))⟩
 | 5,_=>exact ⟨_,ev_if [] 0 [] [] [] _ _ _ 0 0 _ _ _ _ (evd _ _ _ _ _) (Uu isLt (eva _ _ _ _ _) (evb _ _ _ _ _)) (Uu isEq (evc _ _ _ _ _) (evc _ _ _ _ _))⟩
 | 6,_=>exact ⟨_,ev_match [] 0 [] _ _ [110] _ _ _ 0 0 _ _ _ (fun u=>some (Vf (decide (Yv u (Yf B)<0)))) Cc (eve _ _ _ _ _) evy (fun u=>Uu isLt (Ut rfl) (Ut rfl))⟩
 | 7,_=>exact ⟨_,Uu isLt (evo_fx (eva _ _ _ _ _) (evb _ _ _ _ _) ev1) (evo_fy (eva _ _ _ _ _) (evb _ _ _ _ _))⟩
 | 8,_=>exact ⟨letR (some (Yf (IntKind.i64.wrap (A - B)))) (some (Vf (if ((Vf (decide (Yv (Yf (IntKind.i64.wrap (A - B))) (Yf 1)<0))).n==1)=true then (Vf (!(D==1))).n==1 else !true))),ev_let [97] 0 [] [] [] _ _ 0 0 _ _ _ (R0 (.inr (.inl ⟨rfl,rfl⟩)) (eva _ _ _ _ _) (evb _ _ _ _ _)) (fun u hu=>by
   cases hu
   exact Sd (b:=true) (.inl ⟨rfl,rfl⟩) (Fs _) (Fs _) (Uu isLt (Ut rfl) ev1) (evo_not (u:=.mk 2 D [] [] []) rfl (Ut rfl)))⟩
 | 9,_=>
  have h:=evo_cat (env:=Nt A B C D E) (x:=Gen.c) (y:=Gen.c) rfl rfl (evc A B C D E) (evc A B C D E)
  split at h
  ·exact ⟨_,Uu isEq h (Su _ Cc)⟩
  exact ⟨none,R1 ⟨rfl,rfl,rfl⟩ h⟩
 | 10,_=>exact ⟨_,Pa (b:=true) (.inl ⟨rfl,rfl⟩) rfl (evd _ _ _ _ _) (Az (v:=.mk 1 0 C [] []) (.inl ⟨rfl,rfl⟩) (by simp [Val.kind]) (eva _ _ _ _ _) (evc _ _ _ _ _))⟩
 | 11,_=>exact ⟨_,Uu isNe (Ly (by simp [Gen.a,Gen.b,Gen.var]) (eva _ _ _ _ _) (evb _ _ _ _ _)) (Ly (by simp [Gen.a,Gen.one,Gen.var,Gen.int]) ev1 (eva _ _ _ _ _))⟩
 | k+12,hk=>exact absurd hk (by simp [Gen.check,Uy])
end
theorem sat_t {t:Tbl} {k:Nat} (hc:t.columns=[⟨[97],Gen.whole⟩,⟨[98],Gen.whole⟩,⟨[99],Gen.text⟩,⟨[100],Gen.yesno⟩,⟨[101],Gen.hueT⟩]) (hk:t.check=Gen.check k) {v:Val} (hv:Y4 v) (h:Ua [Gen.hue] t v=true):∃ b,Dq t v b:=by
 obtain ⟨A,B,C,D,E,rfl,_⟩:=row_t hc hv h
 cases hs:Uy (Gen.check k) with
 | true=>
  obtain ⟨r,hr⟩:=chk_any A B C D E k hs
  exact ⟨satR r,fun G I M J w h0 N O=>Sf G I t _ M J r w N O (by rw [hk];exact hs) (by rw [hk,Wm];exact hr) (by simp [rowV,Vw,Val.names,Val.kids]) h0⟩
 | false=>exact ⟨false,fun G I M J w _ N O=>sat_no G I t _ M J w N O (by rw [hk];exact hs)⟩
theorem Sw {t:Tbl} (hk:t.check=Gen.yes) {v:Val} (hv:Y4 v):∃ b,Dq t v b:=
 ⟨satR _,fun S0 S1 ct cr w h0 h1 h2=>Sf S0 S1 t _ ct cr _ w h1 h2 (by rw [hk];rfl) (by rw [hk];exact evy) hv.lens.1 h0⟩
end Go.Proofs.YtcljcblceodciaaGreatDoor
