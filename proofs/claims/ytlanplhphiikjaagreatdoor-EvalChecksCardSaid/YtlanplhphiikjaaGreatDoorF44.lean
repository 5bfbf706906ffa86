import Derived.Test.YtlanplhphiikjaaGreatDoorF43
set_option maxRecDepth 100000
set_option maxHeartbeats 400000000
namespace Go.Proofs.YtlanplhphiikjaaGreatDoor
open Go.RowKit Go.Shelf Go.Lib Tryz
def Hw (y:Ty):Prop:=y=Gen.whole\/y=Gen.text\/y=Gen.yesno\/y=G15.colorT\/y=G15.sizeT
theorem rval_col (S S1 S2:Nat->Prop) (sv' lv:Value) (l:List Int) (at':Nat) (ct:List Value) (w:World) (hs:Xh S w lv l) (hi:Ke l) (hu:Sl Vi S2 w sv' G15.sums) (y:Ty) (hy:Hw y) (ht:Y6 S1 w ct y) (hat:(at':Int)<40):
  Calls prog 21 #[sv',ct,lv,at'] w (G6 y w):=by
 rcases hy with rfl | rfl | rfl | rfl | rfl
 ·exact Df S S1 sv' lv l at' ct w hs hi ht
 ·exact Na S S1 sv' lv l at' ct w hs hi ht
 ·exact Ng S S1 sv' lv l at' ct w hs hi ht
 ·exact Ly S S1 S2 sv' lv l at' ct w hs hi hu ht hat
 exact Nl S S1 S2 sv' lv l at' ct w hs hi hu ht hat
theorem put15 {W W':World} {b j:Nat} {x:Value} {cs:Array Value} {t:TypeId} (h:W.heap[b]?=some (.cells cs t (0,0))) (hW:W.setCell ⟨b,j,none⟩ x=W'):W'.heap[b]?=some (.cells (cs.setIfInBounds j x) t (0,0))/\(∀ k,k≠b->W'.heap[k]?=W.heap[k]?)/\(∀ B,B<=b->Below B W W'):=by
 subst hW
 refine ⟨Qd _ _ _ _ _ _ h,fun k hk=>Z4 hk,fun B hB=>(Qz B W).setCell (p:=⟨b,j,none⟩) hB _⟩
theorem Ht {S:Nat->Prop} {w:World} {b:Nat} {v:Val} {p3 p4:Option Addr} {k3 k4:Nat} (hb:w.heap[b]?=some (.cells (Ou v p3 k3 p4 k4) 48 (0,0))) (hS:S b) (hv:Z5 S w (vcs v p3 k3 p4 k4) v):Sl Zc S w (.slice (some ⟨b,0,none⟩) 1 1) [v]:=
 Y2 hb hS (Cs.one (r:=Zc) (show Zc.R S w _ v from hv)) rfl rfl Od
theorem D7 {E:TypeId} {S S':Nat->Prop} {B:Nat} {w:World} {v:Value} {xs:List Bs} {css:List (List Value)} (h:Own Zi E S B w v xs css):Own Zi E S' B w v xs css:=⟨h.row,⟨h.cs.len,fun i c x hc hx=>h.cs.R i c x hc hx⟩⟩
theorem wrap15 (k:Nat) (h:k<4):IntKind.i64.wrap (IntKind.i64.wrap 1+IntKind.i64.wrap (3*(k:Int)))=((1+3*k:Nat):Int):=by
 have hk:k=0\/k=1\/k=2\/k=3:=Oa
 rcases hk with rfl | rfl | rfl | rfl <;> decide
structure Xx (w W1:World) (nl:List Bs) (np:Option Addr) (ncap:Nat) (kids:List Val) (kp:Option Addr) (kcap:Nat) (wr:World):Prop where
 below:Below w w wr
 low:∀ b,b<w.heap.size+2->wr.heap[b]?=W1.heap[b]?
 box:wr.heap[w.heap.size+2]?=some (.cells #[.int .i64 4,On,Oo,.slice np nl.length ncap,.slice kp kids.length kcap] 48 (0,0))
 names:∃ ncs,Own Zi 9 (fun _=>False) (w+3) wr (.slice np nl.length ncap) nl ncs
 vals:∃ kcs,Own Zc 48 (fun b=>w.heap.size+3<=b/\some b≠(Value.slice np nl.length ncap).ownBlock) (w+3) wr (.slice kp kids.length kcap) kids kcs
theorem Xx.putName {w W1 wr w2 w3 w4:World} {nl nl':List Bs} {np p5:Option Addr} {ncap cap5:Nat} {kids:List Val} {kp:Option Addr} {kcap:Nat} {css5:List (List Value)} (h:Xx w W1 nl np ncap kids kp kcap wr) (hb:Below wr wr w2)
  (hO:Own Zi 9 (fun _=>False) (w+3) w3 (.slice p5 nl'.length cap5) nl' css5) (hL:Gz (w+3) w2 w3 (.slice np nl.length ncap) (.slice p5 nl'.length cap5)) (hW:w3.setCell ⟨w+2,3,none⟩ (.slice p5 nl'.length cap5)=w4):Xx w W1 nl' p5 cap5 kids kp kcap w4:=by
 obtain ⟨V,hN⟩:=h.names
 obtain ⟨U,M⟩:=h.vals
 have N:=Z3 h.box
 have hz:=hb.size
 have L:∀ g,(Value.slice np nl.length ncap).ownBlock=some g->w.heap.size+3<=g/\g<wr.heap.size:=fun g e=>hN.row.lt g e
 have J:=(hL.other (w+2) Oa (fun e=>by have:=L _ e.symm;omega)).trans (kE hb N h.box)
 obtain ⟨hA,ho,hB⟩:=put15 J hW
 have keep:∀ b,b<wr.heap.size->some b≠(Value.slice np nl.length ncap).ownBlock->b≠w.heap.size+2->w4.heap[b]?=wr.heap[b]?:=fun b D T O=>(ho b O).trans ((hL.other b Oa T).trans (hb.block b D))
 have Zh:∀ b,b<wr.heap.size->((w.heap.size+3<=b/\some b≠(Value.slice np nl.length ncap).ownBlock)\/(Value.slice kp kids.length kcap).ownBlock=some b)->w4.heap[b]?=wr.heap[b]?:=fun b D G=>by
  rcases G with G | G
  ·exact keep b D G.2 (by have:=G.1;omega)
  exact keep b D (fun e=>Xb M.row hN.row Of G e.symm) (by have:=(M.row.lt b G).1;omega)
 refine ⟨h.below.trans ((hb.mono h.below.size).trans ((hL.below.mono Oa).trans (hB _ Oa))),fun b D=>(keep b Oa (fun e=>by have:=L _ e.symm;omega) Oa).trans (h.low b D),hA.trans rfl,⟨css5,hO.move (Q4 _) (fun b _ G=>ho b ?_)⟩,⟨U,(M.move (Q4 _) Zh).row,M.cs.move (fun b D I=>Zh b I (.inl D.1)) (fun b I D=>⟨⟨D.1.1,fun e=>?_⟩,D.2⟩)⟩⟩
 ·rcases G with G | G
  ·exact G.elim
  have:=(hO.row.lt b G).1;omega
 rcases hL.at' with h1 | ⟨g,h1,h2⟩
 ·exact D.1.2 (e.trans h1)
 rw [h1] at e
 have:=Q6 e
 omega
theorem Xx.putKid {w W1 wr w6 w7 w8:World} {nl:List Bs} {np p7:Option Addr} {ncap cap7:Nat} {kids kids':List Val} {kp:Option Addr} {kcap:Nat} {css7:List (List Value)} (h:Xx w W1 nl np ncap kids kp kcap wr) (hb:Below wr wr w6)
  (hO:Own Zc 48 (fun b=>w+3<=b/\some b≠(Value.slice np nl.length ncap).ownBlock) (w+3) w7 (.slice p7 kids'.length cap7) kids' css7) (hL:Gz (w+3) w6 w7 (.slice kp kids.length kcap) (.slice p7 kids'.length cap7)) (hW:w7.setCell ⟨w+2,4,none⟩ (.slice p7 kids'.length cap7)=w8):Xx w W1 nl np ncap kids' p7 cap7 w8:=by
 obtain ⟨U,M⟩:=h.names
 obtain ⟨V,hK⟩:=h.vals
 have N:=Z3 h.box
 have hz:=hb.size
 have L:∀ g,(Value.slice kp kids.length kcap).ownBlock=some g->w.heap.size+3<=g/\g<wr.heap.size:=fun g e=>hK.row.lt g e
 have I:=(hL.other (w+2) Oa (fun e=>by have:=L _ e.symm;omega)).trans (kE hb N h.box)
 obtain ⟨hA,ho,hB⟩:=put15 I hW
 have keep:∀ b,b<wr.heap.size->some b≠(Value.slice kp kids.length kcap).ownBlock->b≠w.heap.size+2->w8.heap[b]?=wr.heap[b]?:=fun b G T O=>(ho b O).trans ((hL.other b Oa T).trans (hb.block b G))
 refine ⟨h.below.trans ((hb.mono h.below.size).trans ((hL.below.mono Oa).trans (hB _ Oa))),fun b G=>(keep b Oa (fun e=>by have:=L _ e.symm;omega) Oa).trans (h.low b G),hA.trans rfl,⟨U,M.move (Q4 _) (fun b J D=>?_)⟩,⟨css7,hO.move (Q4 _) (fun b _ D=>ho b ?_)⟩⟩
 ·rcases D with D | D
  ·exact D.elim
  exact keep b J (fun e=>Xb M.row hK.row Of D e.symm) (by have:=(M.row.lt b D).1;omega)
 rcases D with D | D
 ·have:=D.1;omega
 have:=(hO.row.lt b D).1;omega
def GenRow (ns:List Bs) (ts:List Ty) (w:World) (e:Ending) (w':World):Prop:=∃ kids p3 k3 p4 k4,e=.returned (.agg (vcs (.mk 4 0 [] ns kids) p3 k3 p4 k4).toArray)/\Vp ts kids/\Z5 (fun b=>w<=b) w' (vcs (.mk 4 0 [] ns kids) p3 k3 p4 k4) (.mk 4 0 [] ns kids)/\Below w w w'
theorem rval_rec (S S1 S2:Nat->Prop) (sv' lv:Value) (l:List Int) (ns:List Bs) (ts:List Ty) (ct:List Value) (w:World) (hs:Xh S w lv l) (hi:Ke l) (hu:Sl Vi S2 w sv' G15.sums) (ht:Y6 S1 w ct (.mk 5 [] 0 ns ts)) (hnl:ns.length=ts.length) (h4:ns.length<=4) (hts:∀ y ∈ ts,Hw y):
  Calls prog 21 #[sv',ct,lv,On] w (GenRow ns ts w):=by
 have eD:=Qq (fun (y:Ty) (hy:Hw y) (at':Nat) (ha:(at':Int)<40) W cs (hb:Below w w W) (h:Y6 (fun _=>True) W cs y)=>rval_col S (fun _=>True) S2 sv' lv l at' cs W (hs.below hb) hi (hu.below hb) y hy h ha)
 obtain ⟨p3,k3,p4,k4,rfl,dR,dO⟩:=ht.cells'
 obtain ⟨i0,j1,j2,j3,j4⟩:=Y3 (P:=prog) (t:=48) (z:=.agg zV) (n:=5) (b:=80) Og
 obtain ⟨HJ,dE,dF,dG⟩:=Py j1 j2 j3 j4
 clear j1 j2 j3 j4
 obtain ⟨i9,j1,j2,j3,j4⟩:=Y3 (P:=prog) (t:=9) (z:=.string ⟨#[]⟩) (n:=1) (b:=16) Og
 obtain ⟨HS,dZ,eA,eB⟩:=Py j1 j2 j3 j4
 clear j1 j2 j3 j4
 obtain ⟨m,hm⟩:=eX (ns.length)
 have dQ:ts.length=m:=Oa
 rw [hm] at dR h4 |-
 rw [dQ] at dO |-
 obtain ⟨fH,fF,bW,dI,fI⟩:=Pw dR dO hm dQ hts
 clear hs hi hu ht hnl dR dO hm dQ hts
 go_enter func21,ntmps21
 go_wp2_with fail
 generalize cQ:World.alloc (World.alloc (World.alloc w _) _) _=W1
 have eH:=eqB cQ (Yr _ _ _ _)
 have ha:=eqH (b:=w.heap.size) cQ (Ze _ _ _ _)
 have hz:=eqH (b:=w.heap.size+1) cQ (Zf _ _ _ _)
 have eF:Xx w W1 [] none 0 [] none 0 W1:=⟨eH,fun _ _=>rfl,by rw [<- cQ];exact Z9 _ _ _ _,⟨[],Own.nil _ _ _ _ _⟩,⟨[],Own.nil _ _ _ _ _⟩⟩
 obtain ⟨bU,fL,fG⟩:=Px ha hz eF
 clear eH ha hz eF cQ
 go_loopw [12] (fun dU wr=>∃ (k:Nat) (np:Option Addr) (N:Nat) (kids:List Val) (kp:Option Addr) (G:Nat),k<=m/\dU=.int .i64 k/\Aside (Xx w W1 (ns.take k) np N kids kp G wr/\Vp (ts.take k) kids)) (fun dU _=>m - (intOf dU).toNat)
 case atStart=>exact ⟨0,none,0,[],none,0,Q3 _,rfl,fG.out,trivial⟩
 obtain ⟨k,np,N,kids,kp,G,hk,rfl,fN⟩:=hrel
 obtain ⟨hM,cM⟩:Xx w W1 (ns.take k) np N kids kp G wr/\Vp (ts.take k) kids:=fN
 have cR:(ns.take k).length=k:=by rw [Qf,bW.out];omega
 have bS:kids.length=k:=by rw [X6 cM,Qf,dI.out];omega
 have hT:=(hM.low w Oa).trans bU.out
 have aX:=hM.box
 rw [cR,bS] at aX
 obtain ⟨HM,cA,bN,aP,HT,dX⟩:=P0 hM cM cR bS hT aX
 have eJ:=Z3 aX
 have a3:=rA3 hT;have a4:=rA4 hT
 clear hM cM cR bS hT
 by_cases hlt:k<m
 ·have fY:(0:Int)<=(k:Int):=Oa
  have fZ:(k:Int)<(m:Int):=Oa
  clear aX
  obtain ⟨x,hx⟩:∃ x,ns[k]?=some x:=⟨_,Qx (by rw [bW.out];exact hlt)⟩
  obtain ⟨y,hy⟩:∃ y,ts[k]?=some y:=⟨_,Qx (by rw [dI.out];exact hlt)⟩
  obtain ⟨xb,O,fT,eL,eM⟩:=fH.out.str hx
  obtain ⟨yb,T,tk,eS,tn,t3,n3,l3,t4,n4,l4,fU,gA,eN,e0,e1,e2,e3,e4⟩:=fF.out.ty hy
  subst fT;subst fU
  obtain ⟨HX,HY,fK,eE⟩:=Py hx hy eN eM
  have dY:=Qq (fI.out y (Qy hy))
  clear hx hy eN eM
  go_upto_region 18 with fail
  clear a3 a4
  go_cut [] from 85 to 112 (fun wx=>∃ aB L,Xx w W1 (ns.take (k+1)) aB L kids kp G wx)
  case first=>
   have HD:=Qq (fun (W:World) (h:(fun (W:World)=>W.heap[w.heap.size]?=some (.cells #[.int .i64 5,Oo,On,Ol xb O m k3,Ol yb T m k4] 65 (0,0))/\Below w w W) W)=>(show Oi W w 3 (Ol xb O m k3)/\Oi W xb (O+k) x from ⟨(Qk _ _ _ _ _ _ h.1).trans rfl,kC h.2 eL⟩))
   have aS:=Qq (show (fun (W:World)=>W.heap[w.heap.size]?=some (.cells #[.int .i64 5,Oo,On,Ol xb O m k3,Ol yb T m k4] 65 (0,0))/\Below w w W) wr.drew from ⟨HT.out,HM.out.below.drew⟩)
   clear eL
   refine wp_region_held_drew (S:=(fun (W:World)=>W.heap[w.heap.size]?=some (.cells #[.int .i64 5,Oo,On,Ol xb O m k3,Ol yb T m k4] 65 (0,0))/\Below w w W)) Og aS.out (fun D=>?_)
   refine tkD (v:=?_) 0 (fun V I=>?_) ?_;rotate_left
   ·(obtain ⟨a3,x0⟩:=HD.out V I;go_simp;try with_reducible rfl)
   refine tkD (v:=?_) 2 (fun V I=>?_) ?_;rotate_left
   ·(obtain ⟨a3,x0⟩:=HD.out V I;go_simp;try with_reducible rfl)
   refine tkD (v:=?_) 3 (fun V I=>?_) ?_;rotate_left
   ·(obtain ⟨a3,x0⟩:=HD.out V I;go_simp;try with_reducible rfl)
   refine tkD (v:=?_) 4 (fun V I=>?_) ?_;rotate_left
   ·(obtain ⟨a3,x0⟩:=HD.out V I;go_simp;try with_reducible rfl)
   refine tkD (v:=?_) 5 (fun V I=>?_) ?_;rotate_left
   ·(obtain ⟨a3,x0⟩:=HD.out V I;go_simp;try with_reducible rfl)
   refine tkD (v:=?_) 6 (fun V I=>?_) ?_;rotate_left
   ·(obtain ⟨a3,x0⟩:=HD.out V I;go_simp;try with_reducible rfl)
   have aK:=Qq (show Below wr wr wr.drew from (Qz _ _).drew)
   have bY:=(show wr.drew.heap[w.heap.size+2]?=_ from dX.out)
   obtain ⟨dS,dN⟩:=HM.out.names
   rw [bN.out] at dN
   have bX:=Qq (dN.below aK.out)
   clear dN
   generalize wr.drew=wd at D aS aK bX bY |-
   have aQ:=Qq bY
   clear bY
   refine rsD [1,7] ?_
   refine rcD (fun K M=>?_) ?_
   ·skip
    have h7:=aQ.out
    have c3:=rA3 h7
    clear h7
    go_simp
    try dsimp only
    refine M.out _ _ aS.out (fun D=>?_)
    clear M K
    refine rdD 7 (fun K M=>?_) Qh
    go_simp
    generalize aA:World.alloc wd _=we
    have J:=Zp aA
    have aJ:=Y5 aA
    have cD:=aK.out.size
    have Z:=Qq (show (fun (W:World)=>W.heap[w.heap.size]?=some (.cells #[.int .i64 5,Oo,On,Ol xb O m k3,Ol yb T m k4] 65 (0,0))/\Below w w W) we from ⟨kE J Oa aS.out.1,aS.out.2.thn J⟩)
    have aF:=Qq (aK.out.thn J)
    have cX:=aF.out.size
    have bE:=Qq (bX.out.below J)
    have aC:=Qq (kE J Oa aQ.out)
    have bF:=Qq (Bv (S:=But (fun _=>True) (.slice np k N)) aJ ⟨trivial,fun e=>by have:=(bX.out.row.lt _ e.symm).2;omega⟩ eE.out)
    clear J aJ aA
    try dsimp only
    refine M.out _ _ Z.out (fun D=>?_)
    clear M K
    refine rdD 8 (fun K M=>?_) Qh
    refine Xr (r:=Zi) Of Vm Oe (.tmp 86) (.tmp 92) 46 Oe 9 i9 (.string ⟨#[]⟩) 16 underlying46 HS.out dZ.out eA.out eB.out rfl Oa (fun _=>True) (w+3) we (.slice np k N) (ns.take k) dS Oe (D7 bE.out) (.slice (some ⟨wd,0,none⟩) 1 1) [x] Oe bF.out (k+1) (by rw [bN.out];rfl) Oa Oa ?_
    intro p5 aU css5 w5 cO aV
    have U:∀ b,b=w.heap.size\/b=w.heap.size+2->b<we.heap.size/\some b≠(Value.slice np k N).ownBlock:=fun b hb=>⟨Oa,fun e=>by have:=(bX.out.row.lt _ e.symm).1;omega⟩
    have aG:=Qq (show (fun (W:World)=>W.heap[w.heap.size]?=some (.cells #[.int .i64 5,Oo,On,Ol xb O m k3,Ol yb T m k4] 65 (0,0))/\Below w w W) w5 from ⟨(aV.other _ (U _ (.inl rfl)).1 (U _ (.inl rfl)).2).trans Z.out.1,Z.out.2.trans (aV.below.mono Oa)⟩)
    have h5:=(aV.other _ (U _ (.inr rfl)).1 (U _ (.inr rfl)).2).trans aC.out
    have y3:=Qk _ _ 3 _ _ _ h5;have f3:=fA 3 h5
    simp only [Qa,Qb,Qc] at y3
    have aR:=Qq cO;have dH:=Qq aV
    clear cO aV U h5
    try dsimp only
    refine M.out _ _ aG.out (fun D=>?_)
    clear M K
    refine tkD (v:=?_) 9 (fun V I=>?_) ?_;rotate_left
    ·(obtain ⟨a3,x0⟩:=HD.out V I;go_simp;try with_reducible rfl)
    refine rdD 10 (fun K M=>?_) Qh
    go_simp
    generalize cP:World.setCell w5 _ _=w6
    have aI:(ns.take k++[x]).length=k+1:=by rw [Qe,bN.out];rfl
    have cN:Xx w W1 (ns.take k++[x]) p5 aU kids kp G w6:=HM.out.putName aF.out (css5:=css5) (D7 (by rw [aI];exact aR.out)) (by rw [aI,bN.out];exact dH.out) (by rw [aI];exact cP)
    have bG:Xx w W1 (ns.take (k+1)) p5 aU kids kp G w6:=by
     have e:ns.take (k+1)=ns.take k++[x]:=by rw [List.take_add_one,HX.out];rfl
     rw [e]
     exact cN
    have dJ:=Qq bG
    refine M.out _ _ ⟨(bG.low w Oa).trans bU.out,bG.below⟩ (fun D=>?_)
    clear M K y3 f3 cN bG cP aI
    refine wpAnyH_done Og ?_ _
    go_wp2_with fail
    go_meet
    exact ⟨p5,aU,dJ.out⟩
   refine rcD (fun K M=>?_) Qh
   go_simp
   generalize aA:World.alloc wd _=we
   have J:=Zp aA
   have aJ:=Y5 aA
   have cD:=aK.out.size
   have Z:=Qq (show (fun (W:World)=>W.heap[w.heap.size]?=some (.cells #[.int .i64 5,Oo,On,Ol xb O m k3,Ol yb T m k4] 65 (0,0))/\Below w w W) we from ⟨kE J Oa aS.out.1,aS.out.2.thn J⟩)
   have aF:=Qq (aK.out.thn J)
   have cX:=aF.out.size
   have bE:=Qq (bX.out.below J)
   have aC:=Qq (kE J Oa aQ.out)
   have bF:=Qq (Bv (S:=But (fun _=>True) (.slice np k N)) aJ ⟨trivial,fun e=>by have:=(bX.out.row.lt _ e.symm).2;omega⟩ eE.out)
   clear J aJ aA
   try dsimp only
   refine M.out _ _ Z.out (fun D=>?_)
   clear M K
   refine rdD 1 (fun K M=>?_) Qh
   have h7:=aC.out
   have c3:=rA3 h7
   clear h7
   go_simp
   try dsimp only
   refine M.out _ _ Z.out (fun D=>?_)
   clear M K
   refine rdD 8 (fun K M=>?_) Qh
   refine Xr (r:=Zi) Of Vm Oe (.tmp 86) (.tmp 92) 46 Oe 9 i9 (.string ⟨#[]⟩) 16 underlying46 HS.out dZ.out eA.out eB.out rfl Oa (fun _=>True) (w+3) we (.slice np k N) (ns.take k) dS Oe (D7 bE.out) (.slice (some ⟨wd,0,none⟩) 1 1) [x] Oe bF.out (k+1) (by rw [bN.out];rfl) Oa Oa ?_
   intro p5 aU css5 w5 cO aV
   have U:∀ b,b=w.heap.size\/b=w.heap.size+2->b<we.heap.size/\some b≠(Value.slice np k N).ownBlock:=fun b hb=>⟨Oa,fun e=>by have:=(bX.out.row.lt _ e.symm).1;omega⟩
   have aG:=Qq (show (fun (W:World)=>W.heap[w.heap.size]?=some (.cells #[.int .i64 5,Oo,On,Ol xb O m k3,Ol yb T m k4] 65 (0,0))/\Below w w W) w5 from ⟨(aV.other _ (U _ (.inl rfl)).1 (U _ (.inl rfl)).2).trans Z.out.1,Z.out.2.trans (aV.below.mono Oa)⟩)
   have h5:=(aV.other _ (U _ (.inr rfl)).1 (U _ (.inr rfl)).2).trans aC.out
   have y3:=Qk _ _ 3 _ _ _ h5;have f3:=fA 3 h5
   simp only [Qa,Qb,Qc] at y3
   have aR:=Qq cO;have dH:=Qq aV
   clear cO aV U h5
   try dsimp only
   refine M.out _ _ aG.out (fun D=>?_)
   clear M K
   refine tkD (v:=?_) 9 (fun V I=>?_) ?_;rotate_left
   ·(obtain ⟨a3,x0⟩:=HD.out V I;go_simp;try with_reducible rfl)
   refine rdD 10 (fun K M=>?_) Qh
   go_simp
   generalize cP:World.setCell w5 _ _=w6
   have aI:(ns.take k++[x]).length=k+1:=by rw [Qe,bN.out];rfl
   have cN:Xx w W1 (ns.take k++[x]) p5 aU kids kp G w6:=HM.out.putName aF.out (css5:=css5) (D7 (by rw [aI];exact aR.out)) (by rw [aI,bN.out];exact dH.out) (by rw [aI];exact cP)
   have bG:Xx w W1 (ns.take (k+1)) p5 aU kids kp G w6:=by
    have e:ns.take (k+1)=ns.take k++[x]:=by rw [List.take_add_one,HX.out];rfl
    rw [e]
    exact cN
   have dJ:=Qq bG
   refine M.out _ _ ⟨(bG.low w Oa).trans bU.out,bG.below⟩ (fun D=>?_)
   clear M K y3 f3 cN bG cP aI
   refine wpAnyH_done Og ?_ _
   go_wp2_with fail
   go_meet
   exact ⟨p5,aU,dJ.out⟩
  obtain ⟨aB,L,cU⟩:=hcut
  obtain ⟨ws,rfl⟩:∃ ws,ws=wc:=⟨_,rfl⟩
  have dP:(ns.take (k+1)).length=k+1:=by rw [Qf,bW.out];omega
  have cW:=cU.box
  rw [dP,aP.out] at cW
  have eG:=(cU.low w Oa).trans bU.out
  have fX:=Z3 cW
  obtain ⟨bO,fD,eC⟩:=Px cU cW eG
  have cG:=Qq dP
  clear HM dX HT eJ cU cW eG dP
  go_upto_region 19 with fail
  have HD:=Qq (fun (W:World) (h:(fun (W:World)=>W.heap[w.heap.size]?=some (.cells #[.int .i64 5,Oo,On,Ol xb O m k3,Ol yb T m k4] 65 (0,0))/\Below w w W) W)=>(show Oi W w 4 (Ol yb T m k4)/\Pi W yb (T+k*5) tk (.string eS) tn (.slice t3 n3 l3) (.slice t4 n4 l4) from ⟨(Qk _ _ _ _ _ _ h.1).trans rfl,kC h.2 e0,kC h.2 e1,kC h.2 e2,kC h.2 e3,kC h.2 e4⟩))
  have aT:=Qq (show (fun (W:World)=>W.heap[w.heap.size]?=some (.cells #[.int .i64 5,Oo,On,Ol xb O m k3,Ol yb T m k4] 65 (0,0))/\Below w w W) ws.drew from ⟨eC.out,bO.out.below.drew⟩)
  clear e0 e1 e2 e3 e4
  have dA:((1+3*k:Nat):Int)<40:=Oa
  have HC:=Qq (eD.out y dY.out (1+3*k) dA ws.drew [tk,.string eS,tn,.slice t3 n3 l3,.slice t4 n4 l4] bO.out.below.drew (fK.out.move (.of_below bO.out.below.drew) (fun _ _ _=>trivial)))
  rw [<- wrap15 k Oa] at HC
  clear dA
  refine wp_region_held_drew (S:=(fun (W:World)=>W.heap[w.heap.size]?=some (.cells #[.int .i64 5,Oo,On,Ol xb O m k3,Ol yb T m k4] 65 (0,0))/\Below w w W)) Og aT.out (fun D=>?_)
  refine tkD (v:=?_) 0 (fun V I=>?_) ?_;rotate_left
  ·(obtain ⟨a4,e0,e1,e2,e3,e4⟩:=HD.out V I;go_simp;try with_reducible rfl)
  refine tkD (v:=?_) 2 (fun V I=>?_) ?_;rotate_left
  ·(obtain ⟨a4,e0,e1,e2,e3,e4⟩:=HD.out V I;go_simp;try with_reducible rfl)
  refine tkD (v:=?_) 3 (fun V I=>?_) ?_;rotate_left
  ·(obtain ⟨a4,e0,e1,e2,e3,e4⟩:=HD.out V I;go_simp;try with_reducible rfl)
  refine tkD (v:=?_) 4 (fun V I=>?_) ?_;rotate_left
  ·(obtain ⟨a4,e0,e1,e2,e3,e4⟩:=HD.out V I;go_simp;try with_reducible rfl)
  refine tkD (v:=?_) 5 (fun V I=>?_) ?_;rotate_left
  ·(obtain ⟨a4,e0,e1,e2,e3,e4⟩:=HD.out V I;go_simp;try with_reducible rfl)
  refine tkD (v:=?_) 6 (fun V I=>?_) ?_;rotate_left
  ·(obtain ⟨a4,e0,e1,e2,e3,e4⟩:=HD.out V I;go_simp;try with_reducible rfl)
  refine tkD (v:=?_) 7 (fun V I=>?_) ?_;rotate_left
  ·(obtain ⟨a4,e0,e1,e2,e3,e4⟩:=HD.out V I;go_simp;try with_reducible rfl)
  refine tkD (v:=?_) 8 (fun V I=>?_) ?_;rotate_left
  ·(obtain ⟨a4,e0,e1,e2,e3,e4⟩:=HD.out V I;go_simp;try with_reducible rfl)
  refine tkD (v:=?_) 9 (fun V I=>?_) ?_;rotate_left
  ·(obtain ⟨a4,e0,e1,e2,e3,e4⟩:=HD.out V I;go_simp;try with_reducible rfl)
  refine tkD (v:=?_) 10 (fun V I=>?_) ?_;rotate_left
  ·(obtain ⟨a4,e0,e1,e2,e3,e4⟩:=HD.out V I;go_simp;try with_reducible rfl)
  refine tkD (v:=?_) 11 (fun V I=>?_) ?_;rotate_left
  ·(obtain ⟨a4,e0,e1,e2,e3,e4⟩:=HD.out V I;go_simp;try with_reducible rfl)
  refine tkD (v:=?_) 12 (fun V I=>?_) ?_;rotate_left
  ·(obtain ⟨a4,e0,e1,e2,e3,e4⟩:=HD.out V I;go_simp;try with_reducible rfl)
  refine tkD (v:=?_) 13 (fun V I=>?_) ?_;rotate_left
  ·(obtain ⟨a4,e0,e1,e2,e3,e4⟩:=HD.out V I;go_simp;try with_reducible rfl)
  have aK:=Qq (show Below ws ws ws.drew from (Qz _ _).drew)
  have bY:=(show ws.drew.heap[w.heap.size+2]?=_ from fD.out)
  obtain ⟨cY,cV⟩:=bO.out.vals
  rw [cG.out,aP.out] at cV
  have dB:∀ b,(Value.slice aB (k+1) L).ownBlock=some b->b<ws.heap.size:=fun b e=>by
   obtain ⟨_,h⟩:=bO.out.names
   rw [cG.out] at h
   exact (h.row.lt b e).2
  have cF:=Qq (show ∀ b,(Value.slice kp k G).ownBlock=some b->b<ws.heap.size from fun b e=>(cV.row.lt b e).2)
  have dK:=Qq (cV.below aK.out)
  clear cV
  have cJ:=Qq dB
  clear dB
  generalize ws.drew=wd at D aT aK dK bY HC |-
  have aQ:=Qq bY
  clear bY
  refine rsD [1,14] ?_
  refine rcD (fun K M=>?_) ?_
  ·skip
   have h7:=aQ.out
   have c4:=rA4 h7
   clear h7
   go_simp
   try dsimp only
   refine M.out _ _ aT.out (fun D=>?_)
   clear M K
   refine rdD 14 (fun K M=>?_) Qh
   go_simp
   refine HC.out.mono ?_
   rintro e w5 ⟨v,r3,o3,r4,o4,rfl,bT,hv,aL⟩
   unfold vcs
   have cD:=aK.out.size
   have aG:=Qq (show (fun (W:World)=>W.heap[w.heap.size]?=some (.cells #[.int .i64 5,Oo,On,Ol xb O m k3,Ol yb T m k4] 65 (0,0))/\Below w w W) w5 from ⟨kE aL Oa aT.out.1,aT.out.2.thn aL⟩)
   have bV:=Qq (aK.out.thn aL)
   have aR:=Qq (dK.out.below aL)
   have bM:=Qq (kE aL Oa aQ.out)
   have cB:=Qq bT;have HV:=Qq hv
   clear bT hv aL
   try dsimp only
   refine M.out _ _ aG.out (fun D=>?_)
   clear M K
   refine rdD 15 (fun K M=>?_) Qh
   go_simp
   generalize aA:World.alloc w5 _=we
   have J:=Zp aA
   have aJ:=Y5 aA
   have cS:=bV.out.size
   have Z:=Qq (show (fun (W:World)=>W.heap[w.heap.size]?=some (.cells #[.int .i64 5,Oo,On,Ol xb O m k3,Ol yb T m k4] 65 (0,0))/\Below w w W) we from ⟨kE J Oa aG.out.1,aG.out.2.thn J⟩)
   have aF:=Qq (bV.out.thn J)
   have cX:=aF.out.size
   have bE:=Qq (aR.out.below J)
   have aC:=Qq (kE J Oa bM.out)
   have aW:∀ b,ws.heap.size<=b->(But (fun b=>w.heap.size+3<=b/\some b≠(Value.slice aB (k+1) L).ownBlock) (.slice kp k G)) b:=fun b hb=>⟨⟨Oa,fun e=>by have:=cJ.out b e.symm;omega⟩,fun e=>by have:=cF.out b e.symm;omega⟩
   have bF:=Qq (Ht (S:=But (fun b=>w+3<=b/\some b≠(Value.slice aB (k+1) L).ownBlock) (.slice kp k G)) aJ (aW _ cS) (HV.out.move (.of_below J) (fun b _ h=>aW b (Q7 cD h))))
   clear J aJ aA aW
   try dsimp only
   refine M.out _ _ Z.out (fun D=>?_)
   clear M K
   refine rdD 16 (fun K M=>?_) Qh
   refine Xr (r:=Zc) Of Jv Oe (.tmp 96) (.tmp 110) 40 Oe 48 i0 (.agg zV) 80 underlying40 HJ.out dE.out dF.out dG.out rfl Oa (fun b=>w+3<=b/\some b≠(Value.slice aB (k+1) L).ownBlock) (w+3) we (.slice kp k G) kids cY Oe bE.out (.slice (some ⟨w5,0,none⟩) 1 1) [v] Oe bF.out (k+1) (by rw [aP.out];rfl) Oa Oa ?_
   intro p7 aM css7 w7 bP aD
   have U:∀ b,b=w.heap.size\/b=w.heap.size+2->b<we.heap.size/\some b≠(Value.slice kp k G).ownBlock:=fun b hb=>⟨Oa,fun e=>by have:=(aR.out.row.lt _ e.symm).1;omega⟩
   have cL:=Qq (show (fun (W:World)=>W.heap[w.heap.size]?=some (.cells #[.int .i64 5,Oo,On,Ol xb O m k3,Ol yb T m k4] 65 (0,0))/\Below w w W) w7 from ⟨(aD.other _ (U _ (.inl rfl)).1 (U _ (.inl rfl)).2).trans Z.out.1,Z.out.2.trans (aD.below.mono Oa)⟩)
   have h7:=(aD.other _ (U _ (.inr rfl)).1 (U _ (.inr rfl)).2).trans aC.out
   have y4:=Qk _ _ 4 _ _ _ h7;have f4:=fA 4 h7
   simp only [Qa,Qb,Qc] at y4
   have cK:=Qq bP;have cH:=Qq aD
   clear bP aD U h7
   try dsimp only
   refine M.out _ _ cL.out (fun D=>?_)
   clear M K
   refine tkD (v:=?_) 17 (fun V I=>?_) ?_;rotate_left
   ·(obtain ⟨a4,e0,e1,e2,e3,e4⟩:=HD.out V I;go_simp;try with_reducible rfl)
   refine rdD 18 (fun K M=>?_) Qh
   go_simp
   generalize bQ:World.setCell w7 _ _=w8
   have Y:(kids++[v]).length=k+1:=by rw [Qe,aP.out];rfl
   have aH:Xx w W1 (ns.take (k+1)) aB L (kids++[v]) p7 aM w8:=bO.out.putKid aF.out (css7:=css7) (by rw [Y,cG.out];exact cK.out) (by rw [Y,aP.out];exact cH.out) (by rw [Y];exact bQ)
   have cI:=Qq aH
   refine M.out _ _ ⟨(aH.low w Oa).trans bU.out,aH.below⟩ (fun D=>?_)
   clear M K y4 f4 aH bQ Y
   refine wpAnyH_done Og ?_ _
   go_wp2_with fail
   go_roundw
   case measure=>simp [intOf];omega
   case rel=>
    have e:ts.take (k+1)=ts.take k++[y]:=by rw [List.take_add_one,HY.out];rfl
    exact ⟨k+1,aB,L,kids++[v],p7,aM,Oa,by go_num,cI.out,e ▸ U9 cA.out cB.out⟩
  refine rcD (fun K M=>?_) Qh
  go_simp
  refine HC.out.mono ?_
  rintro e w5 ⟨v,r3,o3,r4,o4,rfl,bT,hv,aL⟩
  unfold vcs
  have cD:=aK.out.size
  have aG:=Qq (show (fun (W:World)=>W.heap[w.heap.size]?=some (.cells #[.int .i64 5,Oo,On,Ol xb O m k3,Ol yb T m k4] 65 (0,0))/\Below w w W) w5 from ⟨kE aL Oa aT.out.1,aT.out.2.thn aL⟩)
  have bV:=Qq (aK.out.thn aL)
  have aR:=Qq (dK.out.below aL)
  have bM:=Qq (kE aL Oa aQ.out)
  have cB:=Qq bT;have HV:=Qq hv
  clear bT hv aL
  try dsimp only
  refine M.out _ _ aG.out (fun D=>?_)
  clear M K
  refine rsD [1,15] ?_
  refine rcD (fun K M=>?_) ?_
  ·skip
   have h7:=bM.out
   have c4:=rA4 h7
   clear h7
   go_simp
   try dsimp only
   refine M.out _ _ aG.out (fun D=>?_)
   clear M K
   refine rdD 15 (fun K M=>?_) Qh
   go_simp
   generalize aA:World.alloc w5 _=we
   have J:=Zp aA
   have aJ:=Y5 aA
   have cS:=bV.out.size
   have Z:=Qq (show (fun (W:World)=>W.heap[w.heap.size]?=some (.cells #[.int .i64 5,Oo,On,Ol xb O m k3,Ol yb T m k4] 65 (0,0))/\Below w w W) we from ⟨kE J Oa aG.out.1,aG.out.2.thn J⟩)
   have aF:=Qq (bV.out.thn J)
   have cX:=aF.out.size
   have bE:=Qq (aR.out.below J)
   have aC:=Qq (kE J Oa bM.out)
   have aW:∀ b,ws.heap.size<=b->(But (fun b=>w.heap.size+3<=b/\some b≠(Value.slice aB (k+1) L).ownBlock) (.slice kp k G)) b:=fun b hb=>⟨⟨Oa,fun e=>by have:=cJ.out b e.symm;omega⟩,fun e=>by have:=cF.out b e.symm;omega⟩
   have bF:=Qq (Ht (S:=But (fun b=>w+3<=b/\some b≠(Value.slice aB (k+1) L).ownBlock) (.slice kp k G)) aJ (aW _ cS) (HV.out.move (.of_below J) (fun b _ h=>aW b (Q7 cD h))))
   clear J aJ aA aW
   try dsimp only
   refine M.out _ _ Z.out (fun D=>?_)
   clear M K
   refine rdD 16 (fun K M=>?_) Qh
   refine Xr (r:=Zc) Of Jv Oe (.tmp 96) (.tmp 110) 40 Oe 48 i0 (.agg zV) 80 underlying40 HJ.out dE.out dF.out dG.out rfl Oa (fun b=>w+3<=b/\some b≠(Value.slice aB (k+1) L).ownBlock) (w+3) we (.slice kp k G) kids cY Oe bE.out (.slice (some ⟨w5,0,none⟩) 1 1) [v] Oe bF.out (k+1) (by rw [aP.out];rfl) Oa Oa ?_
   intro p7 aM css7 w7 bP aD
   have U:∀ b,b=w.heap.size\/b=w.heap.size+2->b<we.heap.size/\some b≠(Value.slice kp k G).ownBlock:=fun b hb=>⟨Oa,fun e=>by have:=(aR.out.row.lt _ e.symm).1;omega⟩
   have cL:=Qq (show (fun (W:World)=>W.heap[w.heap.size]?=some (.cells #[.int .i64 5,Oo,On,Ol xb O m k3,Ol yb T m k4] 65 (0,0))/\Below w w W) w7 from ⟨(aD.other _ (U _ (.inl rfl)).1 (U _ (.inl rfl)).2).trans Z.out.1,Z.out.2.trans (aD.below.mono Oa)⟩)
   have h7:=(aD.other _ (U _ (.inr rfl)).1 (U _ (.inr rfl)).2).trans aC.out
   have y4:=Qk _ _ 4 _ _ _ h7;have f4:=fA 4 h7
   simp only [Qa,Qb,Qc] at y4
   have cK:=Qq bP;have cH:=Qq aD
   clear bP aD U h7
   try dsimp only
   refine M.out _ _ cL.out (fun D=>?_)
   clear M K
   refine tkD (v:=?_) 17 (fun V I=>?_) ?_;rotate_left
   ·(obtain ⟨a4,e0,e1,e2,e3,e4⟩:=HD.out V I;go_simp;try with_reducible rfl)
   refine rdD 18 (fun K M=>?_) Qh
   go_simp
   generalize bQ:World.setCell w7 _ _=w8
   have Y:(kids++[v]).length=k+1:=by rw [Qe,aP.out];rfl
   have aH:Xx w W1 (ns.take (k+1)) aB L (kids++[v]) p7 aM w8:=bO.out.putKid aF.out (css7:=css7) (by rw [Y,cG.out];exact cK.out) (by rw [Y,aP.out];exact cH.out) (by rw [Y];exact bQ)
   have cI:=Qq aH
   refine M.out _ _ ⟨(aH.low w Oa).trans bU.out,aH.below⟩ (fun D=>?_)
   clear M K y4 f4 aH bQ Y
   refine wpAnyH_done Og ?_ _
   go_wp2_with fail
   go_roundw
   case measure=>simp [intOf];omega
   case rel=>
    have e:ts.take (k+1)=ts.take k++[y]:=by rw [List.take_add_one,HY.out];rfl
    exact ⟨k+1,aB,L,kids++[v],p7,aM,Oa,by go_num,cI.out,e ▸ U9 cA.out cB.out⟩
  refine rcD (fun K M=>?_) Qh
  go_simp
  generalize aA:World.alloc w5 _=we
  have J:=Zp aA
  have aJ:=Y5 aA
  have cS:=bV.out.size
  have Z:=Qq (show (fun (W:World)=>W.heap[w.heap.size]?=some (.cells #[.int .i64 5,Oo,On,Ol xb O m k3,Ol yb T m k4] 65 (0,0))/\Below w w W) we from ⟨kE J Oa aG.out.1,aG.out.2.thn J⟩)
  have aF:=Qq (bV.out.thn J)
  have cX:=aF.out.size
  have bE:=Qq (aR.out.below J)
  have aC:=Qq (kE J Oa bM.out)
  have aW:∀ b,ws.heap.size<=b->(But (fun b=>w.heap.size+3<=b/\some b≠(Value.slice aB (k+1) L).ownBlock) (.slice kp k G)) b:=fun b hb=>⟨⟨Oa,fun e=>by have:=cJ.out b e.symm;omega⟩,fun e=>by have:=cF.out b e.symm;omega⟩
  have bF:=Qq (Ht (S:=But (fun b=>w+3<=b/\some b≠(Value.slice aB (k+1) L).ownBlock) (.slice kp k G)) aJ (aW _ cS) (HV.out.move (.of_below J) (fun b _ h=>aW b (Q7 cD h))))
  clear J aJ aA aW
  try dsimp only
  refine M.out _ _ Z.out (fun D=>?_)
  clear M K
  refine rdD 1 (fun K M=>?_) Qh
  have h7:=aC.out
  have c4:=rA4 h7
  clear h7
  go_simp
  try dsimp only
  refine M.out _ _ Z.out (fun D=>?_)
  clear M K
  refine rdD 16 (fun K M=>?_) Qh
  refine Xr (r:=Zc) Of Jv Oe (.tmp 96) (.tmp 110) 40 Oe 48 i0 (.agg zV) 80 underlying40 HJ.out dE.out dF.out dG.out rfl Oa (fun b=>w+3<=b/\some b≠(Value.slice aB (k+1) L).ownBlock) (w+3) we (.slice kp k G) kids cY Oe bE.out (.slice (some ⟨w5,0,none⟩) 1 1) [v] Oe bF.out (k+1) (by rw [aP.out];rfl) Oa Oa ?_
  intro p7 aM css7 w7 bP aD
  have U:∀ b,b=w.heap.size\/b=w.heap.size+2->b<we.heap.size/\some b≠(Value.slice kp k G).ownBlock:=fun b hb=>⟨Oa,fun e=>by have:=(aR.out.row.lt _ e.symm).1;omega⟩
  have cL:=Qq (show (fun (W:World)=>W.heap[w.heap.size]?=some (.cells #[.int .i64 5,Oo,On,Ol xb O m k3,Ol yb T m k4] 65 (0,0))/\Below w w W) w7 from ⟨(aD.other _ (U _ (.inl rfl)).1 (U _ (.inl rfl)).2).trans Z.out.1,Z.out.2.trans (aD.below.mono Oa)⟩)
  have h7:=(aD.other _ (U _ (.inr rfl)).1 (U _ (.inr rfl)).2).trans aC.out
  have y4:=Qk _ _ 4 _ _ _ h7;have f4:=fA 4 h7
  simp only [Qa,Qb,Qc] at y4
  have cK:=Qq bP;have cH:=Qq aD
  clear bP aD U h7
  try dsimp only
  refine M.out _ _ cL.out (fun D=>?_)
  clear M K
  refine tkD (v:=?_) 17 (fun V I=>?_) ?_;rotate_left
  ·(obtain ⟨a4,e0,e1,e2,e3,e4⟩:=HD.out V I;go_simp;try with_reducible rfl)
  refine rdD 18 (fun K M=>?_) Qh
  go_simp
  generalize bQ:World.setCell w7 _ _=w8
  have Y:(kids++[v]).length=k+1:=by rw [Qe,aP.out];rfl
  have aH:Xx w W1 (ns.take (k+1)) aB L (kids++[v]) p7 aM w8:=bO.out.putKid aF.out (css7:=css7) (by rw [Y,cG.out];exact cK.out) (by rw [Y,aP.out];exact cH.out) (by rw [Y];exact bQ)
  have cI:=Qq aH
  refine M.out _ _ ⟨(aH.low w Oa).trans bU.out,aH.below⟩ (fun D=>?_)
  clear M K y4 f4 aH bQ Y
  refine wpAnyH_done Og ?_ _
  go_wp2_with fail
  go_roundw
  case measure=>simp [intOf];omega
  case rel=>
   have e:ts.take (k+1)=ts.take k++[y]:=by rw [List.take_add_one,HY.out];rfl
   exact ⟨k+1,aB,L,kids++[v],p7,aM,Oa,by go_num,cI.out,e ▸ U9 cA.out cB.out⟩
 have hq:¬ (k:Int)<(m:Int):=Oa
 have bR:=(HM.out.low (w+1) Oa).trans fL.out
 have v0:=rA0 aX;have v1:=rA1 aX;have v2:=rA2 aX;have v3:=rA3 aX;have v4:=rA4 aX;have y0:=rA0 bR;have y1:=rA1 bR;have y2:=rA2 bR;have y3:=rA3 bR;have y4:=rA4 bR
 obtain ⟨f0,f1,f2,f3,f4⟩:=frz5 bR
 have fM:=Qq bR
 clear aX bR
 go_wp2_with fail
 have eI:k=m:=Oa
 show bodyPost _ _ _ _ _ (Zn wr (w+1) (.int .i64 4) On Oo (.slice np k N) (.slice kp k G))
 obtain ⟨dS,hN⟩:=HM.out.names
 obtain ⟨cY,dM⟩:=HM.out.vals
 have hb:=HM.out.below
 have cR:=bN.out;have bS:=aP.out
 rw [cR] at hN dM
 rw [bS] at dM
 have e1:ns.take k=ns:=Qp (by rw [bW.out];omega)
 have e2:ts.take k=ts:=Qp (by rw [dI.out];omega)
 have hA:=cA.out
 rw [e1] at hN
 rw [e2] at hA
 have e3:vcs (.mk 4 0 [] ns kids) np N kp G=[.int .i64 4,.int .i64 0,.string ⟨#[]⟩,.slice np k N,.slice kp k G]:=by rw [M2,bW.out,bS,eI]
 refine Q2 (v:=.agg #[.int .i64 4,On,Oo,.slice np k N,.slice kp k G]) (by simp [results,results21,go_sem,Z8 fM.out]) rfl ⟨kids,np,N,kp,G,by rw [e3],hA,?_,Z7 hb Oa⟩
 have fR:(Value.slice np k N)=.slice np ns.length N:=by rw [bW.out,eI]
 have fS:(Value.slice kp k G)=.slice kp kids.length G:=by rw [bS]
 have fP:ns.length<=1000000:=by rw [bW.out];omega
 have s1:Sl Zi (fun b=>w+3<=b) wr (.slice np k N) ns:=hN.sl fP (fun b hb=>hb) (fun b _ h=>h.elim)
 have s2:Sl Zc (fun b=>w+3<=b) wr (.slice kp k G) kids:=dM.sl (by rw [bS];omega) (fun b hb=>hb) (fun b _ h=>h.1)
 have s3:Sl Zi (fun b=>w<=b) (Zn wr (w+1) (.int .i64 4) On Oo (.slice np k N) (.slice kp k G)) (.slice np k N) ns:=(s1.frame (fun b hb _=>Za (by have:w.heap.size+3<=b:=hb;omega))).mono (fun b _ hb=>by have:w.heap.size+3<=b:=hb;show w<=b;omega)
 have s4:Sl Zc (fun b=>w<=b) (Zn wr (w+1) (.int .i64 4) On Oo (.slice np k N) (.slice kp k G)) (.slice kp k G) kids:=(s2.frame (fun b hb _=>Za (by have:w.heap.size+3<=b:=hb;omega))).mono (fun b _ hb=>by have:w.heap.size+3<=b:=hb;show w<=b;omega)
 rw [M2]
 exact Zu (s:=[]) Od (fR ▸ s3) (fS ▸ s4)
end Go.Proofs.YtlanplhphiikjaaGreatDoor
