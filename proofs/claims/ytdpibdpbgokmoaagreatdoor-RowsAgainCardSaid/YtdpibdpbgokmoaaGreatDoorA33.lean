import Derived.Test.YtdpibdpbgokmoaaGreatDoorA31
set_option maxRecDepth 100000
set_option maxHeartbeats 400000000
namespace Go.Proofs.YtdpibdpbgokmoaaGreatDoor
open Go.RowKit Go.Shelf Go.Lib Tryz
theorem O8 (w:World) (g o:Nat) (vs:List Value) (cur:Array Value) (t:TypeId) (hg:w.heap[g]?=some (.cells cur t (0,0))) (hfit:o+vs.length<=cur.size) (h1:∀ v ∈ vs,v.oneCell'=true):
  w.setCells g o vs=w.setRow g (cur.toList.take o++vs++cur.toList.drop (o+vs.length)).toArray:=by
 have ha:=run_storeCells_at prog g o t vs 0 cur w hg (by simpa using hfit) h1
 have hb:=run_storeCells_cells (P:=prog) g o vs 0 w (λj hj=>by rw [Qk _ _ _ _ _ _ hg,Array.getElem?_eq_getElem Ia];rfl) (λj hj=>Qn _ _ _ _ _ hg) h1
 rw [ha] at hb
 simp only [Nat.add_zero] at hb
 injection hb with _ h
 exact h.symm
def zc5:Array Value:=zV
theorem zc5_one (n:Nat):∀ v ∈ (Builtin.zeroCells zc5 n).toList,v.oneCell'=true:=by
 intro v hv
 simp only [Builtin.zeroCells,Array.toList_map,List.mem_map] at hv
 obtain ⟨i,_,rfl⟩:=hv
 have h:i % zc5.size<5:=Nat.mod_lt _ Ih
 generalize i % zc5.size=j at h
 rcases (by omega:j=0\/j=1\/j=2\/j=3\/j=4) with h | h | h | h | h <;> subst h <;> rfl
theorem O1 (n:Nat):(Builtin.zeroCells zc5 n).toList.length=n*5:=by simp [Builtin.zeroCells];rfl
theorem Hr (w:World) (ty:TypeId) (g o m c:Nat) (cur:Array Value) (t:TypeId) (hm:0<m) (hg:w.heap[g]?=some (.cells cur t (0,0))) (hfit:o+m*5<=cur.size):
  (Builtin.clear_ #[34] ty #[Io g o m c]).run prog w=.ok (.tuple #[]) (w.setRow g (cur.toList.take o++(Builtin.zeroCells zc5 m).toList++cur.toList.drop (o+m*5)).toArray):=by
 obtain ⟨i0,j1,j2,j3,j4⟩:=Y8 (P:=prog) (t:=36) (z:=.agg zV) (n:=5) (b:=80) Ir
 have hv:∀ w,(zeroValue 36).run prog w=.ok (.agg zc5) w:=λw=>by simp [zeroValue,typeInfo,j1,j2];rfl
 have A:=run_storeCells_at prog g o t (Builtin.zeroCells zc5 m).toList 0 cur w hg (by rw [O1];simpa using hfit) (zc5_one m)
 simp only [Nat.add_zero,O1] at A
 obtain ⟨k,rfl⟩:∃ k,m=k+1:=⟨m - 1,Ia⟩
 simp [Builtin.clear_,run_underlying underlying34,hv,A,Value.cells]
def Ug (p:Val->Bool) (css:List (List Value)) (xs:List Val) (k:Nat):List (List Value):=(((css.zip xs).take k).filter (λq=>!p q.2)).map (·.1)
theorem Ku (p:Val->Bool) {css:List (List Value)} {xs:List Val} {k:Nat} {c:List Value} {x:Val} (hc:css[k]?=some c) (hx:xs[k]?=some x):Ug p css xs (k+1)=Ug p css xs k++(if p x then [] else [c]):=by
 have hz:(css.zip xs)[k]?=some (c,x):=by rw [List.getElem?_zip_eq_some];exact ⟨hc,hx⟩
 have ht:(css.zip xs).take (k+1)=(css.zip xs).take k++[(c,x)]:=by rw [List.take_add_one,hz];rfl
 unfold Ug
 rw [ht,List.filter_append,List.map_append]
 congr 1
 cases hp:p x <;> simp [hp]
theorem Ca (p:Val->Bool) {css:List (List Value)} {xs:List Val} {S:Nat->Prop} {w:World} (h:Cs Zc S w css xs) (k:Nat):Cs Zc S w (Ug p css xs k) ((xs.take k).filter (λx=>!p x)):=by
 induction k with
 | zero=>exact ⟨by simp [Ug],λi c x A _=>by simp [Ug] at A⟩
 | succ k ih=>
  by_cases hk:k<xs.length
  ·have D:=Qx hk
   have A:=Qx (l:=css) (i:=k) (by rw [h.len];exact hk)
   rw [Ku p A D,List.take_add_one,D,List.filter_append]
   refine ih.app ?_
   cases hp:p xs[k]
   ·simp [hp];exact Cs.one (h.R k _ _ A D)
   simp [hp];exact Cs.nil _ _ _
  have e1:Ug p css xs (k+1)=Ug p css xs k:=by unfold Ug;rw [Zj (by simp [h.len];omega),Zj (by simp [h.len];omega)]
  rw [e1,Zj Ia]
  rw [Zj Ia] at ih
  exact ih
def RecAt (names:List Bs) (vals:List Val) (v:Val):Prop:=∀ (S S':Nat->Prop) (nv vv:Value) (w:World),Xs w->Sl Zh S w nv names->Sl Zc S' w vv vals ->
 Calls prog 136 #[nv,vv] w λe w'=>∃ cs',e=.returned (.tuple #[.agg cs'.toArray,Ic])/\Z9 (λb=>w<=b) w' cs' v/\Below w w w'
theorem ev_rec (nm:Bs) (n:Int) (s:Bs) (names binds:List Bs) (kids:List Ex) (a z:Int) (env:List (Bs × Val)) (f:Ex->Option Val) (vals:List Val) (v:Val) (hev:∀ e ∈ kids,EvO e env (f e)) (hL:J2 f kids=some vals) (hrec:RecAt names vals v):EvO (.mk 6 nm n s names binds kids a z) env (some v):=by
 have aZ:=Qq hrec
 clear hrec
 intro S0 S' cs p w bQ cF cD cC
 have bJ:=Qq cF
 clear cF
 have he:Xy (λb=>S0 b/\b<w) w p env:=cC.move (.refl _ _) (λb hb h=>⟨h,hb⟩)
 obtain ⟨nv,bv,kv,rfl,dA,dH,hn,hb,hk⟩:=Yy.1 cD
 obtain ⟨np,nc,rfl,_⟩:=hn.len
 obtain ⟨bp,bc,rfl,_⟩:=hb.len
 obtain ⟨kp,kc,rfl,cE⟩:=hk.len
 obtain ⟨q,rfl⟩:=he.ptr
 obtain ⟨HE,HK,bZ,cQ⟩:=It he hk hn hb
 obtain ⟨kl,aT⟩:=eX (kids.length)
 rw [aT] at HK cE
 have bY:=Qq aT
 clear cD he cC hn hb hk
 unfold sv
 rw [aT]
 clear aT
 go_enter func91,ntmps91
 go_upto_region 3 with fail
 generalize bC:((w.alloc _).alloc _).alloc _=w3
 have aX:=Iq bC (Xt _ _ _ _)
 have h0:=Ik (b:=w.heap.size) bC (Zp _ _ _ _)
 have h1:=Ik (b:=w.heap.size+1) bC (Zo _ _ _ _)
 have h2:=Ik (b:=w.heap.size+1+1) bC (Zi _ _ _ _)
 have dI:w.heap.size+1+1<w3.heap.size:=Z8 h2
 have c0:=AB h0;have c1:=AA h0;have c2:=AM h0;have c3:=AH h0;have c4:=Iz h0;have c5:=AY h0;have c6:=AK h0
 obtain ⟨H0,H1,H2,aV⟩:=It h0 h1 h2 aX
 have aM:=Qq (λW (hW:Below w3 w3 W)=>O7 (w+1) (λb=>S0 b/\b≠w+1+1) S' kp kc kids (.pointer q) env f W (by rw [bY.o];exact (HK.o.below aX).below hW) ((Qk _ _ 0 _ _ _ (kB hW h1)).trans rfl) (λb hb=>⟨bQ b (BC aX.size hW.size),by have:=hW.size;omega⟩) (bJ.o.below (aX.n hW)) ((HE.o.move (.f aX) Ij).move (.f hW) (λb _ h=>⟨h.1,by have:=h.2;omega⟩)) hev)
 rw [hL,bY.o] at aM
 have dF:kl<=1000000:=cE
 obtain ⟨cS,dD,aY⟩:=Im bQ dA (bZ.o.below aV.o)
 have dG:w.heap.size<w3.heap.size:=Ia
 clear h0 h1 h2 aX bC HE HK hev hL c1 c2 c3 c5 bZ cQ bQ
 go_wp2_with fail
 go_cut [8,9] (λt8 t9 wx=>Su w3 v (.int .i64 0) t8 t9 wx)
 case first=>
  clear c0 c4 c6
  have HD:=Qq (show ∀ W,(λW=>W.heap[w.heap.size]?=some (.cells #[.int .i64 6,nm,n,s,.slice np names.length nc,.slice bp binds.length bc,.slice kp kl kc,a,z] 46 (0,0))/\Below w w W) W->Ii W w 4 (.slice np names.length nc)/\Ii W w 6 (.slice kp kl kc) from λW h=>⟨(Qk _ _ 4 _ _ _ h.1).trans rfl,(Qk _ _ 6 _ _ _ h.1).trans rfl⟩)
  have V:=Qq (show ∀ W,Below w3 w3 W->(λW=>W.heap[w.heap.size]?=some (.cells #[.int .i64 6,nm,n,s,.slice np names.length nc,.slice bp binds.length bc,.slice kp kl kc,a,z] 46 (0,0))/\Below w w W) W from λW hb=>⟨kB hb H0.o,aV.o.n hb⟩)
  refine wp_region_held_drew (S:=λW=>W.heap[w.heap.size]?=some (.cells #[.int .i64 6,nm,n,s,.slice np names.length nc,.slice bp binds.length bc,.slice kp kl kc,a,z] 46 (0,0))/\Below w w W) Ir (V.o _ (Qz _ _).drew) (λD=>?_)
  refine In (v:=?_) 0 (λM A=>?_) ?_;rotate_left
  ·(obtain ⟨c4,c6⟩:=HD.o M A;go_simp;try with_reducible rfl)
  refine In (v:=?_) 1 (λM A=>?_) ?_;rotate_left
  ·(obtain ⟨c4,c6⟩:=HD.o M A;go_simp;try with_reducible rfl)
  refine In (v:=?_) 2 (λM A=>?_) ?_;rotate_left
  ·(obtain ⟨c4,c6⟩:=HD.o M A;go_simp;try with_reducible rfl)
  refine In (v:=?_) 3 (λM A=>?_) ?_;rotate_left
  ·(obtain ⟨c4,c6⟩:=HD.o M A;go_simp;try with_reducible rfl)
  refine In (v:=?_) 4 (λM A=>?_) ?_;rotate_left
  ·(obtain ⟨c4,c6⟩:=HD.o M A;go_simp;try with_reducible rfl)
  have aW:Hid (Below w3 w3 w3.drew):=Qq (Qz _ _).drew
  have dB:=aW.o.size
  generalize w3.drew=wd at D aW dB |-
  refine BH [5,10] ?_
  refine AZ (λK N=>?_) ?_
  ·go_simp
   refine (aM.o _ aW.o).mono ?_
   rintro e w5 ⟨p4,bA,cB,rfl,bB,bR,hb⟩
   have aJ:Hid (Sl Zc (λ_=>True) w5 (.slice p4 kl bA) vals):=Qq (by have h:=bB.sl (S':=λ_=>True) Ia (λ_ _=>trivial) (λ_ _ _=>trivial);exact h)
   clear bB bR aM
   have J:=Qq (aW.o.n hb)
   have cK:=J.o.size
   clear hb
   try dsimp only
   refine N.o _ _ (V.o _ J.o) (λD=>?_)
   clear N K
   refine BH [6,10] ?_
   refine AZ (λK N=>?_) ?_
   ·go_simp
    refine (aZ.o _ _ _ _ w5 (bJ.o.below (aV.o.n J.o)) (aY.o.below J.o) aJ.o).mono ?_
    rintro e Y ⟨cA,rfl,aD,hb⟩
    obtain ⟨q3,l3,q4,l4,aP,_⟩:=Z9.cells aD
    simp only [Il] at aP
    subst aP
    have HV:Hid (Z9 (λb=>w5<=b/\b<Y) Y (Il v q3 l3 q4 l4) v):=Qq (Z9.move aD (.refl _ _) (λb hb h=>⟨h,hb⟩))
    clear aD
    clear aJ
    have I:=Qq (J.o.n hb)
    have bO:=I.o.size
    clear hb
    try dsimp only
    refine N.o _ _ (V.o _ I.o) (λD=>?_)
    clear N K
    refine In (v:=?_) 7 (λM A=>?_) ?_;rotate_left
    ·(obtain ⟨c4,c6⟩:=HD.o M A;go_simp;try with_reducible rfl)
    refine In (v:=?_) 8 (λM A=>?_) ?_;rotate_left
    ·(obtain ⟨c4,c6⟩:=HD.o M A;go_simp;try with_reducible rfl)
    refine In (v:=?_) 9 (λM A=>?_) ?_;rotate_left
    ·(obtain ⟨c4,c6⟩:=HD.o M A;go_simp;try with_reducible rfl)
    refine AE 10 (λK N=>?_) Qo
    go_simp
    generalize Z:World.alloc Y _=wb
    have aI:=Iq Z (Zg _ _)
    have O:=Qq (I.o.n aI)
    have cG:=I.o.size
    have cJ:=O.o.size
    have U:Hid (wb.heap[Y.heap.size]?=some (.cells zV 36 (0,0))):=Qq (by rw [<- Z];exact Qw _ _)
    clear Z
    replace HV:=Qq (Z9.move HV.o (.f aI) Ij)
    clear aI
    try dsimp only
    refine N.o _ _ (V.o _ O.o) (λD=>?_)
    clear N K
    have aA:=U.o
    have fz:=λj=>Qn _ _ j _ _ aA
    obtain ⟨f0,f1,f2,f3,f4⟩:=Iw fz
    have rr:=λj=>Qk _ _ j _ _ _ aA
    obtain ⟨r0,r1,r2,r3,r4⟩:=Iw rr
    simp only [Qf,Qg,Qh] at r0 r1 r2 r3 r4
    clear fz rr
    refine AE 11 (λK N=>?_) Qo
    go_simp
    have cI:=O.o.size
    have T:Below w3 w3 (AI wb Y v q3 l3 q4 l4):=Zd O.o Ia
    have aB:(Zl wb Y v.kind v.n v.s (.slice q3 v.names.length l3) (.slice q4 v.kids.length l4)).heap[Y.heap.size]?=some (.cells (Is v q3 l3 q4 l4) 36 (0,0)):=Yd U.o
    have aC:∀ k,k≠Y.heap.size->(Zl wb Y v.kind v.n v.s (.slice q3 v.names.length l3) (.slice q4 v.kids.length l4)).heap[k]?=wb.heap[k]?:=λk hk=>Zf hk
    unfold Zl at T aB aC
    refine N.o _ _ (V.o _ T) (λD=>?_)
    refine In (v:=?_) 12 (λM A=>?_) ?_;rotate_left
    ·(obtain ⟨c4,c6⟩:=HD.o M A;go_simp;try with_reducible rfl)
    refine wpAnyH_done Ir ?_ _
    clear N K D f0 f1 f2 f3 f4 r0 r1 r2 r3 r4 aA
    generalize World.setCell _ _ _=w9 at T aB aC |-
    go_wp2_with fail
    go_meet
    exact ⟨Y.heap.size,q3,l3,q4,l4,rfl,rfl,aB,Z9.move HV.o (λb hb _=>aC b (by have:=hb.1;have:=hb.2;omega)) (λb _ hb=>⟨by have:=hb.1;omega,by have:=hb.1;have:=hb.2;omega⟩),T,Ia⟩
   refine AZ (λK N=>?_) ?_
   ·go_simp
    generalize Z:World.alloc w5 _=wb
    have aI:=Iq Z (Zg _ _)
    have O:=Qq (J.o.n aI)
    have cG:=J.o.size
    have cJ:=O.o.size
    have aO:Hid (wb.heap[w5.heap.size]?=some (.cells zV 36 (0,0))):=Qq (by rw [<- Z];exact Qw _ _)
    clear Z
    replace aJ:=Qq (aJ.o.below aI)
    clear aI
    try dsimp only
    refine N.o _ _ (V.o _ O.o) (λD=>?_)
    clear N K
    refine AE 6 (λK N=>?_) ?_
    ·go_simp
     refine (aZ.o _ _ _ _ wb (bJ.o.below (aV.o.n O.o)) (aY.o.below O.o) aJ.o).mono ?_
     rintro e Y ⟨cA,rfl,aD,hb⟩
     obtain ⟨q3,l3,q4,l4,aP,_⟩:=Z9.cells aD
     simp only [Il] at aP
     subst aP
     have HV:Hid (Z9 (λb=>wb<=b/\b<Y) Y (Il v q3 l3 q4 l4) v):=Qq (Z9.move aD (.refl _ _) (λb hb h=>⟨h,hb⟩))
     clear aD
     clear aJ
     have I:=Qq (O.o.n hb)
     have bO:=I.o.size
     have U:=Qq (kB hb aO.o)
     have cH:=Z8 aO.o
     clear hb
     try dsimp only
     refine N.o _ _ (V.o _ I.o) (λD=>?_)
     clear N K
     refine In (v:=?_) 7 (λM A=>?_) ?_;rotate_left
     ·(obtain ⟨c4,c6⟩:=HD.o M A;go_simp;try with_reducible rfl)
     refine In (v:=?_) 8 (λM A=>?_) ?_;rotate_left
     ·(obtain ⟨c4,c6⟩:=HD.o M A;go_simp;try with_reducible rfl)
     refine In (v:=?_) 9 (λM A=>?_) ?_;rotate_left
     ·(obtain ⟨c4,c6⟩:=HD.o M A;go_simp;try with_reducible rfl)
     have aA:=U.o
     have fz:=λj=>Qn _ _ j _ _ aA
     obtain ⟨f0,f1,f2,f3,f4⟩:=Iw fz
     have rr:=λj=>Qk _ _ j _ _ _ aA
     obtain ⟨r0,r1,r2,r3,r4⟩:=Iw rr
     simp only [Qf,Qg,Qh] at r0 r1 r2 r3 r4
     clear fz rr
     refine AE 11 (λK N=>?_) Qo
     go_simp
     have cI:=I.o.size
     have T:Below w3 w3 (AI Y w5 v q3 l3 q4 l4):=Zd I.o Ia
     have aB:(Zl Y w5 v.kind v.n v.s (.slice q3 v.names.length l3) (.slice q4 v.kids.length l4)).heap[w5.heap.size]?=some (.cells (Is v q3 l3 q4 l4) 36 (0,0)):=Yd U.o
     have aC:∀ k,k≠w5.heap.size->(Zl Y w5 v.kind v.n v.s (.slice q3 v.names.length l3) (.slice q4 v.kids.length l4)).heap[k]?=Y.heap[k]?:=λk hk=>Zf hk
     unfold Zl at T aB aC
     refine N.o _ _ (V.o _ T) (λD=>?_)
     refine In (v:=?_) 12 (λM A=>?_) ?_;rotate_left
     ·(obtain ⟨c4,c6⟩:=HD.o M A;go_simp;try with_reducible rfl)
     refine wpAnyH_done Ir ?_ _
     clear N K D f0 f1 f2 f3 f4 r0 r1 r2 r3 r4 aA
     generalize World.setCell _ _ _=w9 at T aB aC |-
     go_wp2_with fail
     go_meet
     exact ⟨w5.heap.size,q3,l3,q4,l4,rfl,rfl,aB,Z9.move HV.o (λb hb _=>aC b (by have:=hb.1;have:=hb.2;omega)) (λb _ hb=>⟨by have:=hb.1;omega,by have:=hb.1;have:=hb.2;omega⟩),T,Ia⟩
    exact Qo
   exact Qo
  refine AZ (λK N=>?_) ?_
  ·go_simp
   generalize Z:World.alloc wd _=wb
   have aI:=Iq Z (Zg _ _)
   have O:=Qq (aW.o.n aI)
   have cG:=aW.o.size
   have cJ:=O.o.size
   have bN:Hid (wb.heap[wd.heap.size]?=some (.cells zV 36 (0,0))):=Qq (by rw [<- Z];exact Qw _ _)
   clear Z
   clear aI
   try dsimp only
   refine N.o _ _ (V.o _ O.o) (λD=>?_)
   clear N K
   refine AE 5 (λK N=>?_) ?_
   ·go_simp
    refine (aM.o _ O.o).mono ?_
    rintro e w5 ⟨p4,bA,cB,rfl,bB,bR,hb⟩
    have aJ:Hid (Sl Zc (λ_=>True) w5 (.slice p4 kl bA) vals):=Qq (by have h:=bB.sl (S':=λ_=>True) Ia (λ_ _=>trivial) (λ_ _ _=>trivial);exact h)
    clear bB bR aM
    have J:=Qq (O.o.n hb)
    have cK:=J.o.size
    have aO:=Qq (kB hb bN.o)
    have cH:=Z8 bN.o
    clear hb
    try dsimp only
    refine N.o _ _ (V.o _ J.o) (λD=>?_)
    clear N K
    refine AE 6 (λK N=>?_) ?_
    ·go_simp
     refine (aZ.o _ _ _ _ w5 (bJ.o.below (aV.o.n J.o)) (aY.o.below J.o) aJ.o).mono ?_
     rintro e Y ⟨cA,rfl,aD,hb⟩
     obtain ⟨q3,l3,q4,l4,aP,_⟩:=Z9.cells aD
     simp only [Il] at aP
     subst aP
     have HV:Hid (Z9 (λb=>w5<=b/\b<Y) Y (Il v q3 l3 q4 l4) v):=Qq (Z9.move aD (.refl _ _) (λb hb h=>⟨h,hb⟩))
     clear aD
     clear aJ
     have I:=Qq (J.o.n hb)
     have bO:=I.o.size
     have U:=Qq (kB hb aO.o)
     have cH:=Z8 aO.o
     clear hb
     try dsimp only
     refine N.o _ _ (V.o _ I.o) (λD=>?_)
     clear N K
     refine In (v:=?_) 7 (λM A=>?_) ?_;rotate_left
     ·(obtain ⟨c4,c6⟩:=HD.o M A;go_simp;try with_reducible rfl)
     refine In (v:=?_) 8 (λM A=>?_) ?_;rotate_left
     ·(obtain ⟨c4,c6⟩:=HD.o M A;go_simp;try with_reducible rfl)
     refine In (v:=?_) 9 (λM A=>?_) ?_;rotate_left
     ·(obtain ⟨c4,c6⟩:=HD.o M A;go_simp;try with_reducible rfl)
     have aA:=U.o
     have fz:=λj=>Qn _ _ j _ _ aA
     obtain ⟨f0,f1,f2,f3,f4⟩:=Iw fz
     have rr:=λj=>Qk _ _ j _ _ _ aA
     obtain ⟨r0,r1,r2,r3,r4⟩:=Iw rr
     simp only [Qf,Qg,Qh] at r0 r1 r2 r3 r4
     clear fz rr
     refine AE 11 (λK N=>?_) Qo
     go_simp
     have cI:=I.o.size
     have T:Below w3 w3 (AI Y wd v q3 l3 q4 l4):=Zd I.o Ia
     have aB:(Zl Y wd v.kind v.n v.s (.slice q3 v.names.length l3) (.slice q4 v.kids.length l4)).heap[wd.heap.size]?=some (.cells (Is v q3 l3 q4 l4) 36 (0,0)):=Yd U.o
     have aC:∀ k,k≠wd.heap.size->(Zl Y wd v.kind v.n v.s (.slice q3 v.names.length l3) (.slice q4 v.kids.length l4)).heap[k]?=Y.heap[k]?:=λk hk=>Zf hk
     unfold Zl at T aB aC
     refine N.o _ _ (V.o _ T) (λD=>?_)
     refine In (v:=?_) 12 (λM A=>?_) ?_;rotate_left
     ·(obtain ⟨c4,c6⟩:=HD.o M A;go_simp;try with_reducible rfl)
     refine wpAnyH_done Ir ?_ _
     clear N K D f0 f1 f2 f3 f4 r0 r1 r2 r3 r4 aA
     generalize World.setCell _ _ _=w9 at T aB aC |-
     go_wp2_with fail
     go_meet
     exact ⟨wd.heap.size,q3,l3,q4,l4,rfl,rfl,aB,Z9.move HV.o (λb hb _=>aC b (by have:=hb.1;have:=hb.2;omega)) (λb _ hb=>⟨by have:=hb.1;omega,by have:=hb.1;have:=hb.2;omega⟩),T,Ia⟩
    exact Qo
   exact Qo
  exact Qo
 obtain ⟨G,q3,l3,q4,l4,rfl,rfl,hG,hV,hb,dE⟩:=hcut
 obtain ⟨w9,rfl⟩:∃ w9,w9=wc:=⟨_,rfl⟩
 have cT:=Qq hV;have cP:=Qq (aV.o.n hb)
 have bL:=kB hb H2.o
 have HR:=Qq bL
 have fz:=λj=>Qn _ _ j _ _ bL
 obtain ⟨f0,f1,f2,f3,f4⟩:=Iw fz
 have rr:=λj=>Qk _ _ j _ _ _ bL
 obtain ⟨r0,r1,r2,r3,r4⟩:=Iw rr
 simp only [Qf,Qg,Qh] at r0 r1 r2 r3 r4
 clear fz rr
 have fz:=λj=>Qn _ _ j _ _ hG
 obtain ⟨g0,g1,g2,g3,g4⟩:=Iw fz
 have rr:=λj=>Qk _ _ j _ _ _ hG
 obtain ⟨y0,y1,y2,y3,y4⟩:=Iw rr
 simp only [Qf,Qg,Qh] at y0 y1 y2 y3 y4
 clear fz rr
 clear bL hG hV hb
 have HM:=Qq Xf
 go_wp2_with (go_at_call 134;refine (HM.o _).mono ?_;rintro e w' ⟨rfl,rfl⟩)
 show bodyPost _ _ _ _ _ (AI w9 (w+1+1) v q3 l3 q4 l4)
 refine Q7 (v:=.agg (Is v q3 l3 q4 l4)) (by simp [results,results91,go_sem,Ze HR.o]) rfl ⟨_,rfl,?_,Zd cP.o Ia⟩
 exact Z9.move cT.o (λb hb _=>Zf (by have:=hb.1;omega)) (λb _ h=>cS.o b (by have:=h.1;omega))
def Kw (us:List Sm):Prop:=∀ u ∈ us,∀ c ∈ u.ctors,K8 c.arg/\Eu c.name
def Do (w:World) (e:Ending) (w':World):Prop:=∃ v p3 k3 p4 k4,e=.returned (.agg (Il v p3 k3 p4 k4).toArray)/\Y7 v/\v.kids.length<=1/\Z9 (λb=>w<=b) w' (Il v p3 k3 p4 k4) v/\Below w w w'
theorem Kv {w w':World} {k n:Int} {s:Bs} (hg:Y7 (.mk k n s [] [])) (hs:s.length<=1000000) (hb:Below w w w'):Do w (.returned (.agg #[k,n,s,Ie,Ie])) w':=
 ⟨.mk k n s [] [],none,0,none,0,rfl,hg,Q8 _,Yb hs (Sl.nil _ _ _) (Sl.nil _ _ _),hb⟩
theorem Bx (n:Int) (m:Int) (hn:0<=n) (hm:0<m):0<=n.tmod m/\n.tmod m<m:=by
 rw [Int.tmod_eq_emod_of_nonneg hn];exact ⟨Int.emod_nonneg _ Ia,Int.emod_lt_of_pos _ hm⟩
theorem Wk (s:Sc) (nm:Bs) (tn:Int) (names:List Bs) (kids:List Ty) (n:Int) (hn0:0<=n) (S0 S1:Nat->Prop) (cs ct:List Value) (w:World) (hs:Ve S0 w cs s) (ht:Xl S1 w ct (.mk 0 nm tn names kids)):
  Calls prog 66 #[cs,ct,n] w (Do w):=by
 obtain ⟨uv,tv,rfl,hu,O⟩:=hs
 obtain ⟨up,uc,rfl,_⟩:=hu.len
 obtain ⟨tp,tc,rfl,_⟩:=O.len
 obtain ⟨q3,l3,q4,l4,rfl,_⟩:=ht.cells'
 obtain ⟨m8,V⟩:=eX (n.tmod 8)
 have N:=Bx n 8 hn0 Ia
 rw [V] at N
 obtain ⟨Y,Z⟩:=N
 clear hu O ht
 go_enter func66,ntmps66
 go_upto_region 4 with fail
 generalize A:(((w.alloc _).alloc _).alloc _).alloc _=W1
 have M:=Iq A (Yj (Yj (Yj (Zg w _) _) _) _)
 have I:=Ik (b:=w.heap.size) A (Zb (Zb (Zb (Y6 rfl _) _) _) _)
 have J:=Ik (b:=w.heap.size+1) A (Zb (Zb (Y6 Ib _) _) _)
 have D:=Ik (b:=w.heap.size+1+1) A (Zb (Y6 Ib _) _)
 have G:=Ik (b:=w.heap.size+1+1+1) A (Y6 Ib _)
 obtain ⟨T,aB,aC,U,aA⟩:=AO M I J D G
 clear A M I J G
 obtain ⟨y0,y1,y2,y3,y4⟩:=If D
 obtain ⟨f0,f1,f2,f3,f4⟩:=Ip D
 clear D
 go_wp2_with fail
 show bodyPost _ _ _ _ _ (Zl W1 (w+1+1) Ic (.int .i64 (m8 - 2)) Ig Ie Ie)
 exact Q7 (v:=.agg #[Ic,.int .i64 (m8 - 2),Ig,Ie,Ie]) (by simp [results,results66,go_sem,Ze U.o]) rfl (Kv (s:=[]) (.int _ ⟨Ia,Ia⟩) Ib (Zd T.o Ia))
theorem Pl (s:Sc) (nm:Bs) (tn:Int) (names:List Bs) (kids:List Ty) (n:Int) (hn0:0<=n) (S0 S1:Nat->Prop) (cs ct:List Value) (w:World) (hs:Ve S0 w cs s) (ht:Xl S1 w ct (.mk 2 nm tn names kids)):
  Calls prog 66 #[cs,ct,n] w (Do w):=by
 obtain ⟨uv,tv,rfl,hu,O⟩:=hs
 obtain ⟨up,uc,rfl,_⟩:=hu.len
 obtain ⟨tp,tc,rfl,_⟩:=O.len
 obtain ⟨q3,l3,q4,l4,rfl,_⟩:=ht.cells'
 obtain ⟨m8,V⟩:=eX (n.tmod 2)
 have N:=Bx n 2 hn0 Ia
 rw [V] at N
 obtain ⟨Y,Z⟩:=N
 clear hu O ht
 go_enter func66,ntmps66
 go_upto_region 8 with fail
 generalize A:(((w.alloc _).alloc _).alloc _).alloc _=W1
 have M:=Iq A (Yj (Yj (Yj (Zg w _) _) _) _)
 have I:=Ik (b:=w.heap.size) A (Zb (Zb (Zb (Y6 rfl _) _) _) _)
 have J:=Ik (b:=w.heap.size+1) A (Zb (Zb (Y6 Ib _) _) _)
 have D:=Ik (b:=w.heap.size+1+1) A (Zb (Y6 Ib _) _)
 have G:=Ik (b:=w.heap.size+1+1+1) A (Y6 Ib _)
 obtain ⟨T,aB,aC,U,aA⟩:=AO M I J D G
 clear A M I J G
 obtain ⟨y0,y1,y2,y3,y4⟩:=If D
 obtain ⟨f0,f1,f2,f3,f4⟩:=Ip D
 clear D
 go_wp2_with fail
 show bodyPost _ _ _ _ _ (Zl W1 (w+1+1) (.int .i64 2) m8 Ig Ie Ie)
 exact Q7 (v:=.agg #[.int .i64 2,m8,Ig,Ie,Ie]) (by simp [results,results66,go_sem,Ze U.o]) rfl (Kv (s:=[]) (.bool _ Ia) Ib (Zd T.o Ia))
theorem Rx (s:Sc) (nm:Bs) (tn:Int) (names:List Bs) (kids:List Ty) (n:Int) (hn0:0<=n) (S0 S1:Nat->Prop) (cs ct:List Value) (w:World) (hs:Ve S0 w cs s) (ht:Xl S1 w ct (.mk 1 nm tn names kids)):
  Calls prog 66 #[cs,ct,n] w (Do w):=by
 obtain ⟨uv,tv,rfl,hu,O⟩:=hs
 obtain ⟨up,uc,rfl,_⟩:=hu.len
 obtain ⟨tp,tc,rfl,_⟩:=O.len
 obtain ⟨q3,l3,q4,l4,rfl,_⟩:=ht.cells'
 obtain ⟨m8,V⟩:=eX (n.tmod 5)
 have N:=Bx n 5 hn0 Ia
 rw [V] at N
 obtain ⟨Z,aA⟩:=N
 clear hu O ht
 go_enter func66,ntmps66
 go_upto_region 6 with fail
 generalize A:(((w.alloc _).alloc _).alloc _).alloc _=W1
 have M:=Iq A (Yj (Yj (Yj (Zg w _) _) _) _)
 have I:=Ik (b:=w.heap.size) A (Zb (Zb (Zb (Y6 rfl _) _) _) _)
 have J:=Ik (b:=w.heap.size+1) A (Zb (Zb (Y6 Ib _) _) _)
 have D:=Ik (b:=w.heap.size+1+1) A (Zb (Y6 Ib _) _)
 have G:=Ik (b:=w.heap.size+1+1+1) A (Y6 Ib _)
 obtain ⟨T,aC,aD,U,aB⟩:=AO M I J D G
 clear A M I J
 obtain ⟨y0,y1,y2,y3,y4⟩:=If D
 obtain ⟨f0,f1,f2,f3,f4⟩:=Ip D
 clear D
 obtain ⟨j,rfl⟩:∃ j:Nat,m8=(j:Int):=⟨m8.toNat,Ia⟩
 obtain ⟨x,hx,Y⟩:∃ x:Bs,Ii W1 (w+1+1+1) (0+j) x/\x.length<=1000000:=by
  have hj:j<5:=Ia
  rw [Qk _ _ _ _ _ _ G]
  match j,hj with
  | 0,_=>exact ⟨[],rfl,Ib⟩
  | 1,_=>exact ⟨[97],rfl,Ib⟩
  | 2,_=>exact ⟨[98],rfl,Ib⟩
  | 3,_=>exact ⟨[97,98],rfl,Ib⟩
  | 4,_=>exact ⟨[195,169],rfl,Ib⟩
 rw [Nat.zero_add] at hx
 clear G
 go_wp2_with fail
 show bodyPost _ _ _ _ _ (Zl W1 (w+1+1) (.int .i64 1) Ic x Ie Ie)
 exact Q7 (v:=.agg #[.int .i64 1,Ic,x,Ie,Ie]) (by simp [results,results66,go_sem,Ze U.o]) rfl (Kv (.text x) Y (Zd T.o Ia))
theorem Eo (s:Sc) (t:Ty) (hl:K8 t) (n:Int) (hn0:0<=n) (S0 S1:Nat->Prop) (cs ct:List Value) (w:World) (hs:Ve S0 w cs s) (ht:Xl S1 w ct t):
  Calls prog 66 #[cs,ct,n] w (Do w):=by
 obtain ⟨k,nm,A,names,kids⟩:=t
 rcases hl with h | h | h
 all_goals cases (show k=_ from h)
 ·exact Wk s nm A names kids n hn0 S0 S1 cs ct w hs ht
 ·exact Rx s nm A names kids n hn0 S0 S1 cs ct w hs ht
 exact Pl s nm A names kids n hn0 S0 S1 cs ct w hs ht
def put7 (W:World) (R:Nat) (a0 a1 a2 a3 a4 a5 a6:Value):World:=(((((((W.setCell ⟨R,0,none⟩ a0).setCell ⟨R,1,none⟩ a1).setCell ⟨R,2,none⟩ a2).setCell ⟨R,3,none⟩ a3).setCell ⟨R,4,none⟩ a4).setCell ⟨R,5,none⟩ a5).setCell ⟨R,6,none⟩ a6)
theorem Tf {B R:Nat} {w W:World} {a0 a1 a2 a3 a4 a5 a6:Value} (h:Below B w W) (hR:B<=R):Below B w (put7 W R a0 a1 a2 a3 a4 a5 a6):=
 ((((((h.setCell (p:=⟨R,0,none⟩) hR _).setCell (p:=⟨R,1,none⟩) hR _).setCell (p:=⟨R,2,none⟩) hR _).setCell (p:=⟨R,3,none⟩) hR _).setCell (p:=⟨R,4,none⟩) hR _).setCell (p:=⟨R,5,none⟩) hR _).setCell (p:=⟨R,6,none⟩) hR _
theorem E9 {w w':World} {nm:Bs} {kids:List Val} {p:Option Addr} {c:Nat} (hc:Eu nm) (hl:kids.length<=1) (hk:∀ x ∈ kids,Y7 x) (hs:nm.length<=1000000) (hv:Sl Zc (λb=>w<=b) w' (.slice p kids.length c) kids) (hb:Below w w w'):Do w (.returned (.agg #[.int .i64 3,Ic,nm,Ie,.slice p kids.length c])) w':=
 ⟨.mk 3 0 nm [] kids,none,0,p,c,rfl,.make nm kids hc hl hk,hl,Yb hs (Sl.nil _ _ _) hv,hb⟩
theorem Tn (s:Sc) (hsg:Kw s.sums) (nm:Bs) (tn:Int) (names:List Bs) (kids:List Ty) (n:Int) (hn0:0<=n) (hn1:n<=1000000) (S0 S1:Nat->Prop) (cs ct:List Value) (w:World) (hs:Ve S0 w cs s) (ht:Xl S1 w ct (.mk 3 nm tn names kids)):
  Calls prog 66 #[cs,ct,n] w (Do w):=by
 have bO:=Qq hs
 obtain ⟨uv,tv,rfl,hu,cR⟩:=hs
 obtain ⟨up,uc,rfl,_⟩:=hu.len
 obtain ⟨tp,tc,rfl,_⟩:=cR.len
 obtain ⟨q3,l3,q4,l4,rfl,_⟩:=ht.cells'
 obtain ⟨m,hm⟩:=eX (s.sums.length)
 rw [hm] at hu bO |-
 have fG:m<=1000000:=by obtain ⟨_,_,_,h⟩:=hu.len;omega
 obtain ⟨HU,HM,HG⟩:=Im hu hm hsg
 have cP:0<=n.tdiv 7/\n.tdiv 7<=1000000:=by
  rw [Int.tdiv_eq_ediv_of_nonneg hn0];omega
 obtain ⟨q7,eE⟩:=eX (n.tdiv 7)
 rw [eE] at cP
 obtain ⟨cQ,eT⟩:=cP
 clear hu cR ht hm hsg
 go_enter func66,ntmps66
 go_wp2_with fail
 generalize T:(((w.alloc _).alloc _).alloc _).alloc _=W1
 have cG:=Iq T (Yj (Yj (Yj (Zg w _) _) _) _)
 have cC:=Ik (b:=w.heap.size) T (Zb (Zb (Zb (Y6 rfl _) _) _) _)
 have cD:=Ik (b:=w.heap.size+1) T (Zb (Zb (Y6 Ib _) _) _)
 have cE:=Ik (b:=w.heap.size+1+1) T (Zb (Y6 Ib _) _)
 have cB:=Ik (b:=w.heap.size+1+1+1) T (Y6 Ib _)
 obtain ⟨dA,bN,dG,aD,eV⟩:=AO cG cC cD cE cB
 clear T cG cC cD cB cE
 go_loopw [8,9,10] (λt8 _ _ wr=>∃ k:Nat,k<=m/\t8=.int .i64 k/\Aside (Below W1 W1 wr)) (λt8 _ _ _=>m - (intOf t8).toNat)
 case atStart=>exact ⟨0,Q8 _,rfl,Qz _ _⟩
 obtain ⟨k,hk,rfl,cA⟩:=hrel
 have O:=Qq (show Below W1 W1 wr from cA)
 have aV:=Qq (dA.o.n O.o)
 clear cA
 have bH:=Z8 aD.o
 have bB:=kB O.o bN.o
 have bC:=kB O.o dG.o
 have cF:=kE O.o bH aD.o
 obtain ⟨aW,V,eW⟩:=Im cF bB bC
 have c0:=AB bB;have b1:=AA bC
 clear bB bC cF
 by_cases hlt2:k<m
 ·have fE:(0:Int)<=(k:Int):=Ia
  have fF:(k:Int)<(m:Int):=Ia
  obtain ⟨u,hu⟩:∃ u,s.sums[k]?=some u:=⟨_,Qx (by rw [HM.o];exact hlt2)⟩
  obtain ⟨ub,aO,fM,eG,fI,_,_,eF,bF⟩:=(HU.o.below aV.o).elem hu
  subst eG
  obtain ⟨eZ,cS,fH,bG⟩:=eF
  subst cS
  obtain ⟨cp,cc,aN,dV⟩:=bG.len
  obtain ⟨p,hp⟩:=eX (u.ctors.length)
  rw [hp] at aN dV
  subst aN
  have d0:=bF 0 _ rfl;have d1:=bF 1 _ rfl
  rw [show J3.k=2 from rfl] at d0 d1
  rw [Nat.add_zero] at d0
  unfold sv at d0
  obtain ⟨dC,HP,dE⟩:=Im bG hp (HG.o u (Qy hu))
  clear hu bF bG hp
  by_cases he:u.name=nm
  ·have hq:(u.name==nm)=true:=by rw [he];simp
   clear he
   by_cases hp0:p=0
   ·have hg:¬ (0:Int)<(p:Int):=Ia
    go_upto_region 12 with fail
    go_quiet (fail)
    go_wp2_with fail
    go_roundw
    case measure=>simp [intOf];omega
    case rel=>exact ⟨k+1,Ia,by go_num,O.o.n (Yz _ _)⟩
   have hg:(0:Int)<(p:Int):=Ia
   obtain ⟨m8,eB⟩:=eX (n.tmod (p:Int))
   have cI:=Bx n p hn0 hg
   rw [eB] at cI
   obtain ⟨eR,eS⟩:=cI
   obtain ⟨j,rfl⟩:∃ j:Nat,m8=(j:Int):=⟨m8.toNat,Ia⟩
   have dX:j<p:=Ia
   obtain ⟨c,hc⟩:∃ c,u.ctors[j]?=some c:=⟨_,Qx (by rw [HP.o];exact dX)⟩
   obtain ⟨cb,A,eY,dW,fD,_,_,⟨fL,cL,cM,aA⟩,D⟩:=dC.o.elem hc
   subst dW;subst cL
   obtain ⟨tk,ts,bJ,t3,n3,k3,t4,n4,k4,rfl⟩:=aA.cells
   have e0:=D 0 _ rfl;have e1:=D 1 _ rfl;have e2:=D 2 _ rfl;have e3:=D 3 _ rfl;have e4:=D 4 _ rfl;have e5:=D 5 _ rfl;have e6:=D 6 _ rfl
   rw [show Bn.k=7 from rfl] at e0 e1 e2 e3 e4 e5 e6
   rw [Nat.add_zero] at e0
   unfold sv at e0
   have dI:=Qq aA;have aT:=Qq (dE.o c (Qy hc))
   clear hc D aA
   go_upto_region 12 with fail
   go_quiet (fail)
   obtain ⟨U,bI⟩:=eX (wr.drewN nq)
   have bE:Below wr wr U:=by rw [<- bI];exact Yz _ _
   rw [bI]
   have aR:=Qq bE
   have I:∀ {b j:Nat} {x:Value},wr.cell? ⟨b,j,none⟩=some x->U.cell? ⟨b,j,none⟩=some x:=λhx=>kC bE hx
   have c0:=I c0;have d1:=I d1;have e0:=I e0;have e1:=I e1;have e2:=I e2;have e3:=I e3;have e4:=I e4;have e5:=I e5;have e6:=I e6
   clear I bI bE hq d0 b1
   go_upto_region 13 with fail
   refine let_mvar% ?Lq1:=λw':World=>Ii w' w 0 (Io ub aO m uc)/\Ii w' ub (aO+k*2+1) (Io cb A p cc)/\Ii w' cb (A+j*7) c.name/\Ii w' cb (A+j*7+1) (.bool c.has)/\Ii w' cb (A+j*7+2) tk/\Ii w' cb (A+j*7+3) (.string ts)/\Ii w' cb (A+j*7+4) bJ/\Ii w' cb (A+j*7+5) (.slice t3 n3 k3)/\Ii w' cb (A+j*7+6) (.slice t4 n4 k4)/\Below U U w';?_
   have HS:∀ w',Below U U w'->?Lq1 w':=by
    intro w' h
    have I:∀ {b j:Nat} {u:Value},U.cell? ⟨b,j,none⟩=some u->w'.cell? ⟨b,j,none⟩=some u:=λhc=>kC h hc
    exact ⟨I c0,I d1,I e0,I e1,I e2,I e3,I e4,I e5,I e6,h⟩
   obtain ⟨bM,V,aS,aL,aB,bP⟩:=Jg HS (λw' h=>h.2.2.2.2.2.2.2.2.2)
   have HP:=λw' x0 x1 x2 x3 x4 x5 x6 h=>bP.o (put7 w' U x0 x1 x2 x3 x4 x5 x6) (Tf (aL.o w' h) (Q9 _))
   unfold put7 at HP
   have bL:=Qq HP
   clear HS HP c0 d1 e0 e1 e2 e3 e4 e5 e6
   go_cut [9] from 33 to 89 (λt9 wx=>∃ G,t9=.pointer (some ⟨G,0,none⟩)/\wx.heap[G]?=some (.cells #[c.name,.bool c.has,tk,.string ts,bJ,.slice t3 n3 k3,.slice t4 n4 k4] 58 (0,0))/\Below U U wx/\U.heap.size<=G)
   case first=>
    go_region_held3 ?Lq1 (first | with_reducible exact bM.o | with_reducible exact aS.o _ (aB.o _ _ V.o) | with_reducible exact aB.o _ _ V.o | with_reducible exact bL.o _ _ _ _ _ _ _ _ (aS.o _ (aB.o _ _ V.o))) (fail)
    all_goals
     go_wp2_with fail
     go_meet
     exact ⟨U.heap.size,rfl,Qw _ _,(Zg _ _).drew,Q9 _⟩
   obtain ⟨G,rfl,hG,aG,fB⟩:=hcut
   have aC:=Qq (O.o.n (aR.o.n aG));have bR:=Qq (aV.o.n (aR.o.n aG))
   have dH:=Qq (dI.o.move (.f (aR.o.n aG)) Ij)
   have fC:=Z8 hG
   have HG:=Qq hG
   clear bM V aS aL aB bL bP aG
   have g0:=AB hG;have g1:=AA hG;have g2:=AM hG;have g3:=AH hG;have g4:=Iz hG;have g5:=AY hG;have g6:=AK hG
   clear hG
   have dZ:w.heap.size+1+1<wc.heap.size:=Ix aC.o.size
   cases hhas:c.has with
   | false=>
    rw [hhas] at g1
    go_upto_region 17 with fail
    generalize hV:wc.alloc _=V1
    have J:=Iq hV (Zg _ _)
    have hv:=Ik (b:=wc.heap.size) hV (Qw _ _)
    have aE:=kE (aC.o.n J) bH aD.o
    obtain ⟨v0,v1,v2,v3,v4⟩:=If hv
    obtain ⟨y0,y1,y2,y3,y4⟩:=If aE
    obtain ⟨f0,f1,f2,f3,f4⟩:=Ip aE
    have dO:=Qq aE;have aQ:=Qq (bR.o.n J)
    clear hV hv aE J g0 g1 g2 g3 g4 g5 g6
    go_wp2_with fail
    show bodyPost _ _ _ _ _ (Zl V1 (w+1+1) (.int .i64 3) Ic c.name Ie Ie)
    exact Q7 (v:=.agg #[.int .i64 3,Ic,c.name,Ie,Ie]) (by simp [results,results66,go_sem,Ze dO.o]) rfl (E9 (kids:=[]) aT.o.2 (Q8 _) (λx h=>by simp at h) cM (Sl.nil _ _ _) (Zd aQ.o Ia))
   | true=>
    rw [hhas] at g1
    have bA:=kB aC.o bN.o
    obtain ⟨s0,s1⟩:=AF bA
    have eP:=Qq bA
    clear bA
    go_upto_region 15 with fail
    generalize hV:wc.alloc _=V1
    have J:=Iq hV (Zg _ _)
    have hv:=Ik (b:=wc.heap.size) hV (Qw _ _)
    obtain ⟨aQ,bQ,aU⟩:=Im (aC.o.n J) (bR.o.n J) hv
    have dK:=Qq (Eo s c.arg aT.o.1 q7 cQ S0 _ _ [tk,.string ts,bJ,.slice t3 n3 k3,.slice t4 n4 k4] V1 (bO.o.below bQ.o) (dH.o.move (.f J) Ij))
    have M:∀ {b j:Nat} {x:Value},wc.cell? ⟨b,j,none⟩=some x->V1.cell? ⟨b,j,none⟩=some x:=λhx=>kC J hx
    have g1:=M g1;have g2:=M g2;have g3:=M g3;have g4:=M g4;have g5:=M g5;have g6:=M g6;have s0:=M s0;have s1:=M s1
    clear hV hv J M g0
    go_upto_region 17 with (go_at_call 66;refine dK.o.mono ?_;rintro e N ⟨v,r3,o3,r4,o4,rfl,cN,_,cU,aF⟩;unfold Il;have fJ:wc.heap.size<N.heap.size:=Qa (Z8 aU.o) aF.size;have aI:=kB aF aU.o;have v4:=Qk _ _ 4 _ _ _ aI;have dP:=fA 4 aI;simp only [Qf,Qg,Qh] at v4;obtain ⟨dJ,dL,dD,aP⟩:=It aI cU cN aF;clear aI cU cN aF)
    generalize Y:World.alloc _ _=W9
    have cJ:Below wc N (N.setCell ⟨wc,4,none⟩ (.slice (some ⟨N,0,none⟩) 1 1)):=(Qz _ _).setCell (p:=⟨wc,4,none⟩) (Q9 _) _
    have aK:(N.setCell ⟨wc,4,none⟩ (.slice (some ⟨N,0,none⟩) 1 1)).heap.size=N.heap.size:=Ib
    have fK:=aP.o.size
    have eQ:=Z8 aU.o
    have Z:Below wc N W9:=by rw [<- Y];exact cJ.alloc (by rw [aK];omega) _
    have cV:W9.heap[wc.heap.size]?=some (.cells #[.int .i64 3,Ic,c.name,Ie,Io N 0 1 1] 36 (0,0)):=by
     rw [<- Y]
     exact Zb (Qi _ _ 4 _ _ _ dJ.o) _
    have cO:W9.heap[N.heap.size]?=some (.cells (Is v r3 o3 r4 o4) 36 (0,0)):=by
     rw [<- Y]
     exact Y6 aK _
    have cH:Below w w W9:=(bQ.o.n aP.o).trans (Z.mono Ia)
    have aJ:W9.heap[w.heap.size+1+1]?=some (.cells zV 36 (0,0)):=kE Z dZ (((aQ.o.n aP.o).block _ bH).trans aD.o)
    have cW:Z9 (λb=>V1<=b/\b<N) W9 (Il v r3 o3 r4 o4) v:=(dL.o.move (S':=λb=>V1<=b/\b<N) (.refl _ _) (λb hb h=>⟨h,hb⟩)).move (λb hb dY=>by
     rw [<- Y,Below.heap_alloc _ _ _ (by rw [aK];exact dY),Za (show b≠wc from by have h1:V1.heap.size<=b:=hb.1;omega)]) Ij
    obtain ⟨v0,v1,v2,v3,v4⟩:=If cV
    obtain ⟨y0,y1,y2,y3,y4⟩:=If aJ
    obtain ⟨f0,f1,f2,f3,f4⟩:=Ip aJ
    obtain ⟨dM,dF,dB,dN⟩:=It cW cO cH aJ
    clear Y cV cO cH aJ cW Z dP cJ aK
    have eU:w.heap.size+1+1<N.heap.size:=Ia
    go_wp2_with fail
    show bodyPost _ _ _ _ _ (Zl W9 (w+1+1) (.int .i64 3) Ic c.name Ie (Io N 0 1 1))
    refine Q7 (v:=.agg #[.int .i64 3,Ic,c.name,Ie,Io N 0 1 1]) (by simp [results,results66,go_sem,Ze dN.o]) rfl (E9 (kids:=[v]) aT.o.2 Ib (λx h=>by simp only [Z3,Z2,or_false] at h;subst h;exact dD.o) cM ?_ (Zd dB.o Ia))
    exact Y4 (xs:=[v]) ((Zf Ia).trans dF.o) (by show w<=N.heap.size;omega) (Cs.one (r:=Zc) ((dM.o.move (λb hb _=>Zf (by have:=hb.1;omega)) (λb _ h=>by show w<=b;have:=h.1;omega)))) rfl rfl Ib
  have hq:(u.name==nm)=false:=by rw [<- Qt,beq_iff_eq];exact he
  clear he
  go_upto_region 12 with fail
  go_quiet (fail)
  go_wp2_with fail
  go_roundw
  case measure=>simp [intOf];omega
  case rel=>exact ⟨k+1,Ia,by go_num,O.o.n (Yz _ _)⟩
 have hq:¬ (k:Int)<(m:Int):=Ia
 obtain ⟨y0,y1,y2,y3,y4⟩:=If aW.o
 obtain ⟨f0,f1,f2,f3,f4⟩:=Ip aW.o
 go_wp2_with fail
 show bodyPost _ _ _ _ _ (Zl wr (w+1+1) Ic Ic Ig Ie Ie)
 exact Q7 (v:=.agg zV) (by simp [results,results66,go_sem,Ze aW.o]) rfl (Kv (s:=[]) (.int 0 Ih) Ib (Zd aV.o Ia))
theorem Wl (k:Int) (nm:Bs) (n:Int) (s:Bs) (names binds:List Bs) (kids:List Ex) (a z:Int) (d:Nat) (ih:∀ x ∈ kids,Xu d x) (hN:L1 k nm names binds kids.length) (q0:k≠0) (q1:k≠1) (q2:k≠2) (q3:k≠3) (q11:k≠11) (q12:k≠12) (q13:k≠13) (q14:k≠14):∀ (S:Nat->Prop) (ce:List Value) (nv vv:Value) (ns:List Bs) (vs:List Val) (w:World),Yx S w ce (.mk k nm n s names binds kids a z)->Sl Zh S w nv ns->Sl Zc S w vv vs->ns.length<=vs.length->vs.length+(d+1)<=1000->(∀ v ∈ vs,Y3 v) ->
  Calls prog 97 #[ce,nv,vv] w (X7 S w (Y0 (d+1) (.mk k nm n s names binds kids a z) ns vs)):=by
 intro S ce nv vv ns vs w D bU bX aS hd hb
 obtain ⟨r,hr⟩:=eX (Y0 (d+1) (.mk k nm n s names binds kids a z) ns vs)
 rw [hr]
 have HR:=Qq hr
 clear hr
 have hx:Yx (λb=>S b/\b<w) w ce (.mk k nm n s names binds kids a z):=D.move (.refl _ _) (λb hb h=>⟨h,hb⟩)
 have hn:=bU.up
 have hv:=bX.up
 obtain ⟨np,nc,rfl,_⟩:=hn.len
 obtain ⟨vp,vc,rfl,eZ⟩:=hv.len
 have dK:=Qq hx
 obtain ⟨fC,bv,kv,rfl,eV,eY,aY,aX,hk⟩:=Yy.1 hx
 obtain ⟨p1,c1,rfl,_⟩:=aY.len
 obtain ⟨p2,c2,rfl,_⟩:=aX.len
 obtain ⟨p3,c3,rfl,eS⟩:=hk.len
 obtain ⟨HN,HV,cU,eA,dZ,HK,HI,bA⟩:=AV hn hv hb aY aX hk ih aS
 clear D bU bX hx hn hv aY aX hk hb ih aS
 unfold sv at *
 have r0:(k==0)=false:=by rw [<- Qt,beq_iff_eq];exact q0
 have r1:(k==1)=false:=by rw [<- Qt,beq_iff_eq];exact q1
 have r2:(k==2)=false:=by rw [<- Qt,beq_iff_eq];exact q2
 have r3:(k==3)=false:=by rw [<- Qt,beq_iff_eq];exact q3
 have dT:(k==11)=false:=by rw [<- Qt,beq_iff_eq];exact q11
 have dU:(k==12)=false:=by rw [<- Qt,beq_iff_eq];exact q12
 have dV:(k==13)=false:=by rw [<- Qt,beq_iff_eq];exact q13
 have dW:(k==14)=false:=by rw [<- Qt,beq_iff_eq];exact q14
 have bB:=Qq (HR.o.symm.trans (Cl q0 q1 q2 q3 q11 q12 q13 q14))
 clear q0 q1 q2 q3 q11 q12 q13 q14
 obtain ⟨m,hm⟩:=eX (kids.length)
 have eU:m<=1000:=by rw [<- hm];exact hN.few
 have dD:=Qq hN
 rw [hm] at HK |-
 have HM:=Qq hm
 clear hm hN
 obtain ⟨i0,j1,j2,j3,j4⟩:=Y8 (P:=prog) (t:=36) (z:=.agg zV) (n:=5) (b:=80) Ir
 obtain ⟨HJ,cY,cZ,dA⟩:=It j1 j2 j3 j4
 clear j1 j2 j3 j4
 go_enter func97,ntmps97
 go_upto_region 31 with fail
 generalize aG:(w.alloc _).alloc _=W1
 have bP:=Iq aG (Zs _ _ _)
 have bM:=Ik (b:=w.heap.size) aG (Q5 _ _ _)
 have aU:=Ik (b:=w.heap.size+1) aG (Q6 _ _ _)
 obtain ⟨cR,dJ,dL⟩:=Im bP bM aU
 have eT:=Z8 aU
 clear aG bP bM aU
 clear r0 r1 r2 r3 dT dU dV dW
 go_loopw [13,14,15,16] (λo i _ _ wr=>∃ (j:Nat) (l:List Val) (p:Option Addr) (cap:Nat),j<=m/\i=.int .i64 j/\o=.slice p j cap/\l.length=j/\Aside ((∀ v ∈ l,Y3 v)/\J2 (λx=>Y0 d x ns vs) (kids.take j)=some l)/\Below (w+2) W1 wr /\
  (∃ css,Own Zc 36 (λc=>(S c/\c<w)\/w+2<=c) (w+2) wr (.slice p j cap) l css)) (λ_ i _ _ _=>m - (intOf i).toNat)
 case atStart=>exact ⟨0,[],none,0,Q8 _,rfl,rfl,rfl,⟨λv h=>by simp at h,rfl⟩,Qz _ _,[],Own.nil _ _ _ _ _⟩
 obtain ⟨j,l,p,cap,hj,rfl,rfl,bT,bR,I,css,hO⟩:=hrel
 have bN:=kE I Ia dJ.o
 have bO:=kE I Ia dL.o
 have bS:Below w w wr:=cR.o.trans (I.mono Ia)
 have eW:=I.size
 obtain ⟨bE,bG,cV,A,HO,U,M⟩:=BN bN bO I bS hO bR.o bT
 clear bN bO I bS hO bR bT
 by_cases hlt2:j<m
 ·have eQ:(0:Int)<=(j:Int):=Ia
  have eR:(j:Int)<(m:Int):=Ia
  obtain ⟨x0,D⟩:∃ x,kids[j]?=some x:=⟨_,Qx (by rw [HM.o];exact hlt2)⟩
  obtain ⟨fA,fB,eF,eH,eG,eI,eB,eK,eN,eC,eL,eO,eD,eM,eP,eE,eJ,bV,aR,O,V,Y,Z,aA,aB,aC,aD,aE,aF⟩:=HK.o.ex D
  subst bV
  have cW:=Qq (λW (hW:Below w w W)=>HI.o x0 (Qy D) (λb=>S b/\b<w) _ _ _ ns vs W (O.move (.f hW) Ij) (HN.o.below hW) (HV.o.below hW) bA.o Ia cU.o)
  obtain ⟨dX,cX,dC⟩:=Im O D (Qy D)
  have cP:=Qq (Qe aR (Qe V (Qe Y (Qe Z (Qe aA (Qe aB (Qe aC (Qe aD (Qe aE aF)))))))))
  clear O D aR V Y Z aA aB aC aD aE aF
  obtain ⟨T,q0,q1,q2,q3,q4,q5,q6,q7,q8⟩:=cP.o
  have V:=kD A.o T q0;have Y:=kD A.o T q1;have Z:=kD A.o T q2;have aA:=kD A.o T q3;have aB:=kD A.o T q4;have aC:=kD A.o T q5;have aD:=kD A.o T q6;have aE:=kD A.o T q7;have aF:=kD A.o T q8
  clear T q0 q1 q2 q3 q4 q5 q6 q7 q8
  have c6:=AK bE.o
  go_upto_region 34 with (go_at_call 97;refine (cW.o _ A.o).mono ?_;rintro e w5 ⟨k5,n5,s5,aM,aK,aI,aN,aL,aJ,b5,rfl,bY,bQ⟩;have bC:=Qq bY;have cS:=Qq bQ;clear bY bQ)
  clear c6 V Y Z aA aB aC aD aE aF
  generalize aT:w5.alloc _=W6
  have aV:=Iq aT (Zg _ _)
  have N:=Ik (b:=w5.heap.size) aT (Qw _ _)
  obtain ⟨J,aO,bD⟩:=Im (cS.o.n aV) N aV
  clear aT aV N
  have dY:=J.o.size
  have aP:=A.o.n J.o
  have aZ:=Qq aP
  clear aP
  cases b5 with
  | false=>
   obtain ⟨v0,v1,v2,v3,v4⟩:=If aO.o
   have G:=kB J.o bG.o
   obtain ⟨y0,y1,y2,y3,y4⟩:=If G
   obtain ⟨f0,f1,f2,f3,f4⟩:=Ip G
   have bF:=Qq G
   clear G
   go_wp2_with fail
   show bodyPost _ _ _ _ _ (Zl W6 (w+1) k5 n5 (.string s5) (.slice aM aK aI) (.slice aN aL aJ))
   refine Q7 (v:=.tuple #[.agg #[k5,n5,.string s5,.slice aM aK aI,.slice aN aL aJ],.bool false]) (by simp [results,results97,go_sem,Ze bF.o]) rfl (Vv Ia aZ.o (by rw [bB.o,Ba _ x0 (bC.o.2 rfl) kids dC.o];rfl))
  | true=>
   obtain ⟨u,cC,cA,cB⟩:=bC.o.1 rfl
   have cQ:Hid (J2 (λx=>Y0 d x ns vs) (kids.take (j+1))=some (l++[u])):=Qq (by rw [Gn cX.o];exact Bm _ x0 u cB _ l U.o.2)
   clear cB
   have bK:=HO.o.below J.o
   have N:Zc.R (But (λc=>(S c/\c<w)\/w+2<=c) (.slice p j cap)) W6 [k5,n5,.string s5,.slice aM aK aI,.slice aN aL aJ] u:=Z9.move cC (.f bD.o) (λb hb hc=>by
    rcases hc with h | h
    ·exact ⟨.inl h,λe=>by have:=(HO.o.row.lt b e.symm).1;have:=h.2;omega⟩
    have h':wr.heap.size<=b:=h
    exact ⟨.inr Ia,λe=>by have:=(HO.o.row.lt b e.symm).2;omega⟩)
   obtain ⟨dE,dG,dI⟩:=Im bK N cA
   clear bK N cC cA
   obtain ⟨v0,v1,v2,v3,v4⟩:=If aO.o
   go_wp2_with (at_builtin;refine Yo (r:=Zc) Ih rfl (.tmp 160) (.tmp 162) _ rfl 36 i0 (.agg zV) 80 underlying34 HJ.o cY.o cZ.o dA.o rfl Ia (λc=>(S c/\c<w)\/w+2<=c) (w+2) W6 (.slice p j cap) l css [k5,n5,.string s5,.slice aM aK aI,.slice aN aL aJ] u rfl dE.o rfl dG.o (by simp [Value.oneCell']) j M.o Ia Ia ?_;intro p7 bH bI w7 bL bJ;have dF:=Qq bL;have dB:=Qq bJ;clear bL bJ)
   go_roundw
   case measure=>simp [intOf];omega
   case rel=>
    refine ⟨j+1,l++[u],p7,bH,Ia,by go_num,rfl,by have:=M.o;simp [this],(show Aside _ from Qe ?_ cQ.o),(cV.o.trans (J.o.mono Ia)).trans dB.o.below,bI,dF.o⟩
    intro v hv
    rcases Z4.1 hv with h | h
    ·exact U.o.1 v h
    simp only [Z3,Z2,or_false] at h
    subst h;exact dI.o
 have dO:j=m:=Ia
 subst dO
 have hE:=Qq (Wc k nm n s names binds kids a z (λc=>(S c/\c<w)\/w+2<=c) [k,nm,n,s,.slice p1 names.length c1,.slice p2 binds.length c2,.slice p3 j c3,a,z] (.slice p j cap) l wr dD.o (by
  have h:=dK.o.move (S':=(λc=>(S c/\c<w)\/w+2<=c)) (.f A.o) (λ_ _ h=>.inl h)
  rw [HM.o] at h
  exact h) (by rw [M.o,HM.o]) (M.o ▸ HO.o.sl (Ix M.o) (λb hb=>.inr hb) (λb _ h=>h)) U.o.1)
 obtain ⟨c0,c1,c2,c3,c4,c5,c6,c7,c8⟩:=AC bE.o
 go_wp2_with (go_at_call 148;refine hE.o.mono ?_;rintro e w7 ⟨k7,n7,s7,cH,cF,cD,cI,cG,cE,b7,rfl,bZ,aW⟩;have aH:=kB aW bG.o;obtain ⟨y0,y1,y2,y3,y4⟩:=If aH;obtain ⟨f0,f1,f2,f3,f4⟩:=Ip aH;obtain ⟨dM,dH,cT⟩:=Im aH bZ aW;clear bZ aW aH)
 show bodyPost _ _ _ _ _ (Zl w7 (w+1) k7 n7 (.string s7) (.slice cH cF cD) (.slice cI cG cE))
 refine Q7 (v:=.tuple #[.agg #[k7,n7,.string s7,.slice cH cF cD,.slice cI cG cE],.bool b7]) (by simp [results,results97,go_sem,Ze dM.o]) rfl (X7.of_eq (by
   have h9:=U.o.2
   rw [<- HM.o,List.take_length] at h9
   rw [bB.o,h9];rfl) (Dw Ia (A.o.n cT.o) (dH.o.map λv h1=>h1.move (.refl _ _) (λc _ hc=>by
   rcases hc with (hc | hc) | hc
   ·exact .inl hc
   ·exact .inr Ia
   exact .inr (by have h':wr.heap.size<=c:=hc;omega)))))
end Go.Proofs.YtdpibdpbgokmoaaGreatDoor
