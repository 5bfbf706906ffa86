import Derived.Test.YtcljcblceodciaaGreatDoorU30
set_option maxRecDepth 100000
set_option maxHeartbeats 400000000
namespace Go.Proofs.YtcljcblceodciaaGreatDoor
open Go.RowKit Go.Shelf Go.Lib Tryz
def Kn (us:List Sm):Prop:=∀ u ∈ us,∀ c ∈ u.ctors,Ja c.arg
structure Ms (t:Tbl):Prop where
 key:t.key.length<=1000
 cols:t.columns.length<=1000
 types:∀ c ∈ t.columns,Ja c.type\/c.type.kind=3
 check:Xl 8 t.check
structure Vr (v:Val):Prop where
 good:Y4 v
 few:v.kids.length<=900
theorem Y4.lens {v:Val} (h:Y4 v):v.names.length<=v.kids.length/\(v.kind=4->v.kids.length=v.names.length):=by
 cases h with
 | int n=>exact ⟨Q9 _,fun h=>by cases h⟩
 | text s=>exact ⟨Q9 _,fun h=>by cases h⟩
 | bool n _=>exact ⟨Q9 _,fun h=>by cases h⟩
 | make s kids _ _ _=>exact ⟨Q8 _,fun h=>by cases h⟩
 | record names kids hl _ _ _=>exact ⟨Nat.le_of_eq hl,fun _=>hl.symm⟩
 | list kids _=>exact ⟨Q8 _,fun h=>by cases h⟩
def Hm (us:List Sm) (v:Val) (t:Ty):Bool:=if t.kind=3 then B1 us v t.name else v.kind==t.kind
theorem rhasP (us:List Sm) (hu:Kn us) (v:Val) (t:Ty) (h:Ja t\/t.kind=3):Kh us v t (Hm us v t):=by
 unfold Hm
 split
 ·rename_i h3
  obtain ⟨k,s,n,names,kids⟩:=t
  cases (show k=3 from h3)
  exact rhasSum us v s n names kids hu
 rename_i h3
 exact Lq us v t (h.resolve_right h3)
theorem rhasRow (us:List Sm) (hu:Kn us) (t:Tbl) (hT:Ms t) (v:Val) (hv:Vr v):∃ b,Kh us v (M4 t) b:=by
 obtain ⟨h1,h2,h3⟩:=H7 _ t.columns rfl
 exact ⟨_,rhasRec us v [] _ _ (Hm us) (by rw [h1,h2]) hv.good.lens.2 (fun x _ y hy=>by
  obtain ⟨c,hc,rfl⟩:=h3 y hy
  exact rhasP us hu x c.type (hT.types c hc))⟩
def M8 (w:World) (e:Ending) (w':World):Prop:=(∃ (c:Int) (x1 x2 x3 x4 x5 x6 x7 x8 x9 x10 x11:Value),e=.returned (.agg #[c,x1,x2,x3,x4,x5,x6,x7,x8,x9,x10,x11]))/\Below w w w'
theorem Nd (X:World) (p:Addr):X.drew.cell? p=X.cell? p:=rfl
theorem Zr {W:World} {R b j:Nat} {x0 x1 x2 x3 x4 x5 x6 x7 x8 x9 x10 x11 u:Value} (h:b≠R) (hc:W.cell? ⟨b,j,none⟩=some u):(Yd W R x0 x1 x2 x3 x4 x5 x6 x7 x8 x9 x10 x11).drew.cell? ⟨b,j,none⟩=some u:=(Nd _ _).trans ((World.cell?_of_block (Ys h)).trans hc)
def Du:Prop:=∀ (S0 S1:Nat->Prop) (s:Sc) (cs:List Value) (lv:Value) (l:List Rel) (w:World),Xt S0 w cs s->Sl Y6 S1 w lv l->l.length=s.tables.length->Kn s.sums->(∀ t ∈ s.tables,Ms t)->(∀ r ∈ l,∀ v ∈ r.rows,Vr v) ->
  Calls prog 11 #[cs,lv] w (M8 w)
def RecAt (names:List Bs) (vals:List Val) (v:Val):Prop:=∀ (S S':Nat->Prop) (nv vv:Value) (w:World),Xh w->Sl Zh S w nv names->Sl Zd S' w vv vals ->
 Calls prog 144 #[nv,vv] w fun e w'=>∃ cs',e=.returned (.tuple #[.agg cs'.toArray,Ci])/\Z9 (fun b=>w<=b) w' cs' v/\Below w w w'
theorem ev_rec (nm:Bs) (n:Int) (s:Bs) (names binds:List Bs) (kids:List Ex) (a z:Int) (env:List (Bs × Val)) (f:Ex->Option Val) (vals:List Val) (v:Val) (hev:∀ e ∈ kids,EvO e env (f e)) (hL:Jc f kids=some vals) (hrec:RecAt names vals v):EvO (.mk 6 nm n s names binds kids a z) env (some v):=by
 have aZ:=Qq hrec
 clear hrec
 intro S0 S' cs p w bQ cF cD cC
 have bJ:=Qq cF
 clear cF
 have he:Xk (fun b=>S0 b/\b<w) w p env:=cC.move (.refl _ _) (fun b hb h=>⟨h,hb⟩)
 obtain ⟨nv,bv,kv,rfl,dA,dH,hn,hb,hk⟩:=Yy.1 cD
 obtain ⟨np,nc,rfl,_⟩:=hn.len
 obtain ⟨bp,bc,rfl,_⟩:=hb.len
 obtain ⟨kp,kc,rfl,cE⟩:=hk.len
 obtain ⟨q,rfl⟩:=he.ptr
 obtain ⟨HE,HK,bZ,cQ⟩:=Qjz he hk hn hb
 obtain ⟨kl,aT⟩:=eX (kids.length)
 rw [aT] at HK cE
 have bY:=Qq aT
 clear cD he cC hn hb hk
 unfold sv
 rw [aT]
 clear aT
 go_enter func103,ntmps103
 go_upto_region 3 with fail
 generalize bC:((w.alloc _).alloc _).alloc _=w3
 have aX:=eqB bC (Xm _ _ _ _)
 have h0:=eqH (b:=w.heap.size) bC (Zp _ _ _ _)
 have h1:=eqH (b:=w.heap.size+1) bC (Zo _ _ _ _)
 have h2:=eqH (b:=w.heap.size+1+1) bC (Zl _ _ _ _)
 have dI:w.heap.size+1+1<w3.heap.size:=Z8 h2
 have c0:=rA0 h0;have c1:=rA1 h0;have c2:=rA2 h0;have c3:=rA3 h0;have c4:=rA4 h0;have c5:=rA5 h0;have c6:=rA6 h0
 obtain ⟨H0,H1,H2,aV⟩:=Qjz h0 h1 h2 aX
 have aM:=Qq (fun W (hW:Below w3 w3 W)=>Ml (w+1) (fun b=>S0 b/\b≠w+1+1) S' kp kc kids (.pointer q) env f W (by rw [bY.out];exact (HK.out.below aX).below hW) ((Qk _ _ 0 _ _ _ (kB hW h1)).trans rfl) (fun b hb=>⟨bQ b (C9 aX.size hW.size),by have:=hW.size;omega⟩) (bJ.out.below (aX.thn hW)) ((HE.out.move (.of_below aX) Qje).move (.of_below hW) (fun b _ h=>⟨h.1,by have:=h.2;omega⟩)) hev)
 rw [hL,bY.out] at aM
 have dF:kl<=1000000:=cE
 obtain ⟨cS,dD,aY⟩:=Qjq bQ dA (bZ.out.below aV.out)
 have dG:w.heap.size<w3.heap.size:=C7
 clear h0 h1 h2 aX bC HE HK hev hL c1 c2 c3 c5 bZ cQ bQ
 go_wp2_with fail
 go_cut [8,9] (fun t8 t9 wx=>M7 w3 v (.int .i64 0) t8 t9 wx)
 case first=>
  clear c0 c4 c6
  have HD:=Qq (show ∀ W,(fun W=>W.heap[w.heap.size]?=some (.cells #[.int .i64 6,nm,n,s,.slice np names.length nc,.slice bp binds.length bc,.slice kp kl kc,a,z] 46 (0,0))/\Below w w W) W->Cf W w 4 (.slice np names.length nc)/\Cf W w 6 (.slice kp kl kc) from fun W h=>⟨(Qk _ _ 4 _ _ _ h.1).trans rfl,(Qk _ _ 6 _ _ _ h.1).trans rfl⟩)
  have V:=Qq (show ∀ W,Below w3 w3 W->(fun W=>W.heap[w.heap.size]?=some (.cells #[.int .i64 6,nm,n,s,.slice np names.length nc,.slice bp binds.length bc,.slice kp kl kc,a,z] 46 (0,0))/\Below w w W) W from fun W hb=>⟨kB hb H0.out,aV.out.thn hb⟩)
  refine wp_region_held_drew (S:=fun W=>W.heap[w.heap.size]?=some (.cells #[.int .i64 6,nm,n,s,.slice np names.length nc,.slice bp binds.length bc,.slice kp kl kc,a,z] 46 (0,0))/\Below w w W) Cd (V.out _ (Qz _ _).drew) (fun D=>?_)
  refine tkD (v:=?_) 0 (fun M A=>?_) ?_;rotate_left
  ·(obtain ⟨c4,c6⟩:=HD.out M A;go_simp;try with_reducible rfl)
  refine tkD (v:=?_) 1 (fun M A=>?_) ?_;rotate_left
  ·(obtain ⟨c4,c6⟩:=HD.out M A;go_simp;try with_reducible rfl)
  refine tkD (v:=?_) 2 (fun M A=>?_) ?_;rotate_left
  ·(obtain ⟨c4,c6⟩:=HD.out M A;go_simp;try with_reducible rfl)
  refine tkD (v:=?_) 3 (fun M A=>?_) ?_;rotate_left
  ·(obtain ⟨c4,c6⟩:=HD.out M A;go_simp;try with_reducible rfl)
  refine tkD (v:=?_) 4 (fun M A=>?_) ?_;rotate_left
  ·(obtain ⟨c4,c6⟩:=HD.out M A;go_simp;try with_reducible rfl)
  have aW:Hid (Below w3 w3 w3.drew):=Qq (Qz _ _).drew
  have dB:=aW.out.size
  generalize w3.drew=wd at D aW dB |-
  refine rsD [5,10] ?_
  refine rcD (fun K N=>?_) ?_
  ·go_simp
   refine (aM.out _ aW.out).mono ?_
   rintro e w5 ⟨p4,bA,cB,rfl,bB,bR,hb⟩
   have aJ:Hid (Sl Zd (fun _=>True) w5 (.slice p4 kl bA) vals):=Qq (by have h:=bB.sl (S':=fun _=>True) C7 (fun _ _=>trivial) (fun _ _ _=>trivial);exact h)
   clear bB bR aM
   have J:=Qq (aW.out.thn hb)
   have cK:=J.out.size
   clear hb
   try dsimp only
   refine N.out _ _ (V.out _ J.out) (fun D=>?_)
   clear N K
   refine rsD [6,10] ?_
   refine rcD (fun K N=>?_) ?_
   ·go_simp
    refine (aZ.out _ _ _ _ w5 (bJ.out.below (aV.out.thn J.out)) (aY.out.below J.out) aJ.out).mono ?_
    rintro e Y ⟨cA,rfl,aD,hb⟩
    obtain ⟨q3,l3,q4,l4,aP,_⟩:=Z9.cells aD
    simp only [vcs] at aP
    subst aP
    have HV:Hid (Z9 (fun b=>w5<=b/\b<Y) Y (vcs v q3 l3 q4 l4) v):=Qq (Z9.move aD (.refl _ _) (fun b hb h=>⟨h,hb⟩))
    clear aD
    clear aJ
    have I:=Qq (J.out.thn hb)
    have bO:=I.out.size
    clear hb
    try dsimp only
    refine N.out _ _ (V.out _ I.out) (fun D=>?_)
    clear N K
    refine tkD (v:=?_) 7 (fun M A=>?_) ?_;rotate_left
    ·(obtain ⟨c4,c6⟩:=HD.out M A;go_simp;try with_reducible rfl)
    refine tkD (v:=?_) 8 (fun M A=>?_) ?_;rotate_left
    ·(obtain ⟨c4,c6⟩:=HD.out M A;go_simp;try with_reducible rfl)
    refine tkD (v:=?_) 9 (fun M A=>?_) ?_;rotate_left
    ·(obtain ⟨c4,c6⟩:=HD.out M A;go_simp;try with_reducible rfl)
    refine rdD 10 (fun K N=>?_) Qo
    go_simp
    generalize Z:World.alloc Y _=wb
    have aI:=eqB Z (Zg _ _)
    have O:=Qq (I.out.thn aI)
    have cG:=I.out.size
    have cJ:=O.out.size
    have U:Hid (wb.heap[Y.heap.size]?=some (.cells zV 36 (0,0))):=Qq (by rw [<- Z];exact Qw _ _)
    clear Z
    replace HV:=Qq (Z9.move HV.out (.of_below aI) Qje)
    clear aI
    try dsimp only
    refine N.out _ _ (V.out _ O.out) (fun D=>?_)
    clear N K
    have aA:=U.out
    have fz:=fun j=>Qn _ _ j _ _ aA
    obtain ⟨f0,f1,f2,f3,f4⟩:=Qjw fz
    have rr:=fun j=>Qk _ _ j _ _ _ aA
    obtain ⟨r0,r1,r2,r3,r4⟩:=Qjw rr
    simp only [Qf,Qg,Qh] at r0 r1 r2 r3 r4
    clear fz rr
    refine rdD 11 (fun K N=>?_) Qo
    go_simp
    have cI:=O.out.size
    have T:Below w3 w3 (Cu wb Y v q3 l3 q4 l4):=Zc O.out C7
    have aB:(Zi wb Y v.kind v.n v.s (.slice q3 v.names.length l3) (.slice q4 v.kids.length l4)).heap[Y.heap.size]?=some (.cells (Cn v q3 l3 q4 l4) 36 (0,0)):=Yw U.out
    have aC:∀ k,k≠Y.heap.size->(Zi wb Y v.kind v.n v.s (.slice q3 v.names.length l3) (.slice q4 v.kids.length l4)).heap[k]?=wb.heap[k]?:=fun k hk=>Zf hk
    unfold Zi at T aB aC
    refine N.out _ _ (V.out _ T) (fun D=>?_)
    refine tkD (v:=?_) 12 (fun M A=>?_) ?_;rotate_left
    ·(obtain ⟨c4,c6⟩:=HD.out M A;go_simp;try with_reducible rfl)
    refine wpAnyH_done Cd ?_ _
    clear N K D f0 f1 f2 f3 f4 r0 r1 r2 r3 r4 aA
    generalize World.setCell _ _ _=w9 at T aB aC |-
    go_wp2_with fail
    go_meet
    exact ⟨Y.heap.size,q3,l3,q4,l4,rfl,rfl,aB,Z9.move HV.out (fun b hb _=>aC b (by have:=hb.1;have:=hb.2;omega)) (fun b _ hb=>⟨by have:=hb.1;omega,by have:=hb.1;have:=hb.2;omega⟩),T,C7⟩
   refine rcD (fun K N=>?_) ?_
   ·go_simp
    generalize Z:World.alloc w5 _=wb
    have aI:=eqB Z (Zg _ _)
    have O:=Qq (J.out.thn aI)
    have cG:=J.out.size
    have cJ:=O.out.size
    have aO:Hid (wb.heap[w5.heap.size]?=some (.cells zV 36 (0,0))):=Qq (by rw [<- Z];exact Qw _ _)
    clear Z
    replace aJ:=Qq (aJ.out.below aI)
    clear aI
    try dsimp only
    refine N.out _ _ (V.out _ O.out) (fun D=>?_)
    clear N K
    refine rdD 6 (fun K N=>?_) ?_
    ·go_simp
     refine (aZ.out _ _ _ _ wb (bJ.out.below (aV.out.thn O.out)) (aY.out.below O.out) aJ.out).mono ?_
     rintro e Y ⟨cA,rfl,aD,hb⟩
     obtain ⟨q3,l3,q4,l4,aP,_⟩:=Z9.cells aD
     simp only [vcs] at aP
     subst aP
     have HV:Hid (Z9 (fun b=>wb<=b/\b<Y) Y (vcs v q3 l3 q4 l4) v):=Qq (Z9.move aD (.refl _ _) (fun b hb h=>⟨h,hb⟩))
     clear aD
     clear aJ
     have I:=Qq (O.out.thn hb)
     have bO:=I.out.size
     have U:=Qq (kB hb aO.out)
     have cH:=Z8 aO.out
     clear hb
     try dsimp only
     refine N.out _ _ (V.out _ I.out) (fun D=>?_)
     clear N K
     refine tkD (v:=?_) 7 (fun M A=>?_) ?_;rotate_left
     ·(obtain ⟨c4,c6⟩:=HD.out M A;go_simp;try with_reducible rfl)
     refine tkD (v:=?_) 8 (fun M A=>?_) ?_;rotate_left
     ·(obtain ⟨c4,c6⟩:=HD.out M A;go_simp;try with_reducible rfl)
     refine tkD (v:=?_) 9 (fun M A=>?_) ?_;rotate_left
     ·(obtain ⟨c4,c6⟩:=HD.out M A;go_simp;try with_reducible rfl)
     have aA:=U.out
     have fz:=fun j=>Qn _ _ j _ _ aA
     obtain ⟨f0,f1,f2,f3,f4⟩:=Qjw fz
     have rr:=fun j=>Qk _ _ j _ _ _ aA
     obtain ⟨r0,r1,r2,r3,r4⟩:=Qjw rr
     simp only [Qf,Qg,Qh] at r0 r1 r2 r3 r4
     clear fz rr
     refine rdD 11 (fun K N=>?_) Qo
     go_simp
     have cI:=I.out.size
     have T:Below w3 w3 (Cu Y w5 v q3 l3 q4 l4):=Zc I.out C7
     have aB:(Zi Y w5 v.kind v.n v.s (.slice q3 v.names.length l3) (.slice q4 v.kids.length l4)).heap[w5.heap.size]?=some (.cells (Cn v q3 l3 q4 l4) 36 (0,0)):=Yw U.out
     have aC:∀ k,k≠w5.heap.size->(Zi Y w5 v.kind v.n v.s (.slice q3 v.names.length l3) (.slice q4 v.kids.length l4)).heap[k]?=Y.heap[k]?:=fun k hk=>Zf hk
     unfold Zi at T aB aC
     refine N.out _ _ (V.out _ T) (fun D=>?_)
     refine tkD (v:=?_) 12 (fun M A=>?_) ?_;rotate_left
     ·(obtain ⟨c4,c6⟩:=HD.out M A;go_simp;try with_reducible rfl)
     refine wpAnyH_done Cd ?_ _
     clear N K D f0 f1 f2 f3 f4 r0 r1 r2 r3 r4 aA
     generalize World.setCell _ _ _=w9 at T aB aC |-
     go_wp2_with fail
     go_meet
     exact ⟨w5.heap.size,q3,l3,q4,l4,rfl,rfl,aB,Z9.move HV.out (fun b hb _=>aC b (by have:=hb.1;have:=hb.2;omega)) (fun b _ hb=>⟨by have:=hb.1;omega,by have:=hb.1;have:=hb.2;omega⟩),T,C7⟩
    exact Qo
   exact Qo
  refine rcD (fun K N=>?_) ?_
  ·go_simp
   generalize Z:World.alloc wd _=wb
   have aI:=eqB Z (Zg _ _)
   have O:=Qq (aW.out.thn aI)
   have cG:=aW.out.size
   have cJ:=O.out.size
   have bN:Hid (wb.heap[wd.heap.size]?=some (.cells zV 36 (0,0))):=Qq (by rw [<- Z];exact Qw _ _)
   clear Z
   clear aI
   try dsimp only
   refine N.out _ _ (V.out _ O.out) (fun D=>?_)
   clear N K
   refine rdD 5 (fun K N=>?_) ?_
   ·go_simp
    refine (aM.out _ O.out).mono ?_
    rintro e w5 ⟨p4,bA,cB,rfl,bB,bR,hb⟩
    have aJ:Hid (Sl Zd (fun _=>True) w5 (.slice p4 kl bA) vals):=Qq (by have h:=bB.sl (S':=fun _=>True) C7 (fun _ _=>trivial) (fun _ _ _=>trivial);exact h)
    clear bB bR aM
    have J:=Qq (O.out.thn hb)
    have cK:=J.out.size
    have aO:=Qq (kB hb bN.out)
    have cH:=Z8 bN.out
    clear hb
    try dsimp only
    refine N.out _ _ (V.out _ J.out) (fun D=>?_)
    clear N K
    refine rdD 6 (fun K N=>?_) ?_
    ·go_simp
     refine (aZ.out _ _ _ _ w5 (bJ.out.below (aV.out.thn J.out)) (aY.out.below J.out) aJ.out).mono ?_
     rintro e Y ⟨cA,rfl,aD,hb⟩
     obtain ⟨q3,l3,q4,l4,aP,_⟩:=Z9.cells aD
     simp only [vcs] at aP
     subst aP
     have HV:Hid (Z9 (fun b=>w5<=b/\b<Y) Y (vcs v q3 l3 q4 l4) v):=Qq (Z9.move aD (.refl _ _) (fun b hb h=>⟨h,hb⟩))
     clear aD
     clear aJ
     have I:=Qq (J.out.thn hb)
     have bO:=I.out.size
     have U:=Qq (kB hb aO.out)
     have cH:=Z8 aO.out
     clear hb
     try dsimp only
     refine N.out _ _ (V.out _ I.out) (fun D=>?_)
     clear N K
     refine tkD (v:=?_) 7 (fun M A=>?_) ?_;rotate_left
     ·(obtain ⟨c4,c6⟩:=HD.out M A;go_simp;try with_reducible rfl)
     refine tkD (v:=?_) 8 (fun M A=>?_) ?_;rotate_left
     ·(obtain ⟨c4,c6⟩:=HD.out M A;go_simp;try with_reducible rfl)
     refine tkD (v:=?_) 9 (fun M A=>?_) ?_;rotate_left
     ·(obtain ⟨c4,c6⟩:=HD.out M A;go_simp;try with_reducible rfl)
     have aA:=U.out
     have fz:=fun j=>Qn _ _ j _ _ aA
     obtain ⟨f0,f1,f2,f3,f4⟩:=Qjw fz
     have rr:=fun j=>Qk _ _ j _ _ _ aA
     obtain ⟨r0,r1,r2,r3,r4⟩:=Qjw rr
     simp only [Qf,Qg,Qh] at r0 r1 r2 r3 r4
     clear fz rr
     refine rdD 11 (fun K N=>?_) Qo
     go_simp
     have cI:=I.out.size
     have T:Below w3 w3 (Cu Y wd v q3 l3 q4 l4):=Zc I.out C7
     have aB:(Zi Y wd v.kind v.n v.s (.slice q3 v.names.length l3) (.slice q4 v.kids.length l4)).heap[wd.heap.size]?=some (.cells (Cn v q3 l3 q4 l4) 36 (0,0)):=Yw U.out
     have aC:∀ k,k≠wd.heap.size->(Zi Y wd v.kind v.n v.s (.slice q3 v.names.length l3) (.slice q4 v.kids.length l4)).heap[k]?=Y.heap[k]?:=fun k hk=>Zf hk
     unfold Zi at T aB aC
     refine N.out _ _ (V.out _ T) (fun D=>?_)
     refine tkD (v:=?_) 12 (fun M A=>?_) ?_;rotate_left
     ·(obtain ⟨c4,c6⟩:=HD.out M A;go_simp;try with_reducible rfl)
     refine wpAnyH_done Cd ?_ _
     clear N K D f0 f1 f2 f3 f4 r0 r1 r2 r3 r4 aA
     generalize World.setCell _ _ _=w9 at T aB aC |-
     go_wp2_with fail
     go_meet
     exact ⟨wd.heap.size,q3,l3,q4,l4,rfl,rfl,aB,Z9.move HV.out (fun b hb _=>aC b (by have:=hb.1;have:=hb.2;omega)) (fun b _ hb=>⟨by have:=hb.1;omega,by have:=hb.1;have:=hb.2;omega⟩),T,C7⟩
    exact Qo
   exact Qo
  exact Qo
 obtain ⟨G,q3,l3,q4,l4,rfl,rfl,hG,hV,hb,dE⟩:=hcut
 obtain ⟨w9,rfl⟩:∃ w9,w9=wc:=⟨_,rfl⟩
 have cT:=Qq hV;have cP:=Qq (aV.out.thn hb)
 have bL:=kB hb H2.out
 have HR:=Qq bL
 have fz:=fun j=>Qn _ _ j _ _ bL
 obtain ⟨f0,f1,f2,f3,f4⟩:=Qjw fz
 have rr:=fun j=>Qk _ _ j _ _ _ bL
 obtain ⟨r0,r1,r2,r3,r4⟩:=Qjw rr
 simp only [Qf,Qg,Qh] at r0 r1 r2 r3 r4
 clear fz rr
 have fz:=fun j=>Qn _ _ j _ _ hG
 obtain ⟨g0,g1,g2,g3,g4⟩:=Qjw fz
 have rr:=fun j=>Qk _ _ j _ _ _ hG
 obtain ⟨y0,y1,y2,y3,y4⟩:=Qjw rr
 simp only [Qf,Qg,Qh] at y0 y1 y2 y3 y4
 clear fz rr
 clear bL hG hV hb
 have HM:=Qq X9
 go_wp2_with (go_at_call 142;refine (HM.out _).mono ?_;rintro e w' ⟨rfl,rfl⟩)
 show bodyPost _ _ _ _ _ (Cu w9 (w+1+1) v q3 l3 q4 l4)
 refine Q7 (v:=.agg (Cn v q3 l3 q4 l4)) (by simp [results,results103,go_sem,Ze HR.out]) rfl ⟨_,rfl,?_,Zc cP.out C7⟩
 exact Z9.move cT.out (fun b hb _=>Zf (by have:=hb.1;omega)) (fun b _ h=>cS.out b (by have:=h.1;omega))
def WithAt (u:Val) (f:Bs) (y R:Val):Prop:=∀ (S S1:Nat->Prop) (cv cy:List Value) (w:World),Z9 S w cv u->Z9 S1 w cy y ->
 Calls prog 145 #[cv,sv f,cy] w fun e w'=>∃ cs',e=.returned (.tuple #[.agg cs'.toArray,.bool true])/\Z9 (fun b=>w<=b) w' cs' R/\Below w w w'
theorem ev_with (nm:Bs) (n:Int) (s:Bs) (names binds:List Bs) (x e1:Ex) (a z:Int) (env:List (Bs × Val)) (u y R:Val) (f1:Bs) (hf:names[0]?=some f1) (hx:EvO x env (some u)) (hy:EvO e1 env (some y)) (hk4:u.kind=4) (hw:WithAt u f1 y R):EvO (.mk 7 nm n s names binds [x,e1] a z) env (some R):=by
 have cX:=Qq (fun (S:Nat->Prop) cu W (hu:Z9 S W cu u)=>En 4 S u cu W hu hk4)
 have dC:Hid (WithAt u f1 y R):=Qq hw
 clear hk4 hw
 intro S0 S' cs p w bL dX cE dV
 have cU:=Qq dX
 clear dX
 have he:Xk (fun b=>S0 b/\b<w) w p env:=dV.move (.refl _ _) (fun b hb h=>⟨h,hb⟩)
 obtain ⟨nv,bv,kv,rfl,gF,fG,hn,hb,hk⟩:=Yy.1 cE
 have cH:=Yx.room cE
 obtain ⟨np,nc,rfl,_⟩:=hn.len
 obtain ⟨bp,bc,rfl,_⟩:=hb.len
 obtain ⟨kp,kc,rfl,fB⟩:=hk.len
 obtain ⟨_,_,dY,dZ⟩:=cH
 simp only [Qh,Qg,Zv,Qr] at dY
 obtain ⟨-,-,rfl⟩:=dY
 have gE:2<=kc:=dZ
 clear dZ
 obtain ⟨q,rfl⟩:=he.ptr
 obtain ⟨HE,HK,cV,eO⟩:=Qjz he hk hn hb
 obtain ⟨kl,bB⟩:=eX ([x,e1].length)
 rw [bB] at HK fB
 have bZ:=Qq bB
 clear cE he dV hn hb hk
 unfold sv
 rw [bB]
 clear bB
 go_enter func103,ntmps103
 go_upto_region 3 with fail
 generalize bE:((w.alloc _).alloc _).alloc _=w3
 have U:=eqB bE (Xm _ _ _ _)
 have h0:=eqH (b:=w.heap.size) bE (Zp _ _ _ _)
 have h1:=eqH (b:=w.heap.size+1) bE (Zo _ _ _ _)
 have h2:=eqH (b:=w.heap.size+1+1) bE (Zl _ _ _ _)
 have gH:w.heap.size+1+1<w3.heap.size:=Z8 h2
 have c0:=rA0 h0;have c1:=rA1 h0;have c2:=rA2 h0;have c3:=rA3 h0;have Y:=rA4 h0;have c5:=rA5 h0;have c6:=rA6 h0
 obtain ⟨H0,H1,H2,eK⟩:=Qjz h0 h1 h2 U
 have bR:=Qq (fun (k:Nat) e9 r9 (hke:[x,e1][k]?=some e9) (hev:EvO e9 env r9) W (V:Below w3 w3 W) (x9:Nat) (hxl:w<=x9) (hxW:x9<W)=>K9 w (w+1) k (fun b=>S0 b/\b≠w+1+1/\b≠x9) S' kp kc [x,e1] e9 (.pointer q) env r9 W
  (by rw [bZ.out];exact (Qk _ _ 6 _ _ _ (kB V h0)).trans rfl) (by rw [bZ.out];exact (HK.out.below U).below V) ((Qk _ _ 0 _ _ _ (kB V h1)).trans rfl) (fun b hb=>⟨bL b (C9 U.size V.size),by have:=V.size;omega,C7⟩) (cU.out.below (U.thn V)) ((HE.out.move (.of_below U) Qje).move (.of_below V) (fun b _ h=>⟨h.1,by have:=h.2;omega,by have:=h.2;omega⟩)) hke hev)
 have cT:Hid (∀ W,Below w3 w3 W->Calls prog 140 #[Ci,Ch w,Ch (w+1)] W (Xy (fun b=>S0 b/\b≠w+1+1/\b≠w+1+1) W (some u))):=Qq (fun W hW=>bR.out 0 x (some u) rfl hx W hW (w+1+1) C7 (C8 hW.size))
 obtain ⟨kb,aJ,_,fC,_,_,_,_,_⟩:=HK.out.elem (i:=0) (x:=x) rfl
 subst fC
 have dW:kl=2:=bZ.out.symm
 subst dW
 have dQ:Sl Xp S' w (.slice (some ⟨kb,aJ+9,none⟩) 1 (kc - 1)) [e1]:=(HK.out.sub 1 1 (kc - 1) Ca)
 have bP:=Qq (fun W (hW:Below w3 w3 W)=>Ml (w+1) (fun b=>S0 b/\b≠w+1+1) S' (some ⟨kb,aJ+9,none⟩) (kc - 1) [e1] (.pointer q) env (fun _=>some y) W ((dQ.below U).below hW) ((Qk _ _ 0 _ _ _ (kB hW h1)).trans rfl) (fun b hb=>⟨bL b (C9 U.size hW.size),by have:=hW.size;omega⟩) (cU.out.below (U.thn hW)) ((HE.out.move (.of_below U) Qje).move (.of_below hW) (fun b _ h=>⟨h.1,by have:=h.2;omega⟩)) (fun e he=>by obtain rfl:=Z5.1 he;exact hy))
 have fG:∀ W,(Instr.slice 44 (.slice (some ⟨kb,aJ,none⟩) 2 kc) (some (.int .i64 1)) none none).run prog W=.ok (.slice (some ⟨kb,aJ+9,none⟩) 1 (kc - 1)) W:=fun W=>by
  have h:=Ko 44 46 9 underlying44 sizeOf46 (some ⟨kb,aJ,none⟩) 2 kc 1 C7 W
  rw [if_neg C7] at h
  simpa [Ed] using h
 obtain ⟨nb,bV,fF,cG,fA⟩:=(cV.out.below U).str hf
 subst fF
 rw [Nat.add_zero] at cG
 obtain ⟨nl,bG⟩:=eX (names.length)
 have fX:0<nl:=by rw [<- bG];exact (Qj hf).1
 have fY:(0:Int)<(nl:Int):=C7
 rw [bG] at h0 Y H0
 have cR:=Qq (fun (o c:Nat) W=>(Pb (fun _=>True) (.slice (some ⟨nb,o,none⟩) 0 c) [] f1 W (Sl.empty _ _ _ _ _)).mono (R':=fun e w'=>e=.returned (.bool false)/\w'=W) (by
  rintro e w' ⟨rfl,rfl⟩
  exact ⟨rfl,rfl⟩))
 unfold sv at cR
 have HC:=Qq (fun W (h:Below w3 w3 W)=>Qe (kC h Y) (Qe (kC h c6) (kC h cG)))
 have eS:=Qq bL;have HM:=Qq X9
 have gG:w.heap.size<w3.heap.size:=C7
 clear h0 h1 h2 U bE HE HK bR hx hy hf fA dQ bG c1 c2 c3 Y c5 c6 cV eO bL cG
 go_upto_region 25 with (first
  | (go_at_call 139;refine (cX.out _ _ _ HU.out).mono ?_;rintro e w5 ⟨rfl,hb⟩;have eT:=Qq (Z9.move HU.out (.of_below hb) Qje);have bX:=Qq (cN.out.thn hb);clear hb;clear cX)
  | (go_at_call 140;refine (cT.out _ (Qz _ _)).mono ?_;rintro e w4 ⟨cu,rfl,hu,hb⟩;obtain ⟨a3,dJ,a4,dK,aI,_⟩:=Z9.cells hu;simp only [vcs] at aI;subst aI;have HU:=Qq hu;have cN:=Qq ((Qz w3 w3).thn hb);clear hu hb;clear cT))
 generalize cC:World.alloc w5 _=w6
 have bN:=eqB cC (Zg _ _)
 have dT:=eqH (b:=w5.heap.size) cC (Qw _ _)
 obtain ⟨bY,cO,dE⟩:=Qjq (bX.out.thn bN) bN dT
 have cY:Hid (Z9 (fun b=>b<w5) w6 (vcs u a3 dJ a4 dK) u):=Qq (Z9.move (Z9.move eT.out (.refl _ _) (fun b hb _=>(hb:b<w5))) (.of_below bN) Qje)
 obtain ⟨Y,c6,n0⟩:=HC.out w6 bY.out
 clear cC bN dT Y n0 c0
 go_upto_region 26 with (go_at_call 141;refine (bP.out _ bY.out).mono ?_;rintro e w7 ⟨p4,fV,fW,rfl,dP,fD,hb⟩;have cW:=Qq dP;have aY:=Qq hb;clear dP fD hb)
 have dR:=cW.out.sl (S':=fun _=>True) Ca (fun _ _=>trivial) (fun _ _ _=>trivial)
 obtain ⟨yb,fZ,y3,fT,y4,fU,fH,gI,eB,d0,d1,d2,d3,d4⟩:=dR.val (i:=0) (x:=y) rfl
 subst fH
 simp only [Nat.zero_mul,Nat.add_zero] at d0 d1 d2 d3 d4
 have dH:=Qq (Z9.move eB (.refl _ _) (fun b hb _=>(hb:b<w7)))
 have cZ:=Qq (Z9.move cY.out (.of_below aY.out) Qje)
 have cB:=Qq (kB aY.out dE.out)
 have eM:=Qq (bY.out.thn aY.out)
 have fJ:=Z8 cB.out
 have fI:w3.heap.size<=w5.heap.size:=bX.out.size
 clear dR eB cW cY dE bP c6
 go_loopw [100] (fun bI wr=>∃ k:Nat,k<=1/\bI=.int .i64 k/\Aside ((k=0/\w7=wr)\/(k=1/\Below w5 w5 wr/\∃ q3 Z q4 l4,wr.heap[w5.heap.size]?=some (.cells (Cn R q3 Z q4 l4) 36 (0,0))/\Z9 (fun b=>w3<=b) wr (vcs R q3 Z q4 l4) R))) (fun bI _=>1 - (intOf bI).toNat)
 case atStart=>exact ⟨0,Q8 _,rfl,.inl ⟨rfl,rfl⟩⟩
 obtain ⟨k,gD,rfl,hA⟩:=hrel
 rcases hA.out with ⟨rfl,rfl⟩ | ⟨rfl,V,q3,Z,q4,l4,M,dS⟩
 ·clear hA
  go_upto_region 28 with fail
  generalize T:World.alloc w7 _=w8
  have O:=eqB T (Zg _ _)
  have cD:=eqH (b:=w7.heap.size) T (Qw _ _)
  obtain ⟨I,cP,eU⟩:=Qjq (eM.out.thn O) O cD
  have dF:=Qq (kE O fJ cB.out)
  have dA:=Qq (Z9.move cZ.out (.of_below O) Qje)
  have dI:=Qq (Z9.move dH.out (.of_below O) Qje)
  have gJ:=Z8 cD
  have eC:w5.heap.size<w8.heap.size:=C7
  have gB:=Qq (kB I.out H0.out)
  clear T O cD d0 d1 d2 d3 d4 cZ dH cB
  go_cut [13,14] from 101 to 132 (fun fQ fR wx=>M7 w8 R (.bool true) fQ fR wx)
  case first=>
   have HD:=Qq (show ∀ W,(fun W=>Below w8 w8 W) W->(Qjg W w5 u.kind u.n u.s (.slice a3 u.names.length dJ) (.slice a4 u.kids.length dK) ((Qjg W w7 y.kind y.n y.s (.slice y3 y.names.length fT) (.slice y4 y.kids.length fU) (Cf W w 4 (Cg nb bV nl nc)/\Cf W nb bV f1):Prop)):Prop) from fun W h=>by
    have e1:=kB h dF.out
    have e2:=kB h eU.out
    have e3:=HC.out W (I.out.thn h)
    exact ⟨(Qk _ _ 0 _ _ _ e1).trans rfl,(Qk _ _ 1 _ _ _ e1).trans rfl,(Qk _ _ 2 _ _ _ e1).trans rfl,(Qk _ _ 3 _ _ _ e1).trans rfl,(Qk _ _ 4 _ _ _ e1).trans rfl,(Qk _ _ 0 _ _ _ e2).trans rfl,(Qk _ _ 1 _ _ _ e2).trans rfl,(Qk _ _ 2 _ _ _ e2).trans rfl,(Qk _ _ 3 _ _ _ e2).trans rfl,(Qk _ _ 4 _ _ _ e2).trans rfl,e3.1,e3.2.2⟩)
   have aO:=Qq (show ∀ W,Below w8 w8 W->(fun W=>Below w8 w8 W) W from fun W hb=>hb)
   refine wp_region_held_drew (S:=fun W=>Below w8 w8 W) Cd (aO.out _ (Qz _ _).drew) (fun D=>?_)
   refine tkD (v:=?_) 0 (fun N A=>?_) ?_;rotate_left
   ·(obtain ⟨x0,x1,x2,x3,x4,z0,z1,z2,z3,z4,Y,n0⟩:=HD.out N A;go_simp;try with_reducible rfl)
   refine tkD (v:=?_) 1 (fun N A=>?_) ?_;rotate_left
   ·(obtain ⟨x0,x1,x2,x3,x4,z0,z1,z2,z3,z4,Y,n0⟩:=HD.out N A;go_simp;try with_reducible rfl)
   refine tkD (v:=?_) 2 (fun N A=>?_) ?_;rotate_left
   ·(obtain ⟨x0,x1,x2,x3,x4,z0,z1,z2,z3,z4,Y,n0⟩:=HD.out N A;go_simp;try with_reducible rfl)
   refine tkD (v:=?_) 3 (fun N A=>?_) ?_;rotate_left
   ·(obtain ⟨x0,x1,x2,x3,x4,z0,z1,z2,z3,z4,Y,n0⟩:=HD.out N A;go_simp;try with_reducible rfl)
   refine tkD (v:=?_) 4 (fun N A=>?_) ?_;rotate_left
   ·(obtain ⟨x0,x1,x2,x3,x4,z0,z1,z2,z3,z4,Y,n0⟩:=HD.out N A;go_simp;try with_reducible rfl)
   refine tkD (v:=?_) 5 (fun N A=>?_) ?_;rotate_left
   ·(obtain ⟨x0,x1,x2,x3,x4,z0,z1,z2,z3,z4,Y,n0⟩:=HD.out N A;go_simp;try with_reducible rfl)
   refine tkD (v:=?_) 6 (fun N A=>?_) ?_;rotate_left
   ·(obtain ⟨x0,x1,x2,x3,x4,z0,z1,z2,z3,z4,Y,n0⟩:=HD.out N A;go_simp;try with_reducible rfl)
   have aM:Hid (Below w8 w8 w8.drew):=Qq (Qz _ _).drew
   have fN:=aM.out.size
   generalize w8.drew=wd at D aM fN |-
   refine rsD [7,11] ?_
   refine rcD (fun K hK=>?_) ?_
   ·go_simp
    refine (dC.out _ _ _ _ wd (Z9.move dA.out (.of_below aM.out) Qje) (Z9.move dI.out (.of_below aM.out) Qje)).mono ?_
    rintro e wn ⟨eV,rfl,aR,hb⟩
    obtain ⟨q3,Z,q4,l4,aI,_⟩:=Z9.cells aR
    simp only [vcs] at aI
    subst aI
    have HV:Hid (Z9 (fun b=>wd<=b/\b<wn) wn (vcs R q3 Z q4 l4) R):=Qq (Z9.move aR (.refl _ _) (fun b hb h=>⟨h,hb⟩))
    clear aR
    have J:=Qq (aM.out.thn hb)
    have eD:=J.out.size
    clear hb
    try dsimp only
    refine hK.out _ _ (aO.out _ J.out) (fun D=>?_)
    clear hK K
    refine tkD (v:=?_) 8 (fun N A=>?_) ?_;rotate_left
    ·(obtain ⟨x0,x1,x2,x3,x4,z0,z1,z2,z3,z4,Y,n0⟩:=HD.out N A;go_simp;try with_reducible rfl)
    refine tkD (v:=?_) 9 (fun N A=>?_) ?_;rotate_left
    ·(obtain ⟨x0,x1,x2,x3,x4,z0,z1,z2,z3,z4,Y,n0⟩:=HD.out N A;go_simp;try with_reducible rfl)
    refine tkD (v:=?_) 10 (fun N A=>?_) ?_;rotate_left
    ·(obtain ⟨x0,x1,x2,x3,x4,z0,z1,z2,z3,z4,Y,n0⟩:=HD.out N A;go_simp;try with_reducible rfl)
    refine rdD 11 (fun K hK=>?_) Qo
    go_simp
    generalize T:World.alloc wn _=wb
    have O:=eqB T (Zg _ _)
    have I:=Qq (J.out.thn O)
    have fK:=J.out.size
    have fM:=I.out.size
    have aG:Hid (wb.heap[wn.heap.size]?=some (.cells zV 36 (0,0))):=Qq (by rw [<- T];exact Qw _ _)
    clear T
    replace HV:=Qq (Z9.move HV.out (.of_below O) Qje)
    clear O
    try dsimp only
    refine hK.out _ _ (aO.out _ I.out) (fun D=>?_)
    clear hK K
    have aP:=aG.out
    have fz:=fun j=>Qn _ _ j _ _ aP
    obtain ⟨f0,f1,f2,f3,f4⟩:=Qjw fz
    have rr:=fun j=>Qk _ _ j _ _ _ aP
    obtain ⟨r0,r1,r2,r3,r4⟩:=Qjw rr
    simp only [Qf,Qg,Qh] at r0 r1 r2 r3 r4
    clear fz rr
    refine rdD 12 (fun K hK=>?_) Qo
    go_simp
    have fL:=I.out.size
    have aD:Below w8 w8 (Cu wb wn R q3 Z q4 l4):=Zc I.out C7
    have M:(Zi wb wn R.kind R.n R.s (.slice q3 R.names.length Z) (.slice q4 R.kids.length l4)).heap[wn.heap.size]?=some (.cells (Cn R q3 Z q4 l4) 36 (0,0)):=Yw aG.out
    have aQ:∀ k,k≠wn.heap.size->(Zi wb wn R.kind R.n R.s (.slice q3 R.names.length Z) (.slice q4 R.kids.length l4)).heap[k]?=wb.heap[k]?:=fun k hk=>Zf hk
    unfold Zi at aD M aQ
    refine hK.out _ _ (aO.out _ aD) (fun D=>?_)
    refine tkD (v:=?_) 13 (fun N A=>?_) ?_;rotate_left
    ·(obtain ⟨x0,x1,x2,x3,x4,z0,z1,z2,z3,z4,Y,n0⟩:=HD.out N A;go_simp;try with_reducible rfl)
    refine wpAnyH_done Cd ?_ _
    clear hK K D f0 f1 f2 f3 f4 r0 r1 r2 r3 r4 aP
    generalize World.setCell _ _ _=w9 at aD M aQ |-
    go_wp2_with fail
    go_meet
    exact ⟨wn.heap.size,q3,Z,q4,l4,rfl,rfl,M,Z9.move HV.out (fun b hb _=>aQ b (by have:=hb.1;have:=hb.2;omega)) (fun b _ hb=>⟨by have:=hb.1;omega,by have:=hb.1;have:=hb.2;omega⟩),aD,C7⟩
   refine rcD (fun K hK=>?_) ?_
   ·go_simp
    generalize T:World.alloc wd _=wb
    have O:=eqB T (Zg _ _)
    have I:=Qq (aM.out.thn O)
    have fK:=aM.out.size
    have fM:=I.out.size
    have bS:Hid (wb.heap[wd.heap.size]?=some (.cells zV 36 (0,0))):=Qq (by rw [<- T];exact Qw _ _)
    clear T
    clear O
    try dsimp only
    refine hK.out _ _ (aO.out _ I.out) (fun D=>?_)
    clear hK K
    refine rdD 7 (fun K hK=>?_) ?_
    ·go_simp
     refine (dC.out _ _ _ _ wb (Z9.move dA.out (.of_below I.out) Qje) (Z9.move dI.out (.of_below I.out) Qje)).mono ?_
     rintro e wn ⟨eV,rfl,aR,hb⟩
     obtain ⟨q3,Z,q4,l4,aI,_⟩:=Z9.cells aR
     simp only [vcs] at aI
     subst aI
     have HV:Hid (Z9 (fun b=>wb<=b/\b<wn) wn (vcs R q3 Z q4 l4) R):=Qq (Z9.move aR (.refl _ _) (fun b hb h=>⟨h,hb⟩))
     clear aR
     have J:=Qq (I.out.thn hb)
     have eD:=J.out.size
     have aG:=Qq (kB hb bS.out)
     have gK:=Z8 bS.out
     clear hb
     try dsimp only
     refine hK.out _ _ (aO.out _ J.out) (fun D=>?_)
     clear hK K
     refine tkD (v:=?_) 8 (fun N A=>?_) ?_;rotate_left
     ·(obtain ⟨x0,x1,x2,x3,x4,z0,z1,z2,z3,z4,Y,n0⟩:=HD.out N A;go_simp;try with_reducible rfl)
     refine tkD (v:=?_) 9 (fun N A=>?_) ?_;rotate_left
     ·(obtain ⟨x0,x1,x2,x3,x4,z0,z1,z2,z3,z4,Y,n0⟩:=HD.out N A;go_simp;try with_reducible rfl)
     refine tkD (v:=?_) 10 (fun N A=>?_) ?_;rotate_left
     ·(obtain ⟨x0,x1,x2,x3,x4,z0,z1,z2,z3,z4,Y,n0⟩:=HD.out N A;go_simp;try with_reducible rfl)
     have aP:=aG.out
     have fz:=fun j=>Qn _ _ j _ _ aP
     obtain ⟨f0,f1,f2,f3,f4⟩:=Qjw fz
     have rr:=fun j=>Qk _ _ j _ _ _ aP
     obtain ⟨r0,r1,r2,r3,r4⟩:=Qjw rr
     simp only [Qf,Qg,Qh] at r0 r1 r2 r3 r4
     clear fz rr
     refine rdD 12 (fun K hK=>?_) Qo
     go_simp
     have fL:=J.out.size
     have aD:Below w8 w8 (Cu wn wd R q3 Z q4 l4):=Zc J.out C7
     have M:(Zi wn wd R.kind R.n R.s (.slice q3 R.names.length Z) (.slice q4 R.kids.length l4)).heap[wd.heap.size]?=some (.cells (Cn R q3 Z q4 l4) 36 (0,0)):=Yw aG.out
     have aQ:∀ k,k≠wd.heap.size->(Zi wn wd R.kind R.n R.s (.slice q3 R.names.length Z) (.slice q4 R.kids.length l4)).heap[k]?=wn.heap[k]?:=fun k hk=>Zf hk
     unfold Zi at aD M aQ
     refine hK.out _ _ (aO.out _ aD) (fun D=>?_)
     refine tkD (v:=?_) 13 (fun N A=>?_) ?_;rotate_left
     ·(obtain ⟨x0,x1,x2,x3,x4,z0,z1,z2,z3,z4,Y,n0⟩:=HD.out N A;go_simp;try with_reducible rfl)
     refine wpAnyH_done Cd ?_ _
     clear hK K D f0 f1 f2 f3 f4 r0 r1 r2 r3 r4 aP
     generalize World.setCell _ _ _=w9 at aD M aQ |-
     go_wp2_with fail
     go_meet
     exact ⟨wd.heap.size,q3,Z,q4,l4,rfl,rfl,M,Z9.move HV.out (fun b hb _=>aQ b (by have:=hb.1;have:=hb.2;omega)) (fun b _ hb=>⟨by have:=hb.1;omega,by have:=hb.1;have:=hb.2;omega⟩),aD,C7⟩
    exact Qo
   exact Qo
  obtain ⟨G,q3,Z,q4,l4,rfl,rfl,hG,hV,hb,gC⟩:=hcut
  obtain ⟨w9,rfl⟩:∃ w9,w9=wc:=⟨_,rfl⟩
  obtain ⟨cQ,cA,eR⟩:=Qjq hb hV hG
  have eN:=Qq (I.out.thn hb)
  obtain ⟨Y,_,n0⟩:=HC.out w9 eN.out
  have M:=kE hb eC dF.out
  have dG:=Qq M
  clear hG hV hb
  go_upto_region 29 with fail
  go_quiet (first
   | (go_at_call 146;exact Calls.quiet_of_same (cR.out _ _ _))
   | (go_at_call 142;exact Calls.quiet_of_same ((HM.out _).mono fun _ _ h=>⟨h.1,h.2.symm⟩)))
  obtain ⟨fS,bH⟩:=eX (w9.drewN nq)
  have bA:Below w9 w9 fS:=by rw [<- bH];exact Yz _ _
  rw [bH]
  have bT:=kB bA eR.out
  have aZ:=kB bA dG.out
  have dD:=Qq aZ;have bQ:=Qq bA
  obtain ⟨z0,z1,z2,z3,z4⟩:=row5 bT
  have fz:=fun j=>Qn _ _ j _ _ aZ
  obtain ⟨f0,f1,f2,f3,f4⟩:=Qjw fz
  clear fz
  obtain ⟨r0,r1,r2,r3,r4⟩:=row5 aZ
  clear bT aZ bA bH Y n0 M
  go_wp2_with fail
  go_roundw
  case measure=>simp [intOf]
  case rel=>
   refine ⟨1,Q9 1,by go_num,.inr ⟨rfl,Zc (((cO.out.thn aY.out).thn (cP.out.thn cQ.out)).thn bQ.out) (Q9 _),q3,Z,q4,l4,Yw dD.out,Z9.move (Z9.move cA.out (.of_below bQ.out) Qje) (fun b hb _=>Zf (by have:=hb.1;omega)) (fun b _ hb=>by have:=hb.1;have:=I.out.size;show w3<=b;omega)⟩⟩
 clear hA
 obtain ⟨dG,cA,gA⟩:=Qjq M dS V
 have bF:Below w3 w3 wr:=bX.out.trans (V.mono fI)
 have bK:=kB bF H2.out
 have HR:=Qq bK;have eL:=Qq (eK.out.thn bF)
 obtain ⟨x0,x1,x2,x3,x4⟩:=row5 M
 have fz:=fun j=>Qn _ _ j _ _ bK
 obtain ⟨f0,f1,f2,f3,f4⟩:=Qjw fz
 clear fz
 obtain ⟨r0,r1,r2,r3,r4⟩:=row5 bK
 clear M dS V bK bF
 go_wp2_with fail
 show bodyPost _ _ _ _ _ (Cu wr (w+1+1) R q3 Z q4 l4)
 refine Q7 (v:=.agg (Cn R q3 Z q4 l4)) (by simp [results,results103,go_sem,Ze HR.out]) rfl ⟨_,rfl,?_,Zc eL.out C7⟩
 exact Z9.move cA.out (fun b hb _=>Zf C7) (fun b _ h=>eS.out b C7)
theorem fld2 (a b c d e:Value) (w:World):(Instr.field 36 (.agg #[a,b,c,d,e]) 2).run prog w=.ok c w:=by
 simp [Instr.field,go_sem,part,asAgg]
theorem Hk {S:Nat->Prop} {w:World} {cs:List Value} {v:Val} (h:Z9 S w cs v):v.s.length<=1000000:=by
 cases v with
 | mk k n s ns ks=>obtain ⟨_,_,_,h1,_⟩:=Vg.1 h;exact h1
theorem op_cat (g:Nat) (lb:Array Value) (eg:∀ args w,(callFunc g args).run prog w=.ok (.enter g args) w) (S0:Nat->Prop) (u v:Val) (w:World) (hS0:∀ b,S0 b->b≠w.heap.size) (hku:u.kind=1) (hkv:v.kind=1)
  (h0:∀ W,Below w w W->w<W.heap.size->Calls prog g (#[.int .i64 0]++lb) W (Xy S0 W (some u))) (h1:∀ W,Below w w W->w<W.heap.size->Calls prog g (#[.int .i64 1]++lb) W (Xy S0 W (some v))):
  Calls prog 147 #[.string ⟨#[43,43]⟩,.func (.func g) #[] lb,.int .i64 2] w (Xy S0 w (if u.s.length+v.s.length<=4096 then some (.mk 1 0 (u.s++v.s) [] []) else none)):=by
 obtain ⟨H0,H1,HM,aR,bQ⟩:=Qjk h0 h1 X9 Fl hS0
 have aS:=Qq (fun (n:Int) (s:ByteArray) (p3 p4:Option Addr) (n3 k3 n4 k4:Nat) W=>of_eq 1 n s p3 p4 n3 k3 n4 k4 W)
 have bR:=fun (n:Int) (s:ByteArray) (p3 p4:Option Addr) (n3 k3 n4 k4:Nat) W=>fld2 (.int .i64 1) (.int .i64 n) (.string s) (.slice p3 n3 k3) (.slice p4 n4 k4) W
 have aP:=Qq hku;have aQ:=Qq hkv
 obtain ⟨R,aC⟩:=eX (Xy S0 w (if u.s.length+v.s.length<=4096 then some (.mk 1 0 (u.s++v.s) [] []) else none))
 rw [aC]
 have aX:=Qq aC
 clear h0 h1 hS0 hku hkv aC
 go_enter func147,ntmps147
 go_wp2_with (go_at_call 142;refine (HM.out _).mono ?_;rintro e w' ⟨rfl,rfl⟩)
 refine (H0.out _ (Zg _ _) Ca).mono ?_
 rintro e w1 ⟨cu,rfl,hu,aD⟩
 obtain ⟨a3,bE,a4,bF,J,_⟩:=Z9.cells hu
 simp only [vcs] at J
 subst J
 obtain ⟨aA,aG,HU⟩:=Qjq ((aD.block w Ca).trans (Qw w _)) ((Zg w _).thn aD) hu
 clear hu aD
 go_wp2_with fail
 refine (H1.out _ aG.out (Z8 aA.out)).mono ?_
 rintro e w2 ⟨cv,rfl,hv,T⟩
 obtain ⟨b3,bG,b4,bH,J,_⟩:=Z9.cells hv
 simp only [vcs] at J
 subst J
 have aB:=Qq ((T.block w (Z8 aA.out)).trans aA.out);have aN:=Qq (aG.out.thn T)
 have aY:=Qq (Z9.move HU.out (.of_below T) Qje);have bA:=Qq hv
 clear hv T
 have bU:w.heap.size<w2.heap.size:=Z8 aB.out
 go_upto_region 10 with fail
 generalize O:(w2.alloc _).alloc _=w4
 have I:=eqB O (Zu _ _ _)
 have g1:=eqH (b:=w2.heap.size) O (Q5 _ _ _)
 have g2:=eqH (b:=w2.heap.size+1) O (Q6 _ _ _)
 have aV:=Qq ((I.block w (Z8 aB.out)).trans aB.out);have aO:=Qq (aN.out.thn I)
 have aZ:=Qq (Z9.move aY.out (.of_below I) Qje);have bB:=Qq (Z9.move bA.out (.of_below I) Qje)
 have x0:=rA0 g1;have N:=rA0 g2;have x1:=rA1 g1;have y1:=rA1 g2;have x2:=rA2 g1;have y2:=rA2 g2;have x3:=rA3 g1;have y3:=rA3 g2;have x4:=rA4 g1;have V:=rA4 g2
 clear I g1 g2 O
 rw [aP.out] at x0
 rw [aQ.out] at N
 have bS:=Hk aZ.out;have bT:=Hk bB.out
 have Z:((⟨u.s.toArray⟩:ByteArray)++⟨v.s.toArray⟩)=⟨(u.s++v.s).toArray⟩:=ByteArray.ext Ca
 have aL:∀ w,(Op.stringOp .add ⟨u.s.toArray⟩ ⟨v.s.toArray⟩).run prog w=.ok (.string ⟨(u.s++v.s).toArray⟩) w:=fun w=>by
  rw [run_string_add_sum w _ _ (by show u.s.toArray.size+v.s.toArray.size<=_;simp;omega),Z]
 have M:(u.s++v.s).length=u.s.length+v.s.length:=Ql
 obtain ⟨t,ht⟩:=eX (u.s++v.s)
 rw [ht] at aL M
 have D:=aX.out
 rw [ht,<- M] at D
 have Y:=Qq D
 clear Z ht M D
 refine let_mvar% ?Lq1:=fun w':World=>(Qjg w' w2 (.int .i64 1) u.n u.s (.slice a3 u.names.length bE) (.slice a4 u.kids.length bF) ((Qjg w' (w2+1) (.int .i64 1) v.n v.s (.slice b3 v.names.length bG) (.slice b4 v.kids.length bH) ((∃ N y1 y2 y3 V,w'.heap[w.heap.size]?=some (.cells #[N,y1,y2,y3,V] 36 (0,0)))/\Below w w w'):Prop)):Prop);?_
 have HX:∀ w' U,?Lq1 w'->Below w' w' U->?Lq1 U:=fun w' U h h2=>by
  have A:∀ {b j:Nat} {u:Value},w'.cell? ⟨b,j,none⟩=some u->U.cell? ⟨b,j,none⟩=some u:=fun hc=>kC h2 hc
  obtain ⟨N,y1,y2,y3,V,hy⟩:=h.2.2.2.2.2.2.2.2.2.2.1
  exact ⟨A h.1,A h.2.1,A h.2.2.1,A h.2.2.2.1,A h.2.2.2.2.1,A h.2.2.2.2.2.1,A h.2.2.2.2.2.2.1,A h.2.2.2.2.2.2.2.1,A h.2.2.2.2.2.2.2.2.1,A h.2.2.2.2.2.2.2.2.2.1,⟨N,y1,y2,y3,V,kB h2 hy⟩,h.2.2.2.2.2.2.2.2.2.2.2.thn h2⟩
 have HY:∀ w',?Lq1 w'->(∃ N y1 y2 y3 V,w'.heap[w.heap.size]?=some (.cells #[N,y1,y2,y3,V] 36 (0,0))):=fun w' h=>h.2.2.2.2.2.2.2.2.2.2.1
 have aI:∀ w',?Lq1 w'->Below w w w':=fun w' h=>h.2.2.2.2.2.2.2.2.2.2.2
 have HP:∀ w' a b c d e,?Lq1 w'->?Lq1 (Zi w' w a b c d e):=fun w' a b c d e h=>by
  have A:∀ {g j:Nat} {u:Value},g≠w->w'.cell? ⟨g,j,none⟩=some u->(Zi w' w a b c d e).cell? ⟨g,j,none⟩=some u:=fun bL hc=>(World.cell?_of_block (Zf bL)).trans hc
  obtain ⟨N,y1,y2,y3,V,hy⟩:=h.2.2.2.2.2.2.2.2.2.2.1
  exact ⟨A C7 h.1,A C7 h.2.1,A C7 h.2.2.1,A C7 h.2.2.2.1,A C7 h.2.2.2.2.1,A C7 h.2.2.2.2.2.1,A C7 h.2.2.2.2.2.2.1,A C7 h.2.2.2.2.2.2.2.1,A C7 h.2.2.2.2.2.2.2.2.1,A C7 h.2.2.2.2.2.2.2.2.2.1,⟨a,b,c,d,e,Yw hy⟩,Zc (h.2.2.2.2.2.2.2.2.2.2.2) (Q9 _)⟩
 unfold Zi at HP
 have aK:=Qq (show ?Lq1 w4.drew from ⟨x0,x1,x2,x3,x4,N,y1,y2,y3,V,⟨_,_,_,_,_,aV.out⟩,aO.out.drew⟩)
 obtain ⟨bC,bD,aJ,aU⟩:=Qjz HX HY aI HP
 clear HX HY aI HP x0 x1 x2 x3 x4 N y1 y2 y3 V
 go_wp2_with fail
 go_region_held3 ?Lq1 (first | with_reducible exact aK.out | with_reducible exact G | with_reducible exact aU.out _ _ _ _ _ _ G)
  (first
   | (go_at_call 139;refine (aS.out _ _ _ _ _ _ _ _ _).mono ?_;rintro e w5 ⟨rfl,hb⟩;have G:=bC.out _ _ Ce hb;clear hb))
 all_goals
  have aH:=Qq (aJ.out _ G)
  obtain ⟨z0,z1,z2,z3,z4,r2⟩:=bD.out _ G;obtain ⟨f0,f1,f2,f3,f4⟩:=frz5 r2;obtain ⟨r0,r1,bV,r3,r4⟩:=row5 r2;have aW:=Qq r2;clear r2
  clear G
  by_cases hl:t.length<=4096
  ·have D:=Y.out
   rw [if_pos hl] at D
   have bK:(t.length:Int)<=4096:=C7
   go_wp2_with (go_at_call 142;refine (HM.out _).mono ?_;rintro e w' ⟨rfl,rfl⟩)
   show bodyPost _ _ _ _ _ (Zi w5 w (.int .i64 1) Ci t Cm Cm)
   refine Q7 (v:=.agg #[.int .i64 1,Ci,t,Cm,Cm]) (by simp [results,results147,go_sem,Ze aW.out]) rfl (by rw [<- D];exact ⟨_,rfl,Y5 C7 (Sl.nil _ _ _) (Sl.nil _ _ _),Zc aH.out (Q9 _)⟩)
  have D:=Y.out
  rw [if_neg hl] at D
  have bK:¬ ((t.length:Int)<=4096):=C7
  go_wp2_with (go_at_call 142;refine (aR.out _).mono ?_;rintro e w' ⟨rfl,rfl⟩)
  exact ⟨rfl,by rw [<- D];exact ⟨rfl,aH.out⟩⟩
end Go.Proofs.YtcljcblceodciaaGreatDoor
