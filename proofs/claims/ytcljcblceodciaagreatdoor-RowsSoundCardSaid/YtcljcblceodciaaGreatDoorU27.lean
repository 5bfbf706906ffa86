import Derived.Test.YtcljcblceodciaaGreatDoorU24
import Derived.Test.YtcljcblceodciaaGreatDoorU26
set_option maxRecDepth 100000
set_option maxHeartbeats 400000000
namespace Go.Proofs.YtcljcblceodciaaGreatDoor
open Go.RowKit Go.Shelf Go.Lib Tryz
theorem Nk (nm:Bs) (n:Int) (s:Bs) (names binds:List Bs) (kids:List Ex) (a z:Int) (d:Nat) (HM:∀ (S:Nat->Prop) (ce:List Value) (nv vv:Value) (ns:List Bs) (vs:List Val) (w:World),Yx S w ce (.mk 13 nm n s names binds kids a z)->Sl Zh S w nv ns->Sl Zd S w vv vs->ns.length<=vs.length->vs.length+(d+1)<=1000->(∀ v ∈ vs,Y0 v) ->
  Calls prog 153 #[ce,nv,vv] w (Vj S w)):∀ (S:Nat->Prop) (ce:List Value) (nv vv:Value) (ns:List Bs) (vs:List Val) (w:World),Yx S w ce (.mk 13 nm n s names binds kids a z)->Sl Zh S w nv ns->Sl Zd S w vv vs->ns.length<=vs.length->vs.length+(d+1)<=1000->(∀ v ∈ vs,Y0 v) ->
  Calls prog 109 #[ce,nv,vv] w (Vj S w):=by
 intro S ce nv vv ns vs w aC Z aA G hd hb
 have hx:Yx (fun b=>S b/\b<w) w ce (.mk 13 nm n s names binds kids a z):=aC.move (.refl _ _) (fun b hb h=>⟨h,hb⟩)
 have hn:=Z.up
 have hv:=aA.up
 obtain ⟨np,nc,rfl,_⟩:=hn.len
 obtain ⟨vp,vc,rfl,bB⟩:=hv.len
 have aN:=Qq hx
 obtain ⟨bC,bv,kv,rfl,aZ,bA,O,N,hk⟩:=Yy.1 hx
 obtain ⟨p1,c1,rfl,_⟩:=O.len
 obtain ⟨p2,c2,rfl,_⟩:=N.len
 obtain ⟨p3,c3,rfl,aY⟩:=hk.len
 obtain ⟨HN,HV,aK,aW,aV,HK,aL,U⟩:=Qjy hn hv hb O N hk HM G
 clear aC Z aA hx hn hv O N hk hb HM G
 have aO:=Qq (fun W (hW:Below w w W)=>aL.out (fun b=>S b/\b<w) _ _ _ ns vs W (aN.out.move (.of_below hW) Qje) (HN.out.below hW) (HV.out.below hW) U.out hd aK.out)
 unfold sv at *
 go_enter func109,ntmps109
 go_upto_region 26 with fail
 generalize A:(w.alloc _).alloc _=W1
 have V:=eqB A (Zu _ _ _)
 have I:=eqH (b:=w.heap.size) A (Q5 _ _ _)
 have J:=eqH (b:=w.heap.size+1) A (Q6 _ _ _)
 obtain ⟨T,aX,aP⟩:=Qjq V I J
 have Y:=Z8 J
 obtain ⟨c0,c1,c2,c3,c4,c5,c6,c7,c8⟩:=row9 I
 clear A V I J
 go_wp2_with (go_at_call 153;refine (aO.out _ T.out).mono ?_;rintro e w7 ⟨k7,n7,s7,aH,aF,aD,aI,aG,aE,b7,rfl,aB,M⟩;have D:=kE (M) Y aP.out;obtain ⟨y0,y1,y2,y3,y4⟩:=row5 D;obtain ⟨f0,f1,f2,f3,f4⟩:=frz5 D;have aQ:=Qq D;clear D;have aM:=Qq aB;have aJ:=Qq M;clear aB M)
 show bodyPost _ _ _ _ _ (Zi w7 (w+1) k7 n7 (.string s7) (.slice aH aF aD) (.slice aI aG aE))
 refine Q7 (v:=.tuple #[.agg #[k7,n7,.string s7,.slice aH aF aD,.slice aI aG aE],.bool b7]) (by simp [results,results109,go_sem,Ze aQ.out]) rfl (Ui T.out C7 Y aM.out aJ.out)
theorem Hf (nm:Bs) (n:Int) (s:Bs) (names binds:List Bs) (kids:List Ex) (a z:Int) (d:Nat) (HM:∀ (S:Nat->Prop) (ce:List Value) (nv vv:Value) (ns:List Bs) (vs:List Val) (w:World),Yx S w ce (.mk 14 nm n s names binds kids a z)->Sl Zh S w nv ns->Sl Zd S w vv vs->ns.length<=vs.length->vs.length+(d+1)<=1000->(∀ v ∈ vs,Y0 v) ->
  Calls prog 154 #[ce,nv,vv] w (Vj S w)):∀ (S:Nat->Prop) (ce:List Value) (nv vv:Value) (ns:List Bs) (vs:List Val) (w:World),Yx S w ce (.mk 14 nm n s names binds kids a z)->Sl Zh S w nv ns->Sl Zd S w vv vs->ns.length<=vs.length->vs.length+(d+1)<=1000->(∀ v ∈ vs,Y0 v) ->
  Calls prog 109 #[ce,nv,vv] w (Vj S w):=by
 intro S ce nv vv ns vs w aC Z aA G hd hb
 have hx:Yx (fun b=>S b/\b<w) w ce (.mk 14 nm n s names binds kids a z):=aC.move (.refl _ _) (fun b hb h=>⟨h,hb⟩)
 have hn:=Z.up
 have hv:=aA.up
 obtain ⟨np,nc,rfl,_⟩:=hn.len
 obtain ⟨vp,vc,rfl,bB⟩:=hv.len
 have aN:=Qq hx
 obtain ⟨bC,bv,kv,rfl,aZ,bA,O,N,hk⟩:=Yy.1 hx
 obtain ⟨p1,c1,rfl,_⟩:=O.len
 obtain ⟨p2,c2,rfl,_⟩:=N.len
 obtain ⟨p3,c3,rfl,aY⟩:=hk.len
 obtain ⟨HN,HV,aK,aW,aV,HK,aL,U⟩:=Qjy hn hv hb O N hk HM G
 clear aC Z aA hx hn hv O N hk hb HM G
 have aO:=Qq (fun W (hW:Below w w W)=>aL.out (fun b=>S b/\b<w) _ _ _ ns vs W (aN.out.move (.of_below hW) Qje) (HN.out.below hW) (HV.out.below hW) U.out hd aK.out)
 unfold sv at *
 go_enter func109,ntmps109
 go_upto_region 28 with fail
 generalize A:(w.alloc _).alloc _=W1
 have V:=eqB A (Zu _ _ _)
 have I:=eqH (b:=w.heap.size) A (Q5 _ _ _)
 have J:=eqH (b:=w.heap.size+1) A (Q6 _ _ _)
 obtain ⟨T,aX,aP⟩:=Qjq V I J
 have Y:=Z8 J
 obtain ⟨c0,c1,c2,c3,c4,c5,c6,c7,c8⟩:=row9 I
 clear A V I J
 go_wp2_with (go_at_call 154;refine (aO.out _ T.out).mono ?_;rintro e w7 ⟨k7,n7,s7,aH,aF,aD,aI,aG,aE,b7,rfl,aB,M⟩;have D:=kE (M) Y aP.out;obtain ⟨y0,y1,y2,y3,y4⟩:=row5 D;obtain ⟨f0,f1,f2,f3,f4⟩:=frz5 D;have aQ:=Qq D;clear D;have aM:=Qq aB;have aJ:=Qq M;clear aB M)
 show bodyPost _ _ _ _ _ (Zi w7 (w+1) k7 n7 (.string s7) (.slice aH aF aD) (.slice aI aG aE))
 refine Q7 (v:=.tuple #[.agg #[k7,n7,.string s7,.slice aH aF aD,.slice aI aG aE],.bool b7]) (by simp [results,results109,go_sem,Ze aQ.out]) rfl (Ui T.out C7 Y aM.out aJ.out)
theorem Oq (nm:Bs) (n:Int) (s:Bs) (names binds:List Bs) (x:Ex) (a z:Int) (env:List (Bs × Val)) (u v:Val) (hx:EvO x env (some u)) (hk4:u.kind=4) (hgv:Yt u nm=some v):EvO (.mk 8 nm n s names binds [x] a z) env (some v):=by
 have bV:=Qq hk4;have bJ:=Qq hgv
 clear hk4 hgv
 intro S0 S' cs p w bY cH cG cF
 have cO:=Qq cH
 clear cH
 have he:Xk (fun b=>S0 b/\b<w) w p env:=cF.move (.refl _ _) (fun b hb h=>⟨h,hb⟩)
 obtain ⟨nv,bv,kv,rfl,dD,dM,hn,hb,hk⟩:=Yy.1 cG
 obtain ⟨np,nc,rfl,_⟩:=hn.len
 obtain ⟨bp,bc,rfl,_⟩:=hb.len
 obtain ⟨kp,kc,rfl,dB⟩:=hk.len
 obtain ⟨q,rfl⟩:=he.ptr
 obtain ⟨HE,HK,cP,cM⟩:=Qjz he hk hn hb
 obtain ⟨kl,aV⟩:=eX ([x].length)
 rw [aV] at HK dB
 have bW:=Qq aV
 clear cG he cF hn hb hk
 unfold sv
 rw [aV]
 clear aV
 go_enter func103,ntmps103
 go_upto_region 3 with fail
 generalize bE:((w.alloc _).alloc _).alloc _=w3
 have aX:=eqB bE (Xm _ _ _ _)
 have h0:=eqH (b:=w.heap.size) bE (Zp _ _ _ _)
 have h1:=eqH (b:=w.heap.size+1) bE (Zo _ _ _ _)
 have h2:=eqH (b:=w.heap.size+1+1) bE (Zl _ _ _ _)
 have dN:w.heap.size+1+1<w3.heap.size:=Z8 h2
 have c0:=rA0 h0;have c1:=rA1 h0;have c2:=rA2 h0;have c3:=rA3 h0;have c4:=rA4 h0;have c5:=rA5 h0;have c6:=rA6 h0
 obtain ⟨H0,H1,H2,cE⟩:=Qjz h0 h1 h2 aX
 have bO:=Qq (fun (k:Nat) e9 r9 (hke:[x][k]?=some e9) (hev:EvO e9 env r9) W (hbw:Below w3 w3 W) (x9:Nat) (hxl:w<=x9) (hxW:x9<W)=>K9 w (w+1) k (fun b=>S0 b/\b≠w+1+1/\b≠x9) S' kp kc [x] e9 (.pointer q) env r9 W
  (by rw [bW.out];exact (Qk _ _ 6 _ _ _ (kB hbw h0)).trans rfl) (by rw [bW.out];exact (HK.out.below aX).below hbw) ((Qk _ _ 0 _ _ _ (kB hbw h1)).trans rfl) (fun b hb=>⟨bY b (C9 aX.size hbw.size),by have:=hbw.size;omega,C7⟩) (cO.out.below (aX.thn hbw)) ((HE.out.move (.of_below aX) Qje).move (.of_below hbw) (fun b _ h=>⟨h.1,by have:=h.2;omega,by have:=h.2;omega⟩)) hke hev)
 have bK:Hid (∀ W,Below w3 w3 W->Calls prog 140 #[Ci,Ch w,Ch (w+1)] W (Xy (fun b=>S0 b/\b≠w+1+1/\b≠w+1+1) W (some u))):=Qq (fun W hW=>bO.out 0 x (some u) rfl hx W hW (w+1+1) C7 (C8 hW.size))
 have dA:kl=1:=bW.out.symm
 subst dA
 have cQ:=Qq bY;have dJ:=Qq dD
 have dL:w.heap.size<w3.heap.size:=C7
 clear h0 h1 h2 aX bE HE HK bO hx c2 c3 c4 c5 cP cM bY
 go_wp2_with fail
 go_cut [15,16] (fun dH dI wx=>M7 w3 v (.bool true) dH dI wx)
 case first=>
  clear c0 c1 c6
  have HD:=Qq (show ∀ W,(fun W=>W.heap[w.heap.size]?=some (.cells #[.int .i64 8,nm,n,s,.slice np names.length nc,.slice bp binds.length bc,.slice kp 1 kc,a,z] 46 (0,0))/\Below w w W) W->Cf W w 1 nm/\True from fun W h=>⟨(Qk _ _ 1 _ _ _ h.1).trans rfl,trivial⟩)
  have O:=Qq (show ∀ W,Below w3 w3 W->(fun W=>W.heap[w.heap.size]?=some (.cells #[.int .i64 8,nm,n,s,.slice np names.length nc,.slice bp binds.length bc,.slice kp 1 kc,a,z] 46 (0,0))/\Below w w W) W from fun W hb=>⟨kB hb H0.out,cE.out.thn hb⟩)
  refine wp_region_held_drew (S:=fun W=>W.heap[w.heap.size]?=some (.cells #[.int .i64 8,nm,n,s,.slice np names.length nc,.slice bp binds.length bc,.slice kp 1 kc,a,z] 46 (0,0))/\Below w w W) Cd (O.out _ (Qz _ _).drew) (fun A=>?_)
  refine tkD (v:=?_) 0 (fun T D=>?_) ?_;rotate_left
  ·(obtain ⟨c1,_⟩:=HD.out T D;go_simp;try with_reducible rfl)
  refine tkD (v:=?_) 3 (fun T D=>?_) ?_;rotate_left
  ·(obtain ⟨c1,_⟩:=HD.out T D;go_simp;try with_reducible rfl)
  refine tkD (v:=?_) 4 (fun T D=>?_) ?_;rotate_left
  ·(obtain ⟨c1,_⟩:=HD.out T D;go_simp;try with_reducible rfl)
  have aW:Hid (Below w3 w3 w3.drew):=Qq (Qz _ _).drew
  have dE:=aW.out.size
  generalize w3.drew=wd at A aW dE |-
  refine rsD [1,9] ?_
  refine rcD (fun K J=>?_) ?_
  ·go_simp
   refine (bK.out _ aW.out).mono ?_
   rintro e w5 ⟨cu,rfl,hu,hb⟩
   obtain ⟨a3,cT,a4,cU,Y,_⟩:=Z9.cells hu
   simp only [vcs] at Y
   subst Y
   have HU:=Qq hu
   clear hu bK
   have aJ:=Qq (aW.out.thn hb)
   have cI:=aJ.out.size
   clear hb
   try dsimp only
   refine J.out _ _ (O.out _ aJ.out) (fun A=>?_)
   clear J K
   refine rsD [2,9] ?_
   refine rcD (fun K J=>?_) ?_
   ·go_simp
    refine (En 4 _ u _ _ HU.out bV.out).mono ?_
    rintro e w6 ⟨rfl,hb⟩
    have M:=Qq (aJ.out.thn hb)
    have bU:=M.out.size
    replace HU:=Qq (Z9.move HU.out (.of_below hb) Qje)
    clear hb
    try dsimp only
    refine J.out _ _ (O.out _ M.out) (fun A=>?_)
    clear J K
    refine rsD [5,9] ?_
    refine rcD (fun K J=>?_) ?_
    ·go_simp
     have HG:=Qq (K8 _ u _ nm w6 HU.out)
     unfold Lg at HG
     rw [bJ.out] at HG
     unfold sv at HG
     refine HG.out.mono ?_
     rintro e w7 ⟨bX,rfl,aD,hb⟩
     obtain ⟨q3,l3,q4,l4,Y,_⟩:=Z9.cells aD
     simp only [vcs,Option.getD_some] at Y
     subst Y
     have HV:Hid (Z9 (fun b=>w6<=b/\b<w7) w7 (vcs v q3 l3 q4 l4) v):=Qq (Z9.move aD (.refl _ _) (fun b hb h=>⟨h,hb⟩))
     clear aD
     clear HG HU
     have I:=Qq (M.out.thn hb)
     have bH:=I.out.size
     clear hb
     try dsimp only
     refine J.out _ _ (O.out _ I.out) (fun A=>?_)
     clear J K
     refine tkD (v:=?_) 6 (fun T D=>?_) ?_;rotate_left
     ·(obtain ⟨c1,_⟩:=HD.out T D;go_simp;try with_reducible rfl)
     refine tkD (v:=?_) 7 (fun T D=>?_) ?_;rotate_left
     ·(obtain ⟨c1,_⟩:=HD.out T D;go_simp;try with_reducible rfl)
     refine tkD (v:=?_) 8 (fun T D=>?_) ?_;rotate_left
     ·(obtain ⟨c1,_⟩:=HD.out T D;go_simp;try with_reducible rfl)
     refine rdD 9 (fun K J=>?_) Qo
     go_simp
     generalize Z:World.alloc w7 _=wb
     have aK:=eqB Z (Zg _ _)
     have U:=Qq (I.out.thn aK)
     have cA:=I.out.size
     have cC:=U.out.size
     have V:Hid (wb.heap[w7.heap.size]?=some (.cells zV 36 (0,0))):=Qq (by rw [<- Z];exact Qw _ _)
     clear Z
     replace HV:=Qq (Z9.move HV.out (.of_below aK) Qje)
     clear aK
     try dsimp only
     refine J.out _ _ (O.out _ U.out) (fun A=>?_)
     clear J K
     have aA:=V.out
     have fz:=fun j=>Qn _ _ j _ _ aA
     obtain ⟨f0,f1,f2,f3,f4⟩:=Qjw fz
     have rr:=fun j=>Qk _ _ j _ _ _ aA
     obtain ⟨r0,r1,r2,r3,r4⟩:=Qjw rr
     simp only [Qf,Qg,Qh] at r0 r1 r2 r3 r4
     clear fz rr
     refine rdD 10 (fun K J=>?_) Qo
     go_simp
     have cB:=U.out.size
     have N:Below w3 w3 (Cu wb w7 v q3 l3 q4 l4):=Zc U.out C7
     have aB:(Zi wb w7 v.kind v.n v.s (.slice q3 v.names.length l3) (.slice q4 v.kids.length l4)).heap[w7.heap.size]?=some (.cells (Cn v q3 l3 q4 l4) 36 (0,0)):=Yw V.out
     have aC:∀ k,k≠w7.heap.size->(Zi wb w7 v.kind v.n v.s (.slice q3 v.names.length l3) (.slice q4 v.kids.length l4)).heap[k]?=wb.heap[k]?:=fun k hk=>Zf hk
     unfold Zi at N aB aC
     refine J.out _ _ (O.out _ N) (fun A=>?_)
     refine tkD (v:=?_) 11 (fun T D=>?_) ?_;rotate_left
     ·(obtain ⟨c1,_⟩:=HD.out T D;go_simp;try with_reducible rfl)
     refine wpAnyH_done Cd ?_ _
     clear J K A f0 f1 f2 f3 f4 r0 r1 r2 r3 r4 aA
     generalize World.setCell _ _ _=w9 at N aB aC |-
     go_wp2_with fail
     go_meet
     exact ⟨w7.heap.size,q3,l3,q4,l4,rfl,rfl,aB,Z9.move HV.out (fun b hb _=>aC b (by have:=hb.1;have:=hb.2;omega)) (fun b _ hb=>⟨by have:=hb.1;omega,by have:=hb.1;have:=hb.2;omega⟩),N,C7⟩
    refine rcD (fun K J=>?_) ?_
    ·go_simp
     generalize Z:World.alloc w6 _=wb
     have aK:=eqB Z (Zg _ _)
     have U:=Qq (M.out.thn aK)
     have cA:=M.out.size
     have cC:=U.out.size
     have aL:Hid (wb.heap[w6.heap.size]?=some (.cells zV 36 (0,0))):=Qq (by rw [<- Z];exact Qw _ _)
     clear Z
     replace HU:=Qq (Z9.move HU.out (.of_below aK) Qje)
     clear aK
     try dsimp only
     refine J.out _ _ (O.out _ U.out) (fun A=>?_)
     clear J K
     refine rdD 5 (fun K J=>?_) ?_
     ·go_simp
      have HG:=Qq (K8 _ u _ nm wb HU.out)
      unfold Lg at HG
      rw [bJ.out] at HG
      unfold sv at HG
      refine HG.out.mono ?_
      rintro e w7 ⟨bX,rfl,aD,hb⟩
      obtain ⟨q3,l3,q4,l4,Y,_⟩:=Z9.cells aD
      simp only [vcs,Option.getD_some] at Y
      subst Y
      have HV:Hid (Z9 (fun b=>wb<=b/\b<w7) w7 (vcs v q3 l3 q4 l4) v):=Qq (Z9.move aD (.refl _ _) (fun b hb h=>⟨h,hb⟩))
      clear aD
      clear HG HU
      have I:=Qq (U.out.thn hb)
      have bH:=I.out.size
      have V:=Qq (kB hb aL.out)
      have bG:=Z8 aL.out
      clear hb
      try dsimp only
      refine J.out _ _ (O.out _ I.out) (fun A=>?_)
      clear J K
      refine tkD (v:=?_) 6 (fun T D=>?_) ?_;rotate_left
      ·(obtain ⟨c1,_⟩:=HD.out T D;go_simp;try with_reducible rfl)
      refine tkD (v:=?_) 7 (fun T D=>?_) ?_;rotate_left
      ·(obtain ⟨c1,_⟩:=HD.out T D;go_simp;try with_reducible rfl)
      refine tkD (v:=?_) 8 (fun T D=>?_) ?_;rotate_left
      ·(obtain ⟨c1,_⟩:=HD.out T D;go_simp;try with_reducible rfl)
      have aA:=V.out
      have fz:=fun j=>Qn _ _ j _ _ aA
      obtain ⟨f0,f1,f2,f3,f4⟩:=Qjw fz
      have rr:=fun j=>Qk _ _ j _ _ _ aA
      obtain ⟨r0,r1,r2,r3,r4⟩:=Qjw rr
      simp only [Qf,Qg,Qh] at r0 r1 r2 r3 r4
      clear fz rr
      refine rdD 10 (fun K J=>?_) Qo
      go_simp
      have cB:=I.out.size
      have N:Below w3 w3 (Cu w7 w6 v q3 l3 q4 l4):=Zc I.out C7
      have aB:(Zi w7 w6 v.kind v.n v.s (.slice q3 v.names.length l3) (.slice q4 v.kids.length l4)).heap[w6.heap.size]?=some (.cells (Cn v q3 l3 q4 l4) 36 (0,0)):=Yw V.out
      have aC:∀ k,k≠w6.heap.size->(Zi w7 w6 v.kind v.n v.s (.slice q3 v.names.length l3) (.slice q4 v.kids.length l4)).heap[k]?=w7.heap[k]?:=fun k hk=>Zf hk
      unfold Zi at N aB aC
      refine J.out _ _ (O.out _ N) (fun A=>?_)
      refine tkD (v:=?_) 11 (fun T D=>?_) ?_;rotate_left
      ·(obtain ⟨c1,_⟩:=HD.out T D;go_simp;try with_reducible rfl)
      refine wpAnyH_done Cd ?_ _
      clear J K A f0 f1 f2 f3 f4 r0 r1 r2 r3 r4 aA
      generalize World.setCell _ _ _=w9 at N aB aC |-
      go_wp2_with fail
      go_meet
      exact ⟨w6.heap.size,q3,l3,q4,l4,rfl,rfl,aB,Z9.move HV.out (fun b hb _=>aC b (by have:=hb.1;have:=hb.2;omega)) (fun b _ hb=>⟨by have:=hb.1;omega,by have:=hb.1;have:=hb.2;omega⟩),N,C7⟩
     exact Qo
    exact Qo
   refine rcD (fun K J=>?_) ?_
   ·go_simp
    generalize Z:World.alloc w5 _=wb
    have aK:=eqB Z (Zg _ _)
    have U:=Qq (aJ.out.thn aK)
    have cA:=aJ.out.size
    have cC:=U.out.size
    have aR:Hid (wb.heap[w5.heap.size]?=some (.cells zV 36 (0,0))):=Qq (by rw [<- Z];exact Qw _ _)
    clear Z
    replace HU:=Qq (Z9.move HU.out (.of_below aK) Qje)
    clear aK
    try dsimp only
    refine J.out _ _ (O.out _ U.out) (fun A=>?_)
    clear J K
    refine rdD 2 (fun K J=>?_) ?_
    ·go_simp
     refine (En 4 _ u _ _ HU.out bV.out).mono ?_
     rintro e w6 ⟨rfl,hb⟩
     have M:=Qq (U.out.thn hb)
     have bU:=M.out.size
     have aL:=Qq (kB hb aR.out)
     have bG:=Z8 aR.out
     replace HU:=Qq (Z9.move HU.out (.of_below hb) Qje)
     clear hb
     try dsimp only
     refine J.out _ _ (O.out _ M.out) (fun A=>?_)
     clear J K
     refine rdD 5 (fun K J=>?_) ?_
     ·go_simp
      have HG:=Qq (K8 _ u _ nm w6 HU.out)
      unfold Lg at HG
      rw [bJ.out] at HG
      unfold sv at HG
      refine HG.out.mono ?_
      rintro e w7 ⟨bX,rfl,aD,hb⟩
      obtain ⟨q3,l3,q4,l4,Y,_⟩:=Z9.cells aD
      simp only [vcs,Option.getD_some] at Y
      subst Y
      have HV:Hid (Z9 (fun b=>w6<=b/\b<w7) w7 (vcs v q3 l3 q4 l4) v):=Qq (Z9.move aD (.refl _ _) (fun b hb h=>⟨h,hb⟩))
      clear aD
      clear HG HU
      have I:=Qq (M.out.thn hb)
      have bH:=I.out.size
      have V:=Qq (kB hb aL.out)
      have bG:=Z8 aL.out
      clear hb
      try dsimp only
      refine J.out _ _ (O.out _ I.out) (fun A=>?_)
      clear J K
      refine tkD (v:=?_) 6 (fun T D=>?_) ?_;rotate_left
      ·(obtain ⟨c1,_⟩:=HD.out T D;go_simp;try with_reducible rfl)
      refine tkD (v:=?_) 7 (fun T D=>?_) ?_;rotate_left
      ·(obtain ⟨c1,_⟩:=HD.out T D;go_simp;try with_reducible rfl)
      refine tkD (v:=?_) 8 (fun T D=>?_) ?_;rotate_left
      ·(obtain ⟨c1,_⟩:=HD.out T D;go_simp;try with_reducible rfl)
      have aA:=V.out
      have fz:=fun j=>Qn _ _ j _ _ aA
      obtain ⟨f0,f1,f2,f3,f4⟩:=Qjw fz
      have rr:=fun j=>Qk _ _ j _ _ _ aA
      obtain ⟨r0,r1,r2,r3,r4⟩:=Qjw rr
      simp only [Qf,Qg,Qh] at r0 r1 r2 r3 r4
      clear fz rr
      refine rdD 10 (fun K J=>?_) Qo
      go_simp
      have cB:=I.out.size
      have N:Below w3 w3 (Cu w7 w5 v q3 l3 q4 l4):=Zc I.out C7
      have aB:(Zi w7 w5 v.kind v.n v.s (.slice q3 v.names.length l3) (.slice q4 v.kids.length l4)).heap[w5.heap.size]?=some (.cells (Cn v q3 l3 q4 l4) 36 (0,0)):=Yw V.out
      have aC:∀ k,k≠w5.heap.size->(Zi w7 w5 v.kind v.n v.s (.slice q3 v.names.length l3) (.slice q4 v.kids.length l4)).heap[k]?=w7.heap[k]?:=fun k hk=>Zf hk
      unfold Zi at N aB aC
      refine J.out _ _ (O.out _ N) (fun A=>?_)
      refine tkD (v:=?_) 11 (fun T D=>?_) ?_;rotate_left
      ·(obtain ⟨c1,_⟩:=HD.out T D;go_simp;try with_reducible rfl)
      refine wpAnyH_done Cd ?_ _
      clear J K A f0 f1 f2 f3 f4 r0 r1 r2 r3 r4 aA
      generalize World.setCell _ _ _=w9 at N aB aC |-
      go_wp2_with fail
      go_meet
      exact ⟨w5.heap.size,q3,l3,q4,l4,rfl,rfl,aB,Z9.move HV.out (fun b hb _=>aC b (by have:=hb.1;have:=hb.2;omega)) (fun b _ hb=>⟨by have:=hb.1;omega,by have:=hb.1;have:=hb.2;omega⟩),N,C7⟩
     exact Qo
    exact Qo
   exact Qo
  refine rcD (fun K J=>?_) ?_
  ·go_simp
   generalize Z:World.alloc wd _=wb
   have aK:=eqB Z (Zg _ _)
   have U:=Qq (aW.out.thn aK)
   have cA:=aW.out.size
   have cC:=U.out.size
   have bP:Hid (wb.heap[wd.heap.size]?=some (.cells zV 36 (0,0))):=Qq (by rw [<- Z];exact Qw _ _)
   clear Z
   clear aK
   try dsimp only
   refine J.out _ _ (O.out _ U.out) (fun A=>?_)
   clear J K
   refine rdD 1 (fun K J=>?_) ?_
   ·go_simp
    refine (bK.out _ U.out).mono ?_
    rintro e w5 ⟨cu,rfl,hu,hb⟩
    obtain ⟨a3,cT,a4,cU,Y,_⟩:=Z9.cells hu
    simp only [vcs] at Y
    subst Y
    have HU:=Qq hu
    clear hu bK
    have aJ:=Qq (U.out.thn hb)
    have cI:=aJ.out.size
    have aR:=Qq (kB hb bP.out)
    have bG:=Z8 bP.out
    clear hb
    try dsimp only
    refine J.out _ _ (O.out _ aJ.out) (fun A=>?_)
    clear J K
    refine rdD 2 (fun K J=>?_) ?_
    ·go_simp
     refine (En 4 _ u _ _ HU.out bV.out).mono ?_
     rintro e w6 ⟨rfl,hb⟩
     have M:=Qq (aJ.out.thn hb)
     have bU:=M.out.size
     have aL:=Qq (kB hb aR.out)
     have bG:=Z8 aR.out
     replace HU:=Qq (Z9.move HU.out (.of_below hb) Qje)
     clear hb
     try dsimp only
     refine J.out _ _ (O.out _ M.out) (fun A=>?_)
     clear J K
     refine rdD 5 (fun K J=>?_) ?_
     ·go_simp
      have HG:=Qq (K8 _ u _ nm w6 HU.out)
      unfold Lg at HG
      rw [bJ.out] at HG
      unfold sv at HG
      refine HG.out.mono ?_
      rintro e w7 ⟨bX,rfl,aD,hb⟩
      obtain ⟨q3,l3,q4,l4,Y,_⟩:=Z9.cells aD
      simp only [vcs,Option.getD_some] at Y
      subst Y
      have HV:Hid (Z9 (fun b=>w6<=b/\b<w7) w7 (vcs v q3 l3 q4 l4) v):=Qq (Z9.move aD (.refl _ _) (fun b hb h=>⟨h,hb⟩))
      clear aD
      clear HG HU
      have I:=Qq (M.out.thn hb)
      have bH:=I.out.size
      have V:=Qq (kB hb aL.out)
      have bG:=Z8 aL.out
      clear hb
      try dsimp only
      refine J.out _ _ (O.out _ I.out) (fun A=>?_)
      clear J K
      refine tkD (v:=?_) 6 (fun T D=>?_) ?_;rotate_left
      ·(obtain ⟨c1,_⟩:=HD.out T D;go_simp;try with_reducible rfl)
      refine tkD (v:=?_) 7 (fun T D=>?_) ?_;rotate_left
      ·(obtain ⟨c1,_⟩:=HD.out T D;go_simp;try with_reducible rfl)
      refine tkD (v:=?_) 8 (fun T D=>?_) ?_;rotate_left
      ·(obtain ⟨c1,_⟩:=HD.out T D;go_simp;try with_reducible rfl)
      have aA:=V.out
      have fz:=fun j=>Qn _ _ j _ _ aA
      obtain ⟨f0,f1,f2,f3,f4⟩:=Qjw fz
      have rr:=fun j=>Qk _ _ j _ _ _ aA
      obtain ⟨r0,r1,r2,r3,r4⟩:=Qjw rr
      simp only [Qf,Qg,Qh] at r0 r1 r2 r3 r4
      clear fz rr
      refine rdD 10 (fun K J=>?_) Qo
      go_simp
      have cB:=I.out.size
      have N:Below w3 w3 (Cu w7 wd v q3 l3 q4 l4):=Zc I.out C7
      have aB:(Zi w7 wd v.kind v.n v.s (.slice q3 v.names.length l3) (.slice q4 v.kids.length l4)).heap[wd.heap.size]?=some (.cells (Cn v q3 l3 q4 l4) 36 (0,0)):=Yw V.out
      have aC:∀ k,k≠wd.heap.size->(Zi w7 wd v.kind v.n v.s (.slice q3 v.names.length l3) (.slice q4 v.kids.length l4)).heap[k]?=w7.heap[k]?:=fun k hk=>Zf hk
      unfold Zi at N aB aC
      refine J.out _ _ (O.out _ N) (fun A=>?_)
      refine tkD (v:=?_) 11 (fun T D=>?_) ?_;rotate_left
      ·(obtain ⟨c1,_⟩:=HD.out T D;go_simp;try with_reducible rfl)
      refine wpAnyH_done Cd ?_ _
      clear J K A f0 f1 f2 f3 f4 r0 r1 r2 r3 r4 aA
      generalize World.setCell _ _ _=w9 at N aB aC |-
      go_wp2_with fail
      go_meet
      exact ⟨wd.heap.size,q3,l3,q4,l4,rfl,rfl,aB,Z9.move HV.out (fun b hb _=>aC b (by have:=hb.1;have:=hb.2;omega)) (fun b _ hb=>⟨by have:=hb.1;omega,by have:=hb.1;have:=hb.2;omega⟩),N,C7⟩
     exact Qo
    exact Qo
   exact Qo
  exact Qo
 obtain ⟨G,q3,l3,q4,l4,rfl,rfl,hG,hV,hb,dK⟩:=hcut
 obtain ⟨w9,rfl⟩:∃ w9,w9=wc:=⟨_,rfl⟩
 have cR:=Qq hV;have cL:=Qq (cE.out.thn hb)
 have bM:=kB hb H2.out
 have HR:=Qq bM
 have fz:=fun j=>Qn _ _ j _ _ bM
 obtain ⟨f0,f1,f2,f3,f4⟩:=Qjw fz
 have rr:=fun j=>Qk _ _ j _ _ _ bM
 obtain ⟨r0,r1,r2,r3,r4⟩:=Qjw rr
 simp only [Qf,Qg,Qh] at r0 r1 r2 r3 r4
 clear fz rr
 have fz:=fun j=>Qn _ _ j _ _ hG
 obtain ⟨g0,g1,g2,g3,g4⟩:=Qjw fz
 have rr:=fun j=>Qk _ _ j _ _ _ hG
 obtain ⟨y0,y1,y2,y3,y4⟩:=Qjw rr
 simp only [Qf,Qg,Qh] at y0 y1 y2 y3 y4
 clear fz rr
 clear bM hG hV hb
 have HM:=Qq X9
 go_wp2_with (go_at_call 142;refine (HM.out _).mono ?_;rintro e w' ⟨rfl,rfl⟩)
 show bodyPost _ _ _ _ _ (Cu w9 (w+1+1) v q3 l3 q4 l4)
 refine Q7 (v:=.agg (Cn v q3 l3 q4 l4)) (by simp [results,results103,go_sem,Ze HR.out]) rfl ⟨_,rfl,?_,Zc cL.out C7⟩
 exact Z9.move cR.out (fun b hb _=>Zf (by have:=hb.1;omega)) (fun b _ h=>cQ.out b (by have:=h.1;omega))
end Go.Proofs.YtcljcblceodciaaGreatDoor
