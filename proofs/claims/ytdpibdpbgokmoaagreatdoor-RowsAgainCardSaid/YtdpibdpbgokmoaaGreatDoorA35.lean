import Derived.Test.YtdpibdpbgokmoaaGreatDoorA34
set_option maxRecDepth 100000
set_option maxHeartbeats 400000000
namespace Go.Proofs.YtdpibdpbgokmoaaGreatDoor
open Go.RowKit Go.Shelf Go.Lib Tryz
theorem Bt {w w':World} {row:Option Nat} (hb:Below w w w'):w.grownBy w' row:=⟨hb.os,hb.tape,hb.output,hb.size,λk hk _=>hb.block k hk⟩
theorem delAny (R:Nat) (S:Nat->Prop) (B:Nat) (x:Val) (cx:List Value) (w:World) (v:Value) (xs:List Val) (css:List (List Value)) (hO:Own Zc 36 S B w v xs css)
  (hcx:∀ j u,cx[j]?=some u->w.cell? ⟨R,j,none⟩=some u) (hRl:R<w) (hRg:v.ownBlock≠some R) (hx:Z9 (But S v) w cx x) (hl:xs.length<=100000):
  Calls prog 51 #[v,.func (.func 52) #[] #[Iv R]] w λe w'=>
   ∃ p cap css',e=.returned (.slice p (Kk xs x).length cap)/\Own Zc 36 S B w' (.slice p (Kk xs x).length cap) (Kk xs x) css'/\w.grownBy w' v.ownBlock/\(Value.slice p (Kk xs x).length cap).ownBlock=v.ownBlock:=by
 rcases hO.row.2 with ⟨rfl,h0⟩ | ⟨g,cap,I,rfl,_,_⟩
 ·have G:xs=[]:=Zy h0
  subst G
  have A:=Qq (Fi Tryz.ixVal Zc isAgg36 sizeOf36 52 #[Iv R] (enters_of func52 Ir rfl) (λ_=>True) (.slice none 0 0) [] w _ (Sl.empty _ _ _ _ _)
   (Pr R (λ_=>True) x cx [] w hcx hRl (hx.move (.refl _ _) (λ_ _ _=>trivial))))
  rw [show X8 (λv=>eqv v x) ([]:List Val)=-1 from rfl] at A
  have HO:=Qq hO
  clear hO hcx hx
  show Calls _ _ _ _ _
  go_enter func51,ntmps51
  go_wp2_with fail
  refine A.o.mono ?_
  rintro e w1 ⟨rfl,D⟩
  go_wp2_with fail
  go_ret
  exact ⟨none,0,css,rfl,HO.o.below D,Bt D,rfl⟩
 refine (delFn R S B x cx w g xs.length cap xs css hO rfl hcx hRl (λe=>hRg (by rw [e];rfl)) hx hl).mono ?_
 rintro e w' ⟨css',rfl,h1,h2⟩
 exact ⟨_,cap,css',rfl,h1,h2,rfl⟩
theorem R3 (S0 S1:Nat->Prop) (lv:Value) (l:List Rel) (tn:Bs) (x:Val) (cx:List Value) (w:World) (hl0:Sl Yk S0 w lv l) (hx0:Z9 S1 w cx x) (hf:l.findIdx? (λr=>decide (r.table=tn))=none) (hrl:∀ r ∈ l,r.rows.length<=10000):
  Calls prog 14 #[lv,sv tn,cx] w (Va w l):=by
 have hx:Z9 (λb=>b<w) w cx x:=hx0.move (.refl _ _) (λb hb _=>hb)
 have D:=Qq (λW (hb:Below w w W)=>Um S0 lv l W (hl0.below hb))
 have aE:X8 (λr=>decide (r.table=tn)) l=-1:=by unfold X8;rw [hf]
 have G:=Qq (λv W (hs:Sl Yk (λ_=>True) W v l)=>U7 _ v l tn W hs)
 rw [aE] at G
 have aH:l.length<=1000000:=by obtain ⟨_,_,_,h⟩:=hl0.len;exact h
 obtain ⟨lp,lc,rfl,_⟩:=hl0.len
 have U:=Qq hrl
 obtain ⟨x3,aK,x4,aL,aD,_⟩:=Z9.cells hx
 simp only [Il] at aD
 subst aD
 clear hx hx0 hl0 hf aE hrl
 unfold sv at G |-
 obtain ⟨n,hn⟩:=eX (l.length)
 unfold Jm at D
 rw [hn] at D aH |-
 have HN:=Qq hn
 clear hn
 go_enter func14,ntmps14
 go_wp2_with fail
 obtain ⟨W1,I⟩:=eX (w.alloc (.cells (Is x x3 aK x4 aL) 36))
 have M:=Iq I (Zg _ _)
 have aA:=Ik (b:=w.heap.size) I (Qw _ _)
 have O:=Qq M;have aM:=Qq aA
 rw [I]
 have aC:=D.o W1 M
 clear I M aA
 refine aC.mono ?_
 rintro e w2 ⟨p,cap,rvs,rfl,A,aB⟩
 have V:=Qq A;have aG:=Qq aB
 have T:=Qq (G.o _ w2 (A.sl (by rw [HN.o];omega) (λr hr=>by have:=U.o r hr;omega) _ (λ_ _=>trivial) (λ_ _ _=>trivial)))
 clear A aB aC D G
 go_wp2_with fail
 refine T.o.mono ?_
 rintro e w3 ⟨rfl,N⟩
 have J:=V.o.below N
 have Z:=J.sl (by rw [HN.o];omega) (λr hr=>by have:=U.o r hr;omega) (λ_=>True) (λ_ _=>trivial) (λ_ _ _=>trivial)
 have Y:=O.o.trans ((aG.o.n N).mono O.o.size)
 have HF:=Qq (show Va w l (.returned (.slice p n cap)) w3 from ⟨p,cap,by rw [HN.o],by rw [HN.o];exact Z,Y⟩)
 clear J Z Y N
 go_wp2_with fail
 go_ret
 exact HF.o
theorem Pt (S0 S1:Nat->Prop) (lv:Value) (l:List Rel) (tn:Bs) (x:Val) (cx:List Value) (w:World) (i:Nat) (o:Rel) (hl0:Sl Yk S0 w lv l) (hx0:Z9 S1 w cx x) (hf:l.findIdx? (λr=>decide (r.table=tn))=some i) (ho:l[i]?=some o)
  (hrl:∀ r ∈ l,r.rows.length<=10000):
  Calls prog 14 #[lv,sv tn,cx] w (Va w (l.set i ⟨o.table,Kk o.rows x⟩)):=by
 have hx:Z9 (λb=>b<w) w cx x:=hx0.move (.refl _ _) (λb hb _=>hb)
 have V:=Qq (λW (hb:Below w w W)=>Um S0 lv l W (hl0.below hb))
 have bA:X8 (λr=>decide (r.table=tn)) l=i:=by unfold X8;rw [hf]
 have Y:=Qq (λv W (hs:Sl Yk (λ_=>True) W v l)=>U7 _ v l tn W hs)
 rw [bA] at Y
 have aZ:i<l.length:=(Qj ho).1
 have bB:l.length<=1000000:=by obtain ⟨_,_,_,h⟩:=hl0.len;exact h
 obtain ⟨lp,lc,rfl,_⟩:=hl0.len
 obtain ⟨HX,HO,aQ⟩:=Im hx ho hrl
 have cI:=hrl o (Qy ho)
 obtain ⟨x3,bE,x4,bF,aY,_⟩:=Z9.cells hx
 simp only [Il] at aY
 subst aY
 clear hx hx0 hl0 hf bA hrl ho
 unfold sv at Y |-
 obtain ⟨n,hn⟩:=eX (l.length)
 unfold Jm at V
 rw [hn] at V aZ bB |-
 have HN:=Qq hn
 clear hn
 have cF:(0:Int)<=(i:Int):=Ia
 have cG:(i:Int)<(n:Int):=Ia
 have cH:decide ((0:Int)<=(i:Int))=true:=Ib
 go_enter func14,ntmps14
 go_wp2_with fail
 obtain ⟨W1,aA⟩:=eX (w.alloc (.cells (Is x x3 bE x4 bF) 36))
 have aH:=Iq aA (Zg _ _)
 have aT:=Ik (b:=w.heap.size) aA (Qw _ _)
 have J:=Qq aH;have aG:=Qq aT
 rw [aA]
 have aX:=V.o W1 aH
 clear aA aH aT
 refine aX.mono ?_
 rintro e w2 ⟨p,cap,rvs,rfl,D,aV⟩
 obtain ⟨g,bU,hv,cD,cE⟩:=D.row.form (by rw [HN.o];omega)
 simp only [Qr] at hv
 obtain ⟨rfl,-,rfl⟩:=hv
 obtain ⟨aL,U⟩:∃ aL,rvs[i]?=some aL:=⟨_,Qx (by rw [D.len,HN.o];exact aZ)⟩
 obtain ⟨css,A⟩:=D.rows i o aL HO.o U
 obtain ⟨aE,aD,rfl⟩:=A.form
 obtain ⟨aR,aM,N⟩:=Im D aV U
 have aO:=Qq (Y.o _ w2 (D.sl (by rw [HN.o];omega) (λr hr=>by have:=aQ.o r hr;omega) _ (λ_ _=>trivial) (λ_ _ _=>trivial)))
 clear D aV A U aX V Y
 go_wp2_with fail
 refine aO.o.mono ?_
 rintro e w3 ⟨rfl,aC⟩
 have G:=aR.o.below aC
 have aB:=kB aC (kE aM.o (Z8 aG.o) aG.o)
 obtain ⟨bX,I,-,aJ⟩:=G.at HO.o N.o
 have c1:=Qk _ _ (i*2+1) _ _ _ I
 rw [aJ] at c1
 obtain ⟨css,A⟩:=G.rows i o _ HO.o N.o
 have aF:=Qq (J.o.trans ((aM.o.n aC).mono J.o.size))
 have cC:=Z8 I
 have cA:=Z8 aB
 have bC:some g≠(Value.slice aE o.rows.length aD).ownBlock:=λe=>Yl G.row A.row Ih rfl e.symm
 obtain ⟨O,M,bT,bI⟩:=It G A I aJ
 have bD:Z9 (But (Ll (.slice (some ⟨g,0,none⟩) n cap) rvs) (.slice aE o.rows.length aD)) w3 (Is x x3 bE x4 bF) x:=by
  refine HX.o.move (.f aF.o) (λb _ hb=>?_)
  have cB:b<w.heap.size:=hb
  have bY:=J.o.size
  refine ⟨⟨λe=>?_,λu hu e=>?_⟩,λe=>?_⟩
  ·have:g=b:=Qb e
   omega
  ·obtain ⟨j,hj⟩:=Zk hu
   obtain ⟨y,hy⟩:∃ y,l[j]?=some y:=⟨_,Qx (by rw [<- O.o.len];exact (Qj hj).1)⟩
   obtain ⟨_,bM⟩:=O.o.rows j y u hy hj
   have:=(bM.row.lt b e).1
   omega
  have:=(M.o.row.lt b e.symm).1
  omega
 have bV:=J.o.size
 have bW:=Z8 aG.o
 have HD:=Qq (delAny w _ W1 x _ w3 (.slice aE o.rows.length aD) o.rows css A (λj u hu=>by rw [Qk _ _ j _ _ _ aB];simpa using hu) (Z8 aB) (λe=>by have:=(M.o.row.lt _ e).1;omega) bD Ia)
 have bJ:=Qq (λ(w6:World) (hg:w3.grownBy w6 (Value.slice aE o.rows.length aD).ownBlock)=>(hg.block g Ia bC).trans I)
 clear G aB I aJ A aC bD
 go_wp2_with fail
 refine HD.o.mono ?_
 rintro e w6 ⟨p6,c6,aS,rfl,Z,aK,aU⟩
 have aI:=bJ.o w6 aK;have f6:=Qn _ _ (i*2+1) _ _ aI;have k6:=Qk _ _ (i*2+1) _ _ _ aI;rw [bI.o] at k6;obtain ⟨bK,aN,bH⟩:=Im Z aK aU
 clear aI Z aK aU
 go_wp2_with fail
 go_ret
 have Z:=bK.o
 have hP:=O.o.put' HN.o HO.o N.o ⟨aS,Z⟩ aN.o (.inl bH.o)
 have T:(l.set i ⟨o.table,Kk o.rows x⟩).length=n:=by rw [List.length_set];exact HN.o
 have bO:∀ r ∈ l.set i ⟨o.table,Kk o.rows x⟩,r.rows.length<=1000000:=by
  intro r hr
  rcases List.mem_or_eq_of_mem_set hr with h | rfl
  ·have:=aQ.o r h;omega
  have h:=List.length_filter_le (λy=>!eqv y x) o.rows
  show (o.rows.filter (λy=>!eqv y x)).length<=1000000
  omega
 refine ⟨some ⟨g,0,none⟩,cap,by rw [T];rfl,by rw [T];exact hP.sl (by rw [T];exact bB) bO _ (λ_ _=>trivial) (λ_ _ _=>trivial),?_⟩
 have aW:=aF.o
 have bZ:=J.o.size
 refine (aW.grown aN.o aW.size (λb hb=>?_)).setCell (p:=⟨g,i*2+1,none⟩) (by show w<=g;omega) _
 have:=(M.o.row.lt b hb).1
 omega
theorem Es (S0 S1:Nat->Prop) (lv:Value) (l:List Rel) (tn:Bs) (x:Val) (cx:List Value) (w:World) (hl0:Sl Yk S0 w lv l) (hx0:Z9 S1 w cx x) (hrl:∀ r ∈ l,r.rows.length<=10000):
  Calls prog 14 #[lv,sv tn,cx] w (Va w (Vy l tn x)):=by
 cases hf:Yr l tn with
 | none=>rw [show Vy l tn x=l by unfold Vy;rw [hf]];exact R3 S0 S1 lv l tn x cx w hl0 hx0 hf hrl
 | some i=>
  obtain ⟨o,ho⟩:=Lc hf
  rw [show Vy l tn x=l.set i ⟨o.table,Kk o.rows x⟩ by unfold Vy;rw [hf];simp [ho]]
  exact Pt S0 S1 lv l tn x cx w i o hl0 hx0 hf ho hrl
def Af (w:World) (rows:List Val) (e:Ending) (w':World):Prop:=∃ p cap,e=.returned (.slice p rows.length cap)/\Sl Zc (λ_=>True) w' (.slice p rows.length cap) rows/\Below w w w'
theorem N2 (S:Nat->Prop) (v:Value) (l:List Rel) (x:Bs) (w:World) (hs:Sl Yk S w v l):
  Calls prog 12 #[v,sv x] w (Af w (Yg l x)):=by
 have G:=Qq (U7 S v l x w hs)
 rcases Fc l x with ⟨M,J⟩ | ⟨i,r,M,J,N⟩
 ·have I:Yg l x=[]:=by unfold Yg;rw [M]
  rw [I]
  rw [J] at G
  clear M J I
  obtain ⟨p,cap,rfl,hl⟩:=hs.len
  clear hs
  unfold sv at G |-
  go_enter func12,ntmps12
  go_wp2_with fail
  refine G.o.mono ?_
  rintro e w1 ⟨rfl,A⟩
  go_wp2_with fail
  go_ret
  exact ⟨none,0,rfl,Sl.nil _ _ _,A⟩
 have I:Yg l x=r.rows:=by unfold Yg;rw [M];simp [N]
 rw [I]
 rw [J] at G
 clear M J I
 obtain ⟨p,cap,rfl,hl⟩:=hs.len
 have aC:=(Qj N).1
 obtain ⟨b,aD,cs,rfl,V,_,_,⟨rv,rfl,_,D⟩,hc⟩:=hs.elem N
 have c1:=hc 1 _ rfl
 rw [show Yk.k=2 from rfl] at c1
 obtain ⟨q,qc,rfl,Y⟩:=D.len
 have O:=Qq (λW (hW:Below w w W)=>Gp S _ r.rows W (D.below hW))
 have Z:(0:Int)<=(i:Int):=Ia
 have aA:(i:Int)<(l.length:Int):=Ia
 have aB:decide ((i:Int)<0)=false:=Ib
 have HL:=Qq Y
 clear hs N hc D
 unfold sv at G |-
 go_enter func12,ntmps12
 go_wp2_with fail
 refine G.o.mono ?_
 rintro e w1 ⟨rfl,A⟩
 have k1:=kD A V c1
 have HC:=Qq (O.o w1 A)
 clear c1
 go_wp2_with fail
 refine HC.o.mono ?_
 rintro e w2 ⟨p2,c2,css,rfl,T,U⟩
 go_wp2_with fail
 go_ret
 exact ⟨p2,c2,rfl,T.sl (Ix HL.o) (λ_ _=>trivial) (λ_ _ _=>trivial),A.n U⟩
theorem Rm (nm:Bs) (n:Int) (s:Bs) (names binds:List Bs) (kids:List Ex) (a z:Int) (d:Nat) (HM:∀ (S:Nat->Prop) (ce:List Value) (nv vv:Value) (ns:List Bs) (vs:List Val) (w:World),Yx S w ce (.mk 13 nm n s names binds kids a z)->Sl Zh S w nv ns->Sl Zc S w vv vs->ns.length<=vs.length->vs.length+(d+1)<=1000->(∀ v ∈ vs,Y3 v) ->
  Calls prog 146 #[ce,nv,vv] w (X7 S w (Bb (Y0 d) names binds kids ns vs))):∀ (S:Nat->Prop) (ce:List Value) (nv vv:Value) (ns:List Bs) (vs:List Val) (w:World),Yx S w ce (.mk 13 nm n s names binds kids a z)->Sl Zh S w nv ns->Sl Zc S w vv vs->ns.length<=vs.length->vs.length+(d+1)<=1000->(∀ v ∈ vs,Y3 v) ->
  Calls prog 97 #[ce,nv,vv] w (X7 S w (Y0 (d+1) (.mk 13 nm n s names binds kids a z) ns vs)):=by
 intro S ce nv vv ns vs w aC Z aA G hd hb
 have hx:Yx (λb=>S b/\b<w) w ce (.mk 13 nm n s names binds kids a z):=aC.move (.refl _ _) (λb hb h=>⟨h,hb⟩)
 have hn:=Z.up
 have hv:=aA.up
 obtain ⟨np,nc,rfl,_⟩:=hn.len
 obtain ⟨vp,vc,rfl,bB⟩:=hv.len
 have aN:=Qq hx
 obtain ⟨bC,bv,kv,rfl,aZ,bA,O,N,hk⟩:=Yy.1 hx
 obtain ⟨p1,c1,rfl,_⟩:=O.len
 obtain ⟨p2,c2,rfl,_⟩:=N.len
 obtain ⟨p3,c3,rfl,aY⟩:=hk.len
 obtain ⟨HN,HV,aK,aW,aV,HK,aL,U⟩:=AV hn hv hb O N hk HM G
 clear aC Z aA hx hn hv O N hk hb HM G
 have aO:=Qq (λW (hW:Below w w W)=>aL.o (λb=>S b/\b<w) _ _ _ ns vs W (aN.o.move (.f hW) Ij) (HN.o.below hW) (HV.o.below hW) U.o hd aK.o)
 unfold sv at *
 go_enter func97,ntmps97
 go_upto_region 26 with fail
 generalize A:(w.alloc _).alloc _=W1
 have V:=Iq A (Zs _ _ _)
 have I:=Ik (b:=w.heap.size) A (Q5 _ _ _)
 have J:=Ik (b:=w.heap.size+1) A (Q6 _ _ _)
 obtain ⟨T,aX,aP⟩:=Im V I J
 have Y:=Z8 J
 obtain ⟨c0,c1,c2,c3,c4,c5,c6,c7,c8⟩:=AC I
 clear A V I J
 go_wp2_with (go_at_call 146;refine (aO.o _ T.o).mono ?_;rintro e w7 ⟨k7,n7,s7,aH,aF,aD,aI,aG,aE,b7,rfl,aB,M⟩;have D:=kE (M) Y aP.o;obtain ⟨y0,y1,y2,y3,y4⟩:=If D;obtain ⟨f0,f1,f2,f3,f4⟩:=Ip D;have aQ:=Qq D;clear D;have aM:=Qq aB;have aJ:=Qq M;clear aB M)
 show bodyPost _ _ _ _ _ (Zl w7 (w+1) k7 n7 (.string s7) (.slice aH aF aD) (.slice aI aG aE))
 refine Q7 (v:=.tuple #[.agg #[k7,n7,.string s7,.slice aH aF aD,.slice aI aG aE],.bool b7]) (by simp [results,results97,go_sem,Ze aQ.o]) rfl (X7.of_eq revF_mat (J4 T.o Ia Y aM.o aJ.o))
theorem M4 (nm:Bs) (n:Int) (s:Bs) (names binds:List Bs) (kids:List Ex) (a z:Int) (d:Nat) (HM:∀ (S:Nat->Prop) (ce:List Value) (nv vv:Value) (ns:List Bs) (vs:List Val) (w:World),Yx S w ce (.mk 14 nm n s names binds kids a z)->Sl Zh S w nv ns->Sl Zc S w vv vs->ns.length<=vs.length->vs.length+(d+1)<=1000->(∀ v ∈ vs,Y3 v) ->
  Calls prog 147 #[ce,nv,vv] w (X7 S w (opV (λx=>Y0 d x ns vs) nm kids))):∀ (S:Nat->Prop) (ce:List Value) (nv vv:Value) (ns:List Bs) (vs:List Val) (w:World),Yx S w ce (.mk 14 nm n s names binds kids a z)->Sl Zh S w nv ns->Sl Zc S w vv vs->ns.length<=vs.length->vs.length+(d+1)<=1000->(∀ v ∈ vs,Y3 v) ->
  Calls prog 97 #[ce,nv,vv] w (X7 S w (Y0 (d+1) (.mk 14 nm n s names binds kids a z) ns vs)):=by
 intro S ce nv vv ns vs w aC Z aA G hd hb
 have hx:Yx (λb=>S b/\b<w) w ce (.mk 14 nm n s names binds kids a z):=aC.move (.refl _ _) (λb hb h=>⟨h,hb⟩)
 have hn:=Z.up
 have hv:=aA.up
 obtain ⟨np,nc,rfl,_⟩:=hn.len
 obtain ⟨vp,vc,rfl,bB⟩:=hv.len
 have aN:=Qq hx
 obtain ⟨bC,bv,kv,rfl,aZ,bA,O,N,hk⟩:=Yy.1 hx
 obtain ⟨p1,c1,rfl,_⟩:=O.len
 obtain ⟨p2,c2,rfl,_⟩:=N.len
 obtain ⟨p3,c3,rfl,aY⟩:=hk.len
 obtain ⟨HN,HV,aK,aW,aV,HK,aL,U⟩:=AV hn hv hb O N hk HM G
 clear aC Z aA hx hn hv O N hk hb HM G
 have aO:=Qq (λW (hW:Below w w W)=>aL.o (λb=>S b/\b<w) _ _ _ ns vs W (aN.o.move (.f hW) Ij) (HN.o.below hW) (HV.o.below hW) U.o hd aK.o)
 unfold sv at *
 go_enter func97,ntmps97
 go_upto_region 28 with fail
 generalize A:(w.alloc _).alloc _=W1
 have V:=Iq A (Zs _ _ _)
 have I:=Ik (b:=w.heap.size) A (Q5 _ _ _)
 have J:=Ik (b:=w.heap.size+1) A (Q6 _ _ _)
 obtain ⟨T,aX,aP⟩:=Im V I J
 have Y:=Z8 J
 obtain ⟨c0,c1,c2,c3,c4,c5,c6,c7,c8⟩:=AC I
 clear A V I J
 go_wp2_with (go_at_call 147;refine (aO.o _ T.o).mono ?_;rintro e w7 ⟨k7,n7,s7,aH,aF,aD,aI,aG,aE,b7,rfl,aB,M⟩;have D:=kE (M) Y aP.o;obtain ⟨y0,y1,y2,y3,y4⟩:=If D;obtain ⟨f0,f1,f2,f3,f4⟩:=Ip D;have aQ:=Qq D;clear D;have aM:=Qq aB;have aJ:=Qq M;clear aB M)
 show bodyPost _ _ _ _ _ (Zl w7 (w+1) k7 n7 (.string s7) (.slice aH aF aD) (.slice aI aG aE))
 refine Q7 (v:=.tuple #[.agg #[k7,n7,.string s7,.slice aH aF aD,.slice aI aG aE],.bool b7]) (by simp [results,results97,go_sem,Ze aQ.o]) rfl (X7.of_eq revF_op (J4 T.o Ia Y aM.o aJ.o))
theorem Nt (S:Nat->Prop) (v:Value) (l:List Int) (w:World) (hs:V5 S w v l) (hi:Kz l) (hk:Xk l 0 13=0):
  Calls prog 17 #[v,Ic] w (J7 w (Gen.check 0)):=by
 have HP:=Qq (λW (hb:Below w w W)=>Ys S v l 0 13 W (hs.below hb) hi Ia Ia)
 rw [hk] at HP
 obtain ⟨p,cap,rfl,_⟩:=hs.len
 clear hs hi hk
 go_enter func17,ntmps17
 go_upto_region 8 with fail
 generalize A:(((((((w.alloc _).alloc _).alloc _).alloc _).alloc _).alloc _).alloc _).alloc _=N
 have J:=Iq A (Yj (Yj (Yj (Yj (Yj (Yj (Yj (Zg w _) _) _) _) _) _) _) _)
 have M:N=w.heap.size+8:=by rw [<- A];simp
 have r8:=Ik (b:=w.heap.size) A (Zb (Zb (Zb (Zb (Zb (Zb (Zb (Y6 rfl _) _) _) _) _) _) _) _)
 have D:=Ik (b:=w.heap.size+1+1+1+1+1+1+1) A (Y6 Ib _)
 have aE:w.heap.size<N.heap.size:=Ia
 have aF:w.heap.size≠N.heap.size:=Ia
 have aD:=Qq M
 clear M
 have I:=Qq J;have G:=Qq r8
 clear A J r8
 obtain ⟨O,T,U,V,Y,Z,aA,aB,aC⟩:=AC D
 clear D
 go_upto_region 12 with (go_at_call 18;refine (HP.o _ I.o).mono ?_;rintro e w' ⟨rfl,rfl⟩)
 obtain ⟨y0,y1,y2,y3,y4,y5,y6,y7,y8⟩:=AC G.o
 obtain ⟨f0,f1,f2,f3,f4,f5,f6,f7,f8⟩:=BB G.o
 go_wp2_with fail
 show bodyPost _ _ _ _ _ (put9 N w (.int .i64 2) Ig (.int .i64 1) Ig Ie Ie Ie Ic Ic)
 exact Q7 (v:=.agg #[.int .i64 2,Ig,.int .i64 1,Ig,Ie,Ie,Ie,Ic,Ic]) (by simp [results,results17,go_sem,Xm G.o]) rfl (Uu (Yv 2 [] 1 [] Ib Ib) I.o rfl)
theorem No (S:Nat->Prop) (v:Value) (l:List Int) (w:World) (hs:V5 S w v l) (hi:Kz l) (hk:Xk l 0 13=1):
  Calls prog 17 #[v,Ic] w (J7 w (Gen.check 1)):=by
 have HP:=Qq (λW (hb:Below w w W)=>Ys S v l 0 13 W (hs.below hb) hi Ia Ia)
 rw [hk] at HP
 obtain ⟨p,cap,rfl,_⟩:=hs.len
 clear hs hi hk
 go_enter func17,ntmps17
 go_upto_region 8 with fail
 generalize A:(((((((w.alloc _).alloc _).alloc _).alloc _).alloc _).alloc _).alloc _).alloc _=N
 have J:=Iq A (Yj (Yj (Yj (Yj (Yj (Yj (Yj (Zg w _) _) _) _) _) _) _) _)
 have M:N=w.heap.size+8:=by rw [<- A];simp
 have r8:=Ik (b:=w.heap.size) A (Zb (Zb (Zb (Zb (Zb (Zb (Zb (Y6 rfl _) _) _) _) _) _) _) _)
 have D:=Ik (b:=w.heap.size+1+1+1+1+1+1+1) A (Y6 Ib _)
 have aE:w.heap.size<N.heap.size:=Ia
 have aF:w.heap.size≠N.heap.size:=Ia
 have aD:=Qq M
 clear M
 have I:=Qq J;have G:=Qq r8
 clear A J r8
 obtain ⟨O,T,U,V,Y,Z,aA,aB,aC⟩:=AC D
 clear D
 go_upto_region 12 with (go_at_call 18;refine (HP.o _ I.o).mono ?_;rintro e w' ⟨rfl,rfl⟩)
 obtain ⟨y0,y1,y2,y3,y4,y5,y6,y7,y8⟩:=AC G.o
 obtain ⟨f0,f1,f2,f3,f4,f5,f6,f7,f8⟩:=BB G.o
 go_wp2_with fail
 show bodyPost _ _ _ _ _ (put9 N w (.int .i64 2) Ig (.int .i64 1) Ig Ie Ie Ie Ic Ic)
 exact Q7 (v:=.agg #[.int .i64 2,Ig,.int .i64 1,Ig,Ie,Ie,Ie,Ic,Ic]) (by simp [results,results17,go_sem,Xm G.o]) rfl (Uu (Yv 2 [] 1 [] Ib Ib) I.o rfl)
theorem O4 (S:Nat->Prop) (v:Value) (l:List Int) (w:World) (hs:V5 S w v l) (hi:Kz l) (hk:Xk l 0 13=2):
  Calls prog 17 #[v,Ic] w (J7 w (Gen.check 2)):=by
 have HP:=Qq (λW (hb:Below w w W)=>Ys S v l 0 13 W (hs.below hb) hi Ia Ia)
 rw [hk] at HP
 obtain ⟨p,cap,rfl,_⟩:=hs.len
 clear hs hi hk
 go_enter func17,ntmps17
 go_upto_region 8 with fail
 generalize A:(((((((w.alloc _).alloc _).alloc _).alloc _).alloc _).alloc _).alloc _).alloc _=N
 have J:=Iq A (Yj (Yj (Yj (Yj (Yj (Yj (Yj (Zg w _) _) _) _) _) _) _) _)
 have M:N=w.heap.size+8:=by rw [<- A];simp
 have r8:=Ik (b:=w.heap.size) A (Zb (Zb (Zb (Zb (Zb (Zb (Zb (Y6 rfl _) _) _) _) _) _) _) _)
 have D:=Ik (b:=w.heap.size+1+1+1+1+1+1+1) A (Y6 Ib _)
 have aE:w.heap.size<N.heap.size:=Ia
 have aF:w.heap.size≠N.heap.size:=Ia
 have aD:=Qq M
 clear M
 have I:=Qq J;have G:=Qq r8
 clear A J r8
 obtain ⟨O,T,U,V,Y,Z,aA,aB,aC⟩:=AC D
 clear D
 go_upto_region 12 with (go_at_call 18;refine (HP.o _ I.o).mono ?_;rintro e w' ⟨rfl,rfl⟩)
 obtain ⟨y0,y1,y2,y3,y4,y5,y6,y7,y8⟩:=AC G.o
 obtain ⟨f0,f1,f2,f3,f4,f5,f6,f7,f8⟩:=BB G.o
 go_wp2_with fail
 show bodyPost _ _ _ _ _ (put9 N w (.int .i64 2) Ig (.int .i64 1) Ig Ie Ie Ie Ic Ic)
 exact Q7 (v:=.agg #[.int .i64 2,Ig,.int .i64 1,Ig,Ie,Ie,Ie,Ic,Ic]) (by simp [results,results17,go_sem,Xm G.o]) rfl (Uu (Yv 2 [] 1 [] Ib Ib) I.o rfl)
theorem C6 (S:Nat->Prop) (v:Value) (l:List Int) (w:World) (hs:V5 S w v l) (hi:Kz l) (hk:Xk l 0 13=9):
  Calls prog 17 #[v,Ic] w (J7 w (Gen.check 9)):=by
 have HP:=Qq (λW (hb:Below w w W)=>Ys S v l 0 13 W (hs.below hb) hi Ia Ia)
 rw [hk] at HP
 obtain ⟨p,cap,rfl,_⟩:=hs.len
 clear hs hi hk
 go_enter func17,ntmps17
 go_upto_region 8 with fail
 generalize D:(((((((w.alloc _).alloc _).alloc _).alloc _).alloc _).alloc _).alloc _).alloc _=A
 have aP:=Iq D (Yj (Yj (Yj (Yj (Yj (Yj (Yj (Zg w _) _) _) _) _) _) _) _)
 have aS:A=w.heap.size+8:=by rw [<- D];simp
 have r8:=Ik (b:=w.heap.size) D (Zb (Zb (Zb (Zb (Zb (Zb (Zb (Y6 rfl _) _) _) _) _) _) _) _)
 have hc:=Ik (b:=w.heap.size+1+1+1) D (Zb (Zb (Zb (Zb (Y6 Ib _) _) _) _) _)
 have bK:w.heap.size<A.heap.size:=Ia
 have bL:w.heap.size≠A.heap.size:=Ia
 have bJ:=Qq aS
 clear aS
 have U:=Qq aP;have V:=Qq r8
 clear D aP r8
 obtain ⟨c0,c1,c2,c3,c4,c5,c6,c7,c8⟩:=AC hc
 clear hc
 go_upto_region 28 with (go_at_call 18;refine (HP.o _ U.o).mono ?_;rintro e w' ⟨rfl,rfl⟩)
 go_wp2_with (first
   | (go_at_call 63;refine (Vo w [61,61] _ _ (AW aX aZ aY bA aT bC bF aU bD bG aV bE bH aW bB) [.int .i64 1,Ig,Ic,Ig,Ie,Ie,Ie,Ic,Ic] _ Ib G.o (Yv 1 [] 0 [] Ib Ib) (by have h:=(O.o:Below A A _).size;omega)).mono ?_;rintro e w2 ⟨aC,aE,aD,aF,Y,aH,aK,Z,aI,aL,aA,aJ,aM,aB,aG,rfl,aR,M⟩;have I:Below A A w2:=(O.o).n M;have J:=kE I (show w<A.heap.size by omega) V.o;obtain ⟨y0,y1,y2,y3,y4,y5,y6,y7,y8⟩:=AC J;obtain ⟨f0,f1,f2,f3,f4,f5,f6,f7,f8⟩:=BB J;clear J;obtain ⟨bI,N,T⟩:=Im (G.o.move (.f M) Ij) aR I;clear aR M I)
   | (go_at_call 63;refine (Vo w [43,43] _ _ [.int .i64 3,.string ⟨#[99]⟩,Ic,Ig,Ie,Ie,Ie,Ic,Ic] [.int .i64 3,.string ⟨#[99]⟩,Ic,Ig,Ie,Ie,Ie,Ic,Ic] _ Ib (Yv 3 [99] 0 [] Ib Ib) (Yv 3 [99] 0 [] Ib Ib) (by have h:=((Qz _ _):Below A A _).size;omega)).mono ?_;rintro e w1 ⟨aX,aZ,aY,bA,aT,bC,bF,aU,bD,bG,aV,bE,bH,aW,bB,rfl,aQ,aO⟩;have aN:Below A A w1:=((Qz _ _)).n aO;have G:=Qq aQ;have O:=Qq aN;clear aQ aO aN))
 have hR:=kE T.o Ia V.o
 show bodyPost _ _ _ _ _ (put9 w2 w aC (.string aE) aD (.string aF) (.slice Y aH aK) (.slice Z aI aL) (.slice aA aJ aM) aB aG)
 exact Q7 (v:=.agg (AW aC aE aD aF Y aH aK Z aI aL aA aJ aM aB aG)) (by simp [results,results17,go_sem,Xm hR]) rfl (Uu N.o (U.o.n T.o) rfl)
theorem Sn (S:Nat->Prop) (v:Value) (l:List Int) (w:World) (hs:V5 S w v l) (hi:Kz l) (hk:Xk l 0 13=12):
  Calls prog 17 #[v,Ic] w (J7 w (Gen.check 12)):=by
 have HP:=Qq (λW (hb:Below w w W)=>Ys S v l 0 13 W (hs.below hb) hi Ia Ia)
 rw [hk] at HP
 obtain ⟨p,cap,rfl,_⟩:=hs.len
 clear hs hi hk
 go_enter func17,ntmps17
 go_upto_region 8 with fail
 generalize J:(((((((w.alloc _).alloc _).alloc _).alloc _).alloc _).alloc _).alloc _).alloc _=N
 have Z:=Iq J (Yj (Yj (Yj (Yj (Yj (Yj (Yj (Zg w _) _) _) _) _) _) _) _)
 have aA:N=w.heap.size+8:=by rw [<- J];simp
 have r8:=Ik (b:=w.heap.size) J (Zb (Zb (Zb (Zb (Zb (Zb (Zb (Y6 rfl _) _) _) _) _) _) _) _)
 have Y:w.heap.size<N.heap.size:=Ia
 have aD:w.heap.size≠N.heap.size:=Ia
 have aC:=Qq aA
 clear aA
 have O:=Qq Z;have aB:=Qq r8
 clear J Z r8
 go_upto_region 33 with (go_at_call 18;refine (HP.o _ O.o).mono ?_;rintro e w' ⟨rfl,rfl⟩)
 have D:=Qq True.intro
 go_wp2_with (have hk:=D.o;clear D hk;generalize G:World.alloc N _=W9;have I:=Iq G (Zg _ _);have M:=Ik (b:=N.heap.size) G (Qw _ _);have A:=kE I Y aB.o;obtain ⟨y0,y1,y2,y3,y4,y5,y6,y7,y8⟩:=AC A;obtain ⟨f0,f1,f2,f3,f4,f5,f6,f7,f8⟩:=BB A;obtain ⟨U,T,V⟩:=Im M I A;clear G M I A)
 show bodyPost _ _ _ _ _ (put9 W9 w (.int .i64 4) (.string ⟨#[97,110,121]⟩) Ic Ig Ie Ie (Io N 0 1 1) Ic Ic)
 exact Q7 (v:=.agg #[.int .i64 4,.string ⟨#[97,110,121]⟩,Ic,Ig,Ie,Ie,Io N 0 1 1,Ic,Ic]) (by simp [results,results17,go_sem,Xm V.o]) rfl (Uu (Xv (nm:=[97,110,121]) (s:=[]) Ib Ib (Sl.nil _ _ _) (Sl.nil _ _ _) (Y4 (xs:=[Ex.mk 9 [] 0 [] [] [] [] 0 0]) U.o Y (Cs.one (r:=Vz) (x:=Ex.mk 9 [] 0 [] [] [] [] 0 0) (c:=[.int .i64 9,.string ⟨#[]⟩,.int .i64 0,.string ⟨#[]⟩,.slice none 0 0,.slice none 0 0,.slice none 0 0,.int .i64 0,.int .i64 0]) (show Yx _ _ _ _ from Yv 9 [] 0 [] Ib Ib)) rfl rfl Ib)) (O.o.n T.o) rfl)
theorem Sg (S:Nat->Prop) (v:Value) (l:List Int) (w:World) (hs:V5 S w v l) (hi:Kz l) (hk:Xk l 0 13=11):
  Calls prog 17 #[v,Ic] w (J7 w (Gen.check 11)):=by
 have HP:=Qq (λW (hb:Below w w W)=>Ys S v l 0 13 W (hs.below hb) hi Ia Ia)
 rw [hk] at HP
 obtain ⟨p,cap,rfl,_⟩:=hs.len
 clear hs hi hk
 go_enter func17,ntmps17
 go_upto_region 8 with fail
 generalize G:(((((((w.alloc _).alloc _).alloc _).alloc _).alloc _).alloc _).alloc _).alloc _=W8
 have bE:=Iq G (Yj (Yj (Yj (Yj (Yj (Yj (Yj (Zg w _) _) _) _) _) _) _) _)
 have bG:W8=w.heap.size+8:=by rw [<- G];simp
 have r8:=Ik (b:=w.heap.size) G (Zb (Zb (Zb (Zb (Zb (Zb (Zb (Y6 rfl _) _) _) _) _) _) _) _)
 have ha:=Ik (b:=w.heap.size+1) G (Zb (Zb (Zb (Zb (Zb (Zb (Y6 Ib _) _) _) _) _) _) _)
 have hb:=Ik (b:=w.heap.size+1+1) G (Zb (Zb (Zb (Zb (Zb (Y6 Ib _) _) _) _) _) _)
 have aA:=Ik (b:=w.heap.size+1+1+1+1+1+1) G (Zb (Y6 Ib _) _)
 have Y:w.heap.size<W8.heap.size:=Ia
 have bN:w.heap.size≠W8.heap.size:=Ia
 have bL:=Qq bG
 clear bG
 have aN:=Qq bE;have bJ:=Qq r8
 clear G bE r8
 obtain ⟨a0,a1,a2,a3,a4,a5,a6,a7,a8⟩:=AC ha
 clear ha
 obtain ⟨b0,b1,b2,b3,b4,b5,b6,b7,b8⟩:=AC hb
 clear hb
 obtain ⟨aB,aC,aD,aE,aF,aG,aH,aI,aJ⟩:=AC aA
 clear aA
 go_upto_region 32 with (go_at_call 18;refine (HP.o _ aN.o).mono ?_;rintro e w' ⟨rfl,rfl⟩)
 have N:=Qq True.intro;have O:=Qq True.intro
 go_wp2_with (first
   | (have hk:=N.o;clear N hk;generalize T:World.alloc W8 _=W9;have A:=Iq T (Zg _ _);have Z:=Ik (b:=W8.heap.size) T (Qw _ _);have a0:=kC A a0;have a1:=kC A a1;have a2:=kC A a2;have a3:=kC A a3;have a4:=kC A a4;have a5:=kC A a5;have a6:=kC A a6;have a7:=kC A a7;have a8:=kC A a8;have aB:=kC A aB;have aC:=kC A aC;have aD:=kC A aD;have aE:=kC A aE;have aF:=kC A aF;have aG:=kC A aG;have aH:=kC A aH;have aI:=kC A aI;have aJ:=kC A aJ;have aO:=Qq Z;have J:=Qq A;clear T Z A)
   | (have hk:=O.o;clear O hk;generalize I:World.alloc W9 _=bM;have U:=Iq I (Zg _ _);have M:=Ik (b:=W9.heap.size) I (Qw _ _);have aK:=Qq M;have D:=Qq U;clear I M U)
   | (go_at_call 63;refine (Vo w [33,61] _ _ [.int .i64 9,Ig,Ic,Ig,Ie,Ie,Io W8 0 2 2,Ic,Ic] [.int .i64 9,Ig,Ic,Ig,Ie,Ie,Io W9 0 2 2,Ic,Ic] _ Ib (Xv (nm:=[]) (s:=[]) Ib Ib (Sl.nil _ _ _) (Sl.nil _ _ _) (Y4 (xs:=[Gen.a,Gen.b]) (kB D.o aO.o) Y ((Cs.one (r:=Vz) (Yv 3 [97] 0 [] Ib Ib)).app (Cs.one (r:=Vz) (Yv 3 [98] 0 [] Ib Ib))) rfl rfl Ib)) (Xv (nm:=[]) (s:=[]) Ib Ib (Sl.nil _ _ _) (Sl.nil _ _ _) (Y4 (xs:=[Gen.one,Gen.a]) aK.o (Qa Y J.o.size) ((Cs.one (r:=Vz) (Yv 0 [] 1 [] Ib Ib)).app (Cs.one (r:=Vz) (Yv 3 [97] 0 [] Ib Ib))) rfl rfl Ib)) (Qa Y (J.o.n D.o).size)).mono ?_;rintro e w1 ⟨aT,aV,aU,aW,aP,aY,bB,aQ,aZ,bC,aR,bA,bD,aS,aX,rfl,bF,aL⟩;have V:=kE (J.o.n (D.o.n aL)) Y bJ.o;obtain ⟨y0,y1,y2,y3,y4,y5,y6,y7,y8⟩:=AC V;obtain ⟨f0,f1,f2,f3,f4,f5,f6,f7,f8⟩:=BB V;have bI:=Qq V;clear V;have H1:=Qq bF;have bH:=Qq aL;clear bF aL))
 show bodyPost _ _ _ _ _ (put9 w1 w aT (.string aV) aU (.string aW) (.slice aP aY bB) (.slice aQ aZ bC) (.slice aR bA bD) aS aX)
 exact Q7 (v:=.agg (AW aT aV aU aW aP aY bB aQ aZ bC aR bA bD aS aX)) (by simp [results,results17,go_sem,Xm bI.o]) rfl (Uu H1.o (aN.o.n (J.o.n (D.o.n bH.o))) rfl)
theorem Qjj (g:Nat) (lb:Array Value) (eg:∀ args w,(callFunc g args).run prog w=.ok (.enter g args) w) (S:Nat->Prop) (va vb:Value) (a:List Rel) (b:List Rel) (w:World) (ha:Sl Yk S w va a) (hb:Sl Yk S w vb b) (p:Rel->Rel->Bool)
  (hp:∀ (W:World) (x:Rel) (y:Rel) (cx cy:List Value),Below w w W->x ∈ a->y ∈ b->Yk.R S W cx x->Yk.R S W cy y->Calls prog g (#[.agg cx.toArray,.agg cy.toArray]++lb) W λe w'=>e=.returned (.bool (p x y))/\Below W W w'):
  Calls prog 54 #[va,vb,.func (.func g) #[] lb] w λe w'=>e=.returned (.bool (Iu p a b))/\Below w w w':=by
 obtain ⟨pa,ca,rfl,aI⟩:=ha.len
 obtain ⟨pb,cb,rfl,aJ⟩:=hb.len
 obtain ⟨HA,HB,HP⟩:=Im ha hb hp
 clear ha hb hp
 by_cases hn:a.length=b.length
 ·obtain ⟨n,M⟩:=eX (b.length)
  rw [M] at hn aJ HB
  rw [hn] at HA aI
  rw [hn,M]
  obtain ⟨r,hr⟩:=eX (Iu p a b)
  rw [hr]
  obtain ⟨HR,V,Y⟩:=Im hr hn M
  clear hr hn M
  go_enter func54,ntmps54
  go_wp2_with fail
  go_loopw [17] (λi wr=>∃ k:Nat,k<=n/\i=.int .i64 k/\Aside (Iu p (a.drop k) (b.drop k)=r)/\Below w w wr) (λi _=>n - (intOf i).toNat)
  case atStart=>exact ⟨0,Q8 _,rfl,HR.o,Qz _ _⟩
  obtain ⟨k,aS,rfl,hE,Z⟩:=hrel
  have D:=Qq Z
  clear Z
  by_cases hlt:k<n
  ·have aQ:(0:Int)<=(k:Int):=Ia
   have aR:(k:Int)<(n:Int):=Ia
   have I:k<a.length:=by rw [V.o];exact hlt
   have J:k<b.length:=by rw [Y.o];exact hlt
   obtain ⟨x,hx⟩:∃ x,a[k]?=some x:=⟨_,Qx I⟩
   obtain ⟨y,hy⟩:∃ y,b[k]?=some y:=⟨_,Qx J⟩
   have aB:a.drop k=x::a.drop (k+1):=by rw [Qp I];rw [Qx I] at hx;cases hx;rfl
   have aC:b.drop k=y::b.drop (k+1):=by rw [Qp J];rw [Qx J] at hy;cases hy;rfl
   obtain ⟨ba,oa,cx,rfl,aO,-,-,T,N⟩:=(HA.o.below D.o).elem hx
   obtain ⟨bb,ob,cy,rfl,aP,-,-,U,O⟩:=(HB.o.below D.o).elem hy
   have A:=Qq (λW (h:Below wr wr W)=>HP.o W x y cx cy (D.o.n h) (Qy hx) (Qy hy) (Yk.frame T (.f h)) (Yk.frame U (.f h)))
   obtain ⟨aV,aT,rfl⟩:=Be T
   obtain ⟨aW,aU,rfl⟩:=Be U
   have d0:=N 0 _ rfl;have d1:=N 1 _ rfl
   have e0:=O 0 _ rfl;have e1:=O 1 _ rfl
   simp only [show Yk.k=2 from rfl,Nat.add_zero] at d0 d1
   simp only [show Yk.k=2 from rfl,Nat.add_zero] at e0 e1
   have aA:(p x y&&Iu p (a.drop (k+1)) (b.drop (k+1)))=r:=by have:=hE.o;rw [aB,aC] at this;exact this
   have G:=Qq aA
   clear hE aA aB aC I J hx hy T U N O
   cases hq:p x y with
   | true=>
    rw [hq] at A G
    go_wp2_with (go_at_fn g;refine (A.o _ (Zs _ _ _)).mono ?_;rintro e w' ⟨rfl,hw⟩;have HW:=Qq (D.o.n ((Zs wr _ _).n hw));clear hw)
    go_roundw
    case measure=>simp [intOf];omega
    case rel=>exact ⟨k+1,Ia,by go_num,(show Aside _ from by have:=G.o;rwa [Bool.true_and] at this),HW.o⟩
   | false=>
    rw [hq] at A G
    have aM:r=false:=by have:=G.o;rw [Bool.false_and] at this;exact this.symm
    subst aM
    go_wp2_with (go_at_fn g;refine (A.o _ (Zs _ _ _)).mono ?_;rintro e w' ⟨rfl,hw⟩;have HW:=Qq (D.o.n ((Zs wr _ _).n hw));clear hw)
    go_ret
    exact ⟨rfl,HW.o⟩
  have aN:r=true:=by
   have:=hE.o
   rw [Qu (by rw [V.o];omega),Qu (by rw [Y.o];omega)] at this
   exact this.symm
  subst aN
  clear hE
  go_wp2_with fail
  go_ret
  exact ⟨rfl,D.o⟩
 rw [Ky p a b hn]
 have hq:((a.length:Int) != (b.length:Int))=true:=by rw [bne_iff_ne];omega
 clear hn
 go_enter func54,ntmps54
 go_wp2_with fail
 go_ret
 exact ⟨rfl,Qz _ _⟩
theorem Tl (S:Nat->Prop) (x y:Rel) (cx cy:List Value) (w:World) (hx:Yk.R S w cx x) (hy:Yk.R S w cy y):
  Calls prog 55 #[cx,cy] w λe w'=>e=.returned (.bool (Kh x y))/\Below w w w':=by
 obtain ⟨va,rfl,_,A⟩:=hx
 obtain ⟨vb,rfl,_,D⟩:=hy
 have HC:=Qq (λW (hb:Below w w W)=>N5 53 #[] (enters_of func53 Ir rfl) S va vb x.rows y.rows W (A.below hb) (D.below hb) eqv
  (λW' x y cx cy _ _ _ h1 h2=>Gu S x y cx cy W' h1 h2))
 obtain ⟨qa,I,rfl,_⟩:=A.len
 obtain ⟨qb,J,rfl,_⟩:=D.len
 have G:Kh x y=(Iu eqv x.rows y.rows&&decide (x.table=y.table)):=rfl
 generalize Iu eqv x.rows y.rows=c at HC G
 clear A D
 unfold sv
 by_cases he:x.table=y.table
 ·have hq:(x.table==y.table)=true:=by rw [beq_iff_eq];exact he
  rw [G,show (c&&decide (x.table=y.table))=c by simp [he]]
  clear he G
  go_enter func55,ntmps55
  go_wp2_with (go_at_call 56;refine (HC.o _ (Zs _ _ _)).mono ?_;rintro e w' ⟨rfl,hw⟩;have HW:=Qq ((Zs w _ _).n hw);clear hw)
  go_ret
  exact ⟨rfl,HW.o⟩
 have hq:(x.table==y.table)=false:=by rw [<- Qt,beq_iff_eq];exact he
 rw [G,show (c&&decide (x.table=y.table))=false by simp [he]]
 clear he G
 go_enter func55,ntmps55
 go_wp2_with fail
 go_ret
 exact ⟨rfl,Zs _ _ _⟩
theorem Mp (S S':Nat->Prop) (av bv:Value) (a b:List Rel) (w:World) (ha:Sl Yk S w av a) (hb:Sl Yk S' w bv b):
  Calls prog 15 #[av,bv] w λe w'=>e=.returned (.bool (Iu Kh a b))/\Below w w w':=by
 have HE:=Qq (Qjj 55 #[] (enters_of func55 Ir rfl) (λ_=>True) av bv a b w (ha.mono (λ_ _ _=>trivial)) (hb.mono (λ_ _ _=>trivial)) Kh
  (λW' x y cx cy _ _ _ hx hy=>Tl _ x y cx cy W' hx hy))
 obtain ⟨pa,ca,rfl,_⟩:=ha.len
 obtain ⟨pb,cb,rfl,_⟩:=hb.len
 generalize Iu Kh a b=r at HE |-
 clear ha hb
 go_enter func15,ntmps15
 go_wp2_with (go_at_call 54;refine HE.o.mono ?_;rintro e w' ⟨rfl,hw⟩;have HW:=Qq hw;clear hw)
 go_ret
 exact ⟨rfl,HW.o⟩
end Go.Proofs.YtdpibdpbgokmoaaGreatDoor
