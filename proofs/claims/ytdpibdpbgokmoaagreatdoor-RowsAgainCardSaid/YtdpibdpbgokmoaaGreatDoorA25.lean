import Derived.Test.YtdpibdpbgokmoaaGreatDoorA24
import Derived.Test.YtdpibdpbgokmoaaGreatDoorA22
import Derived.Test.YtdpibdpbgokmoaaGreatDoorA20
set_option maxRecDepth 100000
set_option maxHeartbeats 400000000
namespace Go.Proofs.YtdpibdpbgokmoaaGreatDoor
open Go.RowKit Go.Shelf Go.Lib Tryz
def Vl (d:Nat) (t:Tbl) (row:Val):Bool:=Vw t.check&&(match Y0 d t.check row.names row.kids with
 | some v=>decide (v.kind=2/\v.n=1)
 | none=>false)
theorem rsat_any (S S0:Nat->Prop) (d:Nat) (t:Tbl) (row:Val) (ct cr:List Value) (w:World) (he:Xu d t.check) (ht:Zn.R S w ct t) (hr:Z9 S0 w cr row) (hl:row.names.length<=row.kids.length) (hd:row.kids.length+d<=1000) (hb:∀ v ∈ row.kids,Y3 v):
  Calls prog 45 #[ct,cr] w λe w'=>e=.returned (.bool (Vl d t row))/\Below w w w':=by
 obtain ⟨bN,bM,bP,bO,bX,bW,k0,aU,n0,aV,aR,aP,A,aS,n20,aC,aT,aQ,aD,a0,z0,rfl,_,_,_,_,G⟩:=Yq ht
 obtain ⟨q3,l3,q4,l4,aM,hn,hk,_⟩:=Z9.cells hr
 simp only [Il] at aM
 subst aM
 unfold AL
 have HS:=Qq (λW (hW:Below w w W)=>E6 t.check S (AW k0 aU n0 aV aR aP A aS n20 aC aT aQ aD a0 z0) W (G.move (.f hW) Ij))
 have HE:=Qq (λW (hW:Below w w W)=>he (λ_=>True) (AW k0 aU n0 aV aR aP A aS n20 aC aT aQ aD a0 z0) _ _ row.names row.kids W (G.move (.f hW) (λ_ _ _=>trivial)) ((hn.below hW).mono (λ_ _ _=>trivial)) ((hk.below hW).mono (λ_ _ _=>trivial)) hl hd hb)
 clear ht hr G hn hk he hb hl hd
 obtain ⟨r,hr⟩:=eX (Vl d t row)
 rw [hr]
 have HR:=Qq hr
 clear hr
 obtain ⟨bs,Z⟩:=eX (Vw t.check)
 rw [Z] at HS
 have aB:=Qq Z
 clear Z
 go_enter func45,ntmps45
 go_upto_region 1 with fail
 generalize J:(w.alloc _).alloc _=W1
 have aI:=Iq J (Zs _ _ _)
 have V:=Ik (b:=w.heap.size) J (Q5 _ _ _)
 have aE:=Ik (b:=w.heap.size+1) J (Q6 _ _ _)
 obtain ⟨I,bA,aZ⟩:=Im aI V aE
 obtain ⟨c0,c1,c2,c3,c4,c5,c6,c7,c8,c9,A,T,U⟩:=AP V
 clear J aI V aE
 go_upto_region 2 with (go_at_call 96;refine (HS.o _ I.o).mono ?_;rintro e w5 ⟨rfl,aJ⟩;have D:=Qq aJ;clear aJ)
 clear c0 c1 c2 c3 c4 c5 c6 c7 c8 c9 A T U
 cases bs with
 | false=>
  go_wp2_with fail
  go_ret
  refine ⟨?_,I.o.n D.o⟩
  rw [<- HR.o];unfold Vl;rw [aB.o];rfl
 | true=>
  have aG:=kB D.o bA.o
  have aF:=kB D.o aZ.o
  obtain ⟨c0,c1,c2,c3,c4,c5,c6,c7,c8,c9,A,T,U⟩:=AP aG
  obtain ⟨r0,r1,r2,r3,r4⟩:=If aF
  clear aG aF
  go_upto_region 5 with (go_at_call 97;refine (HE.o _ (I.o.n D.o)).mono ?_;rintro e w7 ⟨k7,n7,s7,bU,bS,bQ,bV,bT,bR,b7,rfl,aO,aK⟩;have O:=Qq aO;clear aO;have aY:=Qq aK;clear aK)
  generalize Y:w7.alloc _=W8
  have aL:=Iq Y (Zg _ _)
  have aH:=Ik (b:=w7.heap.size) Y (Qw _ _)
  have M:=Qq (((I.o.n D.o).n aY.o).n aL)
  obtain ⟨v0,v1,v2,v3,v4⟩:=If aH
  clear Y aL aH c0 c1 c2 c3 c4 c5 c6 c7 c8 c9 A T U r0 r1 r2 r3 r4
  have aN:r=(match Y0 d t.check row.names row.kids with
   | some v=>decide (v.kind=2/\v.n=1)
   | none=>false):=by rw [<- HR.o];unfold Vl;rw [aB.o];rfl
  have N:=Qq aN
  clear aN
  have bK:b7=false\/(b7=true/\(k7==2)=false)\/(b7=true/\(k7==2)=true):=by cases b7 <;> cases (k7==2) <;> simp
  rcases bK with rfl | ⟨rfl,hq⟩ | ⟨rfl,hq⟩
  focus
   go_wp2_with fail
   go_ret
   refine ⟨?_,M.o⟩
   rw [N.o,O.o.2 rfl];rfl
  focus
   go_wp2_with fail
   go_ret
   refine ⟨?_,M.o⟩
   obtain ⟨v,h1,h2,h3⟩:=O.o.1 rfl
   have hk:¬ v.kind=2:=by rw [h1.head.1];simpa using hq
   rw [N.o,h3]
   simp [hk]
  focus
   go_wp2_with fail
   go_ret
   refine ⟨?_,M.o⟩
   obtain ⟨v,h1,h2,h3⟩:=O.o.1 rfl
   have hk:v.kind=2:=by rw [h1.head.1];simpa using hq
   rw [N.o,h3]
   simp [hk,h1.head.2.1]
   rfl
def Dp (us:List Sm) (v:Val) (t:Ty) (b:Bool):Prop:=∀ (S S' S'':Nat->Prop) (cv ct:List Value) (uv:Value) (w:World),Sl J3 S'' w uv us->Z9 S w cv v->Xl S' w ct t ->
 Calls prog 93 #[uv,cv,ct] w λe w'=>e=.returned (.bool b)/\Gr w w'
theorem Gr.dr {a b:World} (h:Gr a b):Gr a b.drew:=h.n ⟨1,#[],by rw [Sort.grow_empty];rfl⟩
theorem rhasLeaf (us:List Sm) (v:Val) (k:Int) (hk:k=0\/k=1\/k=2) (s:Bs) (n:Int) (names:List Bs) (kids:List Ty):Dp us v (.mk k s n names kids) (v.kind==k):=by
 intro S S' D cv ct uv w hu hv ht
 obtain ⟨up,uc,rfl,_⟩:=hu.len
 obtain ⟨p3,k3,p4,k4,A,_⟩:=Z9.cells hv
 simp only [Il] at A
 subst A
 obtain ⟨q3,l3,q4,l4,rfl,_⟩:=ht.cells'
 clear hv ht hu
 rcases hk with rfl | rfl | rfl
 all_goals
  go_enter func93,ntmps93
  go_upto_region 5 with fail
  go_region_with fail
  all_goals
   go_wp2_with fail
   go_ret
   exact ⟨rfl,by first | exact (Uj _ _ _).dr | exact ((Uj _ _ _).alloc _).dr | exact (Uj _ _ _).dr.alloc _ | exact (Uj _ _ _).alloc _⟩
theorem rhasGood (us:List Sm) (v:Val) (t:Ty) (b:Bool) (hg:Y7 v) (h:Dp us v t b) (S S' S'':Nat->Prop) (cv ct:List Value) (uv:Value) (w:World) (hu:Sl J3 S'' w uv us) (hv:Z9 S w cv v) (ht:Xl S' w ct t):
  Calls prog 39 #[uv,cv,ct] w λe w'=>e=.returned (.bool b)/\Below w w w':=by
 obtain ⟨up,uc,rfl,_⟩:=hu.len
 have HV:=Qq (λW (hb:Below w w W)=>T0 v hg S cv W (hv.move (.f hb) Ij))
 have HH:=Qq (λW (hb:Below w w W)=>h S S' S'' cv ct _ W (hu.below hb) (hv.move (.f hb) Ij) (ht.move (.f hb) Ij))
 obtain ⟨p3,k3,p4,k4,I,_⟩:=Z9.cells hv
 simp only [Il] at I
 subst I
 obtain ⟨y1,y2,y3,y4,y5,y6,y7,y8,y9,rfl⟩:=ht.cells
 clear hu hv ht h hg
 go_enter func39,ntmps39
 go_wp2_with fail
 refine (HV.o _ (Zs _ _ _)).mono ?_
 rintro e w1 ⟨rfl,G⟩
 have A:=(G.block w (by simp;omega)).trans (Q5 w _ _)
 have D:=(G.block (w+1) Ib).trans (Q6 w _ _)
 have c0:=AB A;have c1:=AA A;have c2:=AM A;have c3:=AH A;have c4:=Iz A;have d0:=AB D;have d1:=AA D;have d2:=AM D;have d3:=AH D;have d4:=Iz D
 have HW:=Qq ((Zs w _ _).n G)
 clear G A D
 go_wp2_with (go_at_call 93;refine (HH.o _ HW.o).mono ?_;rintro e w' ⟨rfl,G⟩)
 go_ret
 exact ⟨rfl,HW.o.n G.bl⟩
theorem S7 (S0 S1:Nat->Prop) (lv:Value) (l:List Rel) (tn:Bs) (x:Val) (cx:List Value) (w:World) (i:Nat) (o:Rel) (hl0:Sl Yk S0 w lv l) (hx0:Z9 S1 w cx x) (hf:l.findIdx? (λr=>decide (r.table=tn))=some i) (ho:l[i]?=some o)
  (hne:∀ y ∈ o.rows,eqv y x=false) (k:Nat) (y0:Val) (hk:o.rows[k]?=some y0) (hk1:0<Zu y0 x) (hk2:∀ (j:Nat) (y:Val),j<k->o.rows[j]?=some y->decide (0<Zu y x)=false) (hrl:∀ r ∈ l,r.rows.length<=10000):
  Calls prog 16 #[lv,sv tn,cx] w (Va w (l.set i ⟨o.table,Un o.rows k x⟩)):=by
 have hx:Z9 (λb=>b<w) w cx x:=hx0.move (.refl _ _) (λb hb _=>hb)
 have aF:=Qq (λW (hb:Below w w W)=>Um S0 lv l W (hl0.below hb))
 have cD:X8 (λr=>decide (r.table=tn)) l=i:=by unfold X8;rw [hf]
 have aG:=Qq (λv W (hs:Sl Yk (λ_=>True) W v l)=>U7 _ v l tn W hs)
 rw [cD] at aG
 have cC:i<l.length:=(Qj ho).1
 have cF:l.length<=1000000:=by obtain ⟨_,_,_,h⟩:=hl0.len;exact h
 obtain ⟨lp,lc,rfl,_⟩:=hl0.len
 obtain ⟨HX,HO,bM⟩:=Im hx ho hrl
 have dS:=hrl o (Qy ho)
 have aW:o.rows.any (λv=>eqv v x)=false:=by rw [List.any_eq_false];intro y hy;rw [hne y hy];decide
 have aX:X8 (λv=>decide (0<Zu v x)) o.rows=(k:Int):=Jk hk (by simpa using hk1) hk2
 have cZ:k<=o.rows.length:=Nat.le_of_lt (Qj hk).1
 have dR:decide ((k:Int)<0)=false:=Ib
 obtain ⟨x3,aQ,x4,aR,cA,_⟩:=Z9.cells hx
 simp only [Il] at cA
 have HB:=Qq (λv W (hb:Below w w W) (hs:Sl Zc (λ_=>True) W v o.rows) (hc:∀ j u,cx[j]?=some u->W.cell? ⟨w,j,none⟩=some u) (hR:w<W.heap.size)=>Ph Tryz.cfVal Zc isAgg36 sizeOf36 58 #[Iv w] (enters_of func58 Ir rfl) (λ_=>True) v o.rows W _ hs
  (Hg w (λ_=>True) x cx o.rows W hc hR (hx.move (.f hb) (λ_ _ _=>trivial))))
 have HI:=Qq (λv W (hb:Below w w W) (hs:Sl Zc (λ_=>True) W v o.rows) (hc:∀ j u,cx[j]?=some u->W.cell? ⟨w,j,none⟩=some u) (hR:w<W.heap.size)=>Fi Tryz.ixVal Zc isAgg36 sizeOf36 60 #[Iv w] (enters_of func60 Ir rfl) (λ_=>True) v o.rows W _ hs
  (R8 w (λ_=>True) x cx o.rows W hc hR (hx.move (.f hb) (λ_ _ _=>trivial))))
 rw [aW] at HB
 rw [aX] at HI
 subst cA
 clear hx hx0 hl0 hf cD hne hk hk1 hk2 hrl aW aX ho
 unfold sv at aG |-
 obtain ⟨n,hn⟩:=eX (l.length)
 unfold Jm at aF
 rw [hn] at aF cC cF |-
 have HN:=Qq hn
 clear hn
 have dO:(0:Int)<=(i:Int):=Ia
 have dP:(i:Int)<(n:Int):=Ia
 have dQ:decide ((i:Int)<0)=false:=Ib
 go_enter func16,ntmps16
 go_wp2_with fail
 obtain ⟨W1,aJ⟩:=eX (w.alloc (.cells (Is x x3 aQ x4 aR) 36))
 have aZ:=Iq aJ (Zg _ _)
 have bT:=Ik (b:=w.heap.size) aJ (Qw _ _)
 have aE:=Qq aZ;have bQ:=Qq bT
 rw [aJ]
 have bZ:=aF.o W1 aZ
 clear aJ aZ bT
 refine bZ.mono ?_
 rintro e w2 ⟨p,cap,rvs,rfl,I,bX⟩
 obtain ⟨g,dF,hv,dM,dN⟩:=I.row.form (by rw [HN.o];omega)
 simp only [Qr] at hv
 obtain ⟨rfl,-,rfl⟩:=hv
 obtain ⟨bE,aA⟩:∃ bE,rvs[i]?=some bE:=⟨_,Qx (by rw [I.len,HN.o];exact cC)⟩
 obtain ⟨css,A⟩:=I.rows i o bE HO.o aA
 obtain ⟨aC,aB,rfl⟩:=A.form
 obtain ⟨bN,bF,G⟩:=Im I bX aA
 have bK:=Qq (aG.o _ w2 (I.sl (by rw [HN.o];omega) (λr hr=>by have:=bM.o r hr;omega) _ (λ_ _=>trivial) (λ_ _ _=>trivial)))
 clear I bX A aA bZ aF aG
 go_wp2_with fail
 refine bK.o.mono ?_
 rintro e w3 ⟨rfl,aN⟩
 have U:=bN.o.below aN
 have aL:=kB aN (kE bF.o (Z8 bQ.o) bQ.o)
 obtain ⟨aH,D,-,J⟩:=U.at HO.o G.o
 have c1:=Qk _ _ (i*2+1) _ _ _ D
 rw [J] at c1
 obtain ⟨css,A⟩:=U.rows i o _ HO.o G.o
 have aS:=Qq (aE.o.trans ((bF.o.n aN).mono aE.o.size))
 have cP:=Qq (HB.o _ w3 aS.o (A.sl Ia (λ_ _=>trivial) (λ_ _ _=>trivial)) (λj u hu=>by rw [Qk _ _ j _ _ _ aL];simpa using hu) (Z8 aL))
 have bO:=Qq U;have cV:=Qq aL
 clear U aL D J A aN aH HB
 go_wp2_with fail
 refine cP.o.mono ?_
 rintro e w4 ⟨rfl,aO⟩
 have V:=bO.o.below aO
 have aM:=kB aO cV.o
 obtain ⟨aH,D,-,J⟩:=V.at HO.o G.o
 have c4:=Qk _ _ (i*2+1) _ _ _ D
 rw [J] at c4
 obtain ⟨css,A⟩:=V.rows i o _ HO.o G.o
 have aT:=Qq (aS.o.n aO)
 have cT:=Qq (HI.o _ w4 aT.o (A.sl Ia (λ_ _=>trivial) (λ_ _ _=>trivial)) (λj u hu=>by rw [Qk _ _ j _ _ _ aM];simpa using hu) (Z8 aM))
 have bP:=Qq V;have cW:=Qq aM
 clear V aM D J A aO aH HI c1
 go_wp2_with fail
 refine cT.o.mono ?_
 rintro e w5 ⟨rfl,aP⟩
 have N:=bP.o.below aP
 have O:=kB aP cW.o
 obtain ⟨aH,D,-,J⟩:=N.at HO.o G.o
 have c5:=Qk _ _ (i*2+1) _ _ _ D
 rw [J] at c5
 have x0:=AB O;have x1:=AA O;have x2:=AM O;have dT:=AH O;have dU:=Iz O
 obtain ⟨css,A⟩:=N.rows i o _ HO.o G.o
 have aU:=Qq (aT.o.n aP)
 have cB:=Z8 D
 have dK:=Z8 O
 have cG:g≠w5.heap.size:=Ia
 have dG:w.heap.size≠w5.heap.size:=Ia
 have cH:some g≠(Value.slice aC o.rows.length aB).ownBlock:=λe=>Yl N.row A.row Ih rfl e.symm
 obtain ⟨M,T,bH,cQ⟩:=It N A D J
 have cJ:Z9 (But (Ll (.slice (some ⟨g,0,none⟩) n cap) rvs) (.slice aC o.rows.length aB)) w5 (Is x x3 aQ x4 aR) x:=by
  refine HX.o.move (.f aU.o) (λb _ hb=>?_)
  have dL:b<w.heap.size:=hb
  have dI:=aE.o.size
  refine ⟨⟨λe=>?_,λu hu e=>?_⟩,λe=>?_⟩
  ·have:g=b:=Qb e
   omega
  ·obtain ⟨j,hj⟩:=Zk hu
   obtain ⟨y,hy⟩:∃ y,l[j]?=some y:=⟨_,Qx (by rw [<- M.o.len];exact (Qj hj).1)⟩
   obtain ⟨_,bC⟩:=M.o.rows j y u hy hj
   have:=(bC.row.lt b e).1
   omega
  have:=(T.o.row.lt b e.symm).1
  omega
 have cX:=Qq cJ
 clear N O D J A aP cJ c4
 obtain ⟨W8,aK⟩:=eX ((w5.alloc (.cells (Is x x3 aQ x4 aR) 36)).drew)
 have Y:Below w5 w5 W8:=by rw [<- aK];exact (Zg _ _).drew
 have bU:W8.heap[w5.heap.size]?=some (.cells (Is x x3 aQ x4 aR) 36 (0,0)):=by rw [<- aK,heap_drew];exact Qw _ _
 have aY:W8=w5.heap.size+1:=by rw [<- aK];simp
 have bV:But (Ll (.slice (some ⟨g,0,none⟩) n cap) rvs) (.slice aC o.rows.length aB) w5.heap.size:=by
  refine ⟨⟨λe=>?_,λu hu e=>?_⟩,λe=>?_⟩
  ·exact cG (Qb e)
  ·obtain ⟨j,hj⟩:=Zk hu
   obtain ⟨y,hy⟩:∃ y,l[j]?=some y:=⟨_,Qx (by rw [<- M.o.len];exact (Qj hj).1)⟩
   obtain ⟨_,bC⟩:=M.o.rows j y u hy hj
   have:=(bC.row.lt _ e).2
   omega
  have:=(T.o.row.lt _ e.symm).2
  omega
 have bJ:=Qq (insAny _ W1 W8 (.slice aC o.rows.length aB) o.rows css x _ k w5 1 (T.o.below Y) bU bV (cX.o.move (.f Y) Ij) cZ Ia Ia)
 have cR:=Qq (λ(w6:World) (hg:W8.grownBy w6 (Value.slice aC o.rows.length aB).ownBlock)=>(hg.block g Ia cH).trans ((Y.block g cB).trans bH.o))
 have c8:=kD Y cB c5
 have bG:=Qq Y;have dE:=Qq aY
 have dH:=Qq aK
 clear bV bU Y aY
 go_wp2_with fail
 go_region_with (first | (go_at_call 62;refine bJ.o.mono ?_;rintro e w6 ⟨p6,c6,bS,rfl,aI,bB,bW⟩;have bA:=cR.o w6 bB;have f6:=Qn _ _ (i*2+1) _ _ bA;have k6:=Qk _ _ (i*2+1) _ _ _ bA;rw [cQ.o] at k6;obtain ⟨cU,bI,cN⟩:=Im aI bB bW;clear bA aI bB bW))
 all_goals
  go_wp2_with fail
  go_ret
  have aI:=cU.o;have cY:=cN.o
  have hP:=(M.o.below bG.o).put' HN.o HO.o G.o ⟨bS,aI⟩ bI.o (by
   rcases cY with h | h
   ·exact .inl h
   exact .inr λg' e=>by rw [h] at e;exact Nat.le_of_eq (Qb e))
  have Z:(l.set i ⟨o.table,Un o.rows k x⟩).length=n:=by rw [List.length_set];exact HN.o
  have dC:∀ r ∈ l.set i ⟨o.table,Un o.rows k x⟩,r.rows.length<=1000000:=by
   intro r hr
   rcases List.mem_or_eq_of_mem_set hr with h | rfl
   ·have:=bM.o r h;omega
   show (Un o.rows k x).length<=1000000
   rw [Xo];omega
  refine ⟨some ⟨g,0,none⟩,cap,by rw [Z];rfl,by rw [Z];exact hP.sl (by rw [Z];exact cF) dC _ (λ_ _=>trivial) (λ_ _ _=>trivial),?_⟩
  have bY:=aU.o.n bG.o
  have dJ:=aE.o.size
  refine (bY.grown bI.o bY.size (λb hb=>?_)).setCell (p:=⟨g,i*2+1,none⟩) (by show w<=g;omega) _
  have:=(T.o.row.lt b hb).1
  omega
theorem Ek (a b:Bs):Yi a b=lex (M2 a) (M2 b):=by
 have h:=Ux a b [] []
 rw [List.append_nil,List.append_nil,show lex [] []=0 from rfl,Km] at h
 exact h.symm
theorem Rt:∀ {a b:Bs},Yi a b=0->a=b
 | [],[],_=>rfl
 | [],_::_,h=>by simp [Yi] at h
 | _::_,[],h=>by simp [Yi] at h
 | a::s,b::t,h=>by
  unfold Yi thn at h
  split at h
  ·rename_i h0
   have hab:a.toNat=b.toNat:=by
    by_cases e:(a.toNat:Int)=(b.toNat:Int)
    ·exact_mod_cast e
    exact absurd h0 (Bc e)
   rw [UInt8.toNat_inj.1 hab,Rt h]
  rename_i h0
  exact absurd h h0
theorem Tz {a b c:Bs} (h1:Yi a b<0) (h2:Yi b c<0):Yi a c<0:=by
 rw [Ek] at *
 exact Ez h1 h2
theorem Qju {a b:Bs} (h:¬ Yi a b<0) (hne:a≠b):Yi b a<0:=by
 have h0:Yi a b≠0:=λe=>hne (Rt e)
 have h1:Yi b a=- Yi a b:=by rw [Ek,Ek,Kp]
 omega
abbrev UpB (l:List Bs):Prop:=l.Pairwise (λa b=>Yi a b<0)
theorem twl_take (p:Bs->Bool) (l:List Bs):l.take (l.takeWhile p).length=l.takeWhile p:=by
 induction l with
 | nil=>rfl
 | cons a l ih=>
  rw [List.takeWhile_cons]
  cases p a
  ·rfl
  simp only [if_true,List.length_cons,List.take_succ_cons,ih]
theorem twl_drop (p:Bs->Bool) (l:List Bs):l.drop (l.takeWhile p).length=l.dropWhile p:=by
 induction l with
 | nil=>rfl
 | cons a l ih=>
  rw [List.takeWhile_cons,List.dropWhile_cons]
  cases p a
  ·rfl
  simp only [if_true,List.length_cons,List.drop_succ_cons,ih]
theorem insAt_up:∀ {l:List Bs} {x:Bs},UpB l->x ∉ l->UpB (Xp l (below l x) x):=by
 intro l x h hx
 unfold Xp below
 rw [twl_take,twl_drop]
 induction l with
 | nil=>simp
 | cons a l ih=>
  obtain ⟨D,h2⟩:=List.pairwise_cons.1 h
  have G:x ∉ l:=λe=>hx (List.mem_cons_of_mem _ e)
  rw [List.takeWhile_cons,List.dropWhile_cons]
  by_cases hp:Yi a x<0
  ·simp only [hp,decide_true,if_true,List.cons_append]
   refine List.pairwise_cons.2 ⟨λb hb=>?_,ih h2 G⟩
   rcases Z4.1 hb with hb | hb
   ·exact D b ((List.takeWhile_sublist _).subset hb)
   rcases Z3.1 hb with rfl | hb
   ·exact hp
   exact D b ((List.dropWhile_sublist _).subset hb)
  simp only [hp,decide_false,Bool.false_eq_true,if_false,List.nil_append]
  have A:Yi x a<0:=Qju hp (λe=>hx (by rw [e];exact List.mem_cons_self))
  refine List.pairwise_cons.2 ⟨λb hb=>?_,h⟩
  rcases Z3.1 hb with rfl | hb
  ·exact A
  exact Tz A (D b hb)
theorem Mv {T:Type} {l:List T} {i:Nat} {x y:T} (h:y ∈ Xp l i x):y ∈ l\/y=x:=by
 unfold Xp at h
 rcases Z4.1 h with h | h
 ·exact .inl (List.mem_of_mem_take h)
 rcases Z3.1 h with h | h
 ·exact .inr h
 exact .inl (Zw h)
theorem R6:∀ (k:Nat) (z:List (Bs × Val)),z.length=k->(z.map Prod.fst).Nodup->UpB (Yt z).1/\(∀ y ∈ (Yt z).1,y ∈ z.map Prod.fst)/\∀ y ∈ (Yt z).2,y ∈ z.map Prod.snd
 | 0,z,h,_=>by rw [Zy h];exact ⟨List.Pairwise.nil,λy hy=>by simp [Yt] at hy,λy hy=>by simp [Yt] at hy⟩
 | k+1,z,h,hd=>by
  obtain ⟨z',p,rfl⟩:∃ z' p,z=z'++[p]:=⟨z.dropLast,z.getLast (by intro e;subst e;simp at h),(List.dropLast_concat_getLast (by intro e;subst e;simp at h)).symm⟩
  rw [List.map_append,List.nodup_append] at hd
  obtain ⟨h1,h2,h3⟩:=R6 k z' (by simpa using h) hd.1
  rw [N7]
  unfold Jb
  refine ⟨insAt_up h1 (λe=>hd.2.2 _ (h2 _ e) p.1 Ib rfl),λy hy=>?_,λy hy=>?_⟩
  ·rcases Mv hy with hy | rfl
   ·rw [List.map_append];exact List.mem_append_left _ (h2 y hy)
   simp
  rcases Mv hy with hy | rfl
  ·rw [List.map_append];exact List.mem_append_left _ (h3 y hy)
  simp
theorem Cn {names:List Bs} {vals:List Val} (hl:names.length=vals.length) (hw:∀ x ∈ names,Vi x) (hd:names.Nodup) (hv:∀ v ∈ vals,Y7 v):Y7 (Vf (Yt (names.zip vals)).1 (Yt (names.zip vals)).2)/\(Yt (names.zip vals)).2.length=names.length:=by
 have h1:(names.zip vals).map Prod.fst=names:=List.map_fst_zip (Nat.le_of_eq hl)
 have h2:(names.zip vals).map Prod.snd=vals:=List.map_snd_zip (Nat.le_of_eq hl.symm)
 obtain ⟨a,b,c⟩:=R6 _ (names.zip vals) rfl (by rw [h1];exact hd)
 obtain ⟨l1,l2⟩:=Ub (names.zip vals)
 rw [h1] at b
 rw [h2] at c
 refine ⟨.record _ _ (by rw [l1,l2]) (λx D=>hw x (b x D)) (λi x y D hy=>?_) (λv A=>hv v (c v A)),by rw [l2,List.length_zip,<- hl,Nat.min_self]⟩
 obtain ⟨h3,rfl⟩:=Qj D
 obtain ⟨h4,rfl⟩:=Qj hy
 exact List.pairwise_iff_getElem.1 a i (i+1) h3 h4 Ia
def put9 (W:World) (R:Nat) (a0 a1 a2 a3 a4 a5 a6 a7 a8:Value):World:=(((((((((W.setCell ⟨R,0,none⟩ a0).setCell ⟨R,1,none⟩ a1).setCell ⟨R,2,none⟩ a2).setCell ⟨R,3,none⟩ a3).setCell ⟨R,4,none⟩ a4).setCell ⟨R,5,none⟩ a5).setCell ⟨R,6,none⟩ a6).setCell ⟨R,7,none⟩ a7).setCell ⟨R,8,none⟩ a8)
theorem Qqf {W:World} {R:Nat} {a0 a1 a2 a3 a4 a5 a6 a7 a8 x0 x1 x2 x3 x4 x5 x6 x7 x8:Value} {t:TypeId} (h:W.heap[R]?=some (.cells #[x0,x1,x2,x3,x4,x5,x6,x7,x8] t (0,0))):(put9 W R a0 a1 a2 a3 a4 a5 a6 a7 a8).heap[R]?=some (.cells #[a0,a1,a2,a3,a4,a5,a6,a7,a8] t (0,0)):=by
 have A:=Qi _ _ 0 _ _ a0 h;have A:=Qi _ _ 1 _ _ a1 A;have A:=Qi _ _ 2 _ _ a2 A;have A:=Qi _ _ 3 _ _ a3 A;have A:=Qi _ _ 4 _ _ a4 A;have A:=Qi _ _ 5 _ _ a5 A;have A:=Qi _ _ 6 _ _ a6 A;have A:=Qi _ _ 7 _ _ a7 A;have A:=Qi _ _ 8 _ _ a8 A
 simpa [put9] using A
theorem Lu {W:World} {R k:Nat} {a0 a1 a2 a3 a4 a5 a6 a7 a8:Value} (h:k≠R):(put9 W R a0 a1 a2 a3 a4 a5 a6 a7 a8).heap[k]?=W.heap[k]?:=by
 unfold put9
 repeat rw [Za h]
theorem Tw {B R:Nat} {w W:World} {a0 a1 a2 a3 a4 a5 a6 a7 a8:Value} (h:Below B w W) (hR:B<=R):Below B w (put9 W R a0 a1 a2 a3 a4 a5 a6 a7 a8):=
 ((((((((h.setCell (p:=⟨R,0,none⟩) hR _).setCell (p:=⟨R,1,none⟩) hR _).setCell (p:=⟨R,2,none⟩) hR _).setCell (p:=⟨R,3,none⟩) hR _).setCell (p:=⟨R,4,none⟩) hR _).setCell (p:=⟨R,5,none⟩) hR _).setCell (p:=⟨R,6,none⟩) hR _).setCell (p:=⟨R,7,none⟩) hR _).setCell (p:=⟨R,8,none⟩) hR _
theorem Xm {W:World} {R:Nat} {a0 a1 a2 a3 a4 a5 a6 a7 a8 x0 x1 x2 x3 x4 x5 x6 x7 x8:Value} {t:TypeId} (h:W.heap[R]?=some (.cells #[x0,x1,x2,x3,x4,x5,x6,x7,x8] t (0,0))) (j:Nat):(put9 W R a0 a1 a2 a3 a4 a5 a6 a7 a8).cell? ⟨R,j,none⟩=#[a0,a1,a2,a3,a4,a5,a6,a7,a8][j]?:=
 Qk _ _ _ _ _ _ (Qqf h)
def ExIs (S:Nat->Prop) (w:World) (x:Ex) (e:Ending) (w':World):Prop:=∃ ek es en et e1 f1 g1 e2 f2 g2 e3 f3 g3 ea ez,e=.returned (.agg (AW ek es en et e1 f1 g1 e2 f2 g2 e3 f3 g3 ea ez))/\Yx (λb=>S b\/w<=b) w' (AW ek es en et e1 f1 g1 e2 f2 g2 e3 f3 g3 ea ez) x/\Below w w w'
theorem rop_any (S:Nat->Prop) (o:Bs) (a b:Ex) (ca cb:List Value) (w:World) (ho:o.length<=1000000) (ha0:Yx S w ca a) (hb0:Yx S w cb b):
  Calls prog 63 #[sv o,ca,cb] w (ExIs S w (Gen.op o [a,b])):=by
 have J:Yx (λc=>S c/\c<w) w ca a:=ha0.move (.refl _ _) (λb hb h=>⟨h,hb⟩)
 have hb:Yx (λc=>S c/\c<w) w cb b:=hb0.move (.refl _ _) (λb hb h=>⟨h,hb⟩)
 obtain ⟨aC,aG,aE,aI,O,aM,aS,U,aO,aU,Y,aQ,aW,aA,aK,M⟩:=Yx.cells J
 obtain ⟨aD,aH,aF,aJ,T,aN,aT,V,aP,aV,Z,aR,aX,aB,aL,N⟩:=Yx.cells hb
 subst M;subst N
 have HA:=Qq J;have HB:=Qq hb
 clear J hb ha0 hb0
 unfold sv
 go_enter func63,ntmps63
 go_wp2_with fail
 generalize A:(((w.alloc _).alloc _).alloc _).alloc _=W1
 have D:=Iq A (Yj (Yj (Yj (Zg w _) _) _) _)
 have I:=Ik (b:=w.heap.size+1+1) A (Zb (Y6 Ib _) _)
 have G:=Ik (b:=w.heap.size+1+1+1) A (Y6 Ib _)
 clear A
 refine Q7 (v:=.agg #[.int .i64 14,o,Ic,Ig,Ie,Ie,Io (w+1+1+1) 0 2 2,Ic,Ic]) (by simp [results,results63,go_sem,Qk _ _ _ _ _ _ I]) rfl ⟨_,_,_,_,_,_,_,_,_,_,_,_,_,_,_,rfl,?_,D⟩
 refine Xv ho (s:=[]) Ib (Sl.nil _ _ _) (Sl.nil _ _ _) ?_
 exact Y4 G (.inr Ia) ((Cs.one (r:=Vz) ((HA.o.move (.f D) Ij).move (.refl _ _) (λb _ h=>.inl h.1))).app (Cs.one (r:=Vz) ((HB.o.move (.f D) Ij).move (.refl _ _) (λb _ h=>.inl h.1)))) rfl rfl Ib
theorem Yv {S:Nat->Prop} {w:World} (k:Int) (nm:Bs) (n:Int) (sx:Bs) (h1:nm.length<=1000000) (h2:sx.length<=1000000):Yx S w [k,nm,n,sx,Ie,Ie,Ie,Ic,Ic] (.mk k nm n sx [] [] [] 0 0):=
 Xv h1 h2 (Sl.nil _ _ _) (Sl.nil _ _ _) (Sl.nil _ _ _)
theorem Qzj {W:World} {R b j:Nat} {x0 x1 x2 x3 x4 x5 x6 x7 x8 u:Value} (h:b≠R) (hc:W.cell? ⟨b,j,none⟩=some u):(put9 W R x0 x1 x2 x3 x4 x5 x6 x7 x8).cell? ⟨b,j,none⟩=some u:=(World.cell?_of_block (Lu h)).trans hc
def ExAt (Rb:Nat) (w:World) (x:Ex) (e:Ending) (w':World):Prop:=∃ ek es en et e1 f1 g1 e2 f2 g2 e3 f3 g3 ea ez,e=.returned (.agg (AW ek es en et e1 f1 g1 e2 f2 g2 e3 f3 g3 ea ez))/\Yx (λb=>Rb<b) w' (AW ek es en et e1 f1 g1 e2 f2 g2 e3 f3 g3 ea ez) x/\Below w w w'
theorem Vo (Rb:Nat) (o:Bs) (a b:Ex) (ca cb:List Value) (w:World) (ho:o.length<=1000000) (ha:Yx (λb=>Rb<b) w ca a) (hb:Yx (λb=>Rb<b) w cb b) (hR:Rb<w):
  Calls prog 63 #[o,ca,cb] w (ExAt Rb w (Gen.op o [a,b])):=
 (rop_any _ o a b ca cb w ho ha hb).mono λ_ _ ⟨ek,es,en,et,e1,f1,g1,e2,f2,g2,e3,f3,g3,ea,ez,h1,h2,h3⟩=>⟨ek,es,en,et,e1,f1,g1,e2,f2,g2,e3,f3,g3,ea,ez,h1,h2.move (.refl _ _) (λb _ h=>h.elim id (λh=>Ia)),h3⟩
theorem Uu {w W:World} {cs:List Value} {x:Ex} {c0 c1 c2 c3 c4 c5 c6 c7 c8:Value} (hx:Yx (λb=>w<b) W [c0,c1,c2,c3,c4,c5,c6,c7,c8] x) (hb:Below w w W) (hc:cs=[c0,c1,c2,c3,c4,c5,c6,c7,c8]):J7 w x (.returned (.agg #[c0,c1,c2,c3,c4,c5,c6,c7,c8])) (put9 W w c0 c1 c2 c3 c4 c5 c6 c7 c8):=
 ⟨cs,by rw [hc],by rw [hc];exact hx.move (λb hb _=>Lu (by have h:w.heap.size<b:=hb;omega)) (λb _ h=>by show w<=b;have h':w.heap.size<b:=h;omega),Tw hb (Q9 _)⟩
def Yu (L:List (Nat × Nat × Value)) (w:World):Prop:=∀ x ∈ L,w.cell? ⟨x.1,x.2.1,none⟩=some x.2.2
def Aq:List (Nat × Nat × Value)->World->Prop
 | [],_=>True
 | [x],w=>w.cell? ⟨x.1,x.2.1,none⟩=some x.2.2
 | x::y::l,w=>w.cell? ⟨x.1,x.2.1,none⟩=some x.2.2/\Aq (y::l) w
theorem Yu.spread:∀ {L:List (Nat × Nat × Value)} {w:World},Yu L w->Aq L w
 | [],_,_=>trivial
 | [x],_,h=>h x (List.mem_cons_self ..)
 | x::y::l,_,h=>⟨h x (List.mem_cons_self ..),Yu.spread (L:=y::l) (λz hz=>h z (List.mem_cons_of_mem _ hz))⟩
theorem Yu.later {L:List (Nat × Nat × Value)} {w w':World} (h:Yu L w) (hb:Below w w w'):Yu L w':=λx hx=>kC hb (h x hx)
theorem Yu.alloc {L:List (Nat × Nat × Value)} {w:World} (h:Yu L w) (o:Obj):Yu L (w.alloc o):=h.later (Zg _ _)
theorem Yu.drew {L:List (Nat × Nat × Value)} {w:World} (h:Yu L w):Yu L w.drew:=h
theorem Yu.put9 {L:List (Nat × Nat × Value)} {w:World} {R:Nat} (h:Yu L w) (hn:∀ x ∈ L,R<x.1) (a0 a1 a2 a3 a4 a5 a6 a7 a8:Value):Yu L (put9 w R a0 a1 a2 a3 a4 a5 a6 a7 a8):=λx hx=>Qzj (Nat.ne_of_gt (hn x hx)) (h x hx)
def Jr (b:Nat) (a0 a1 a2 a3 a4 a5 a6 a7 a8:Value):List (Nat × Nat × Value):=[(b,0,a0),(b,1,a1),(b,2,a2),(b,3,a3),(b,4,a4),(b,5,a5),(b,6,a6),(b,7,a7),(b,8,a8)]
theorem Yu.row {w:World} {b:Nat} {t:TypeId} {a0 a1 a2 a3 a4 a5 a6 a7 a8:Value} (h:w.heap[b]?=some (.cells #[a0,a1,a2,a3,a4,a5,a6,a7,a8] t (0,0))):Yu (Jr b a0 a1 a2 a3 a4 a5 a6 a7 a8) w:=by
 intro x hx
 simp only [Jr,Z3,Z2,or_false] at hx
 rcases hx with rfl | rfl | rfl | rfl | rfl | rfl | rfl | rfl | rfl
 all_goals exact Qk _ _ _ _ _ _ h
theorem Yu.app {K L:List (Nat × Nat × Value)} {w:World} (h:Yu K w) (g:Yu L w):Yu (K++L) w:=λx hx=>(Z4.1 hx).elim (h x) (g x)
theorem Xc {R b:Nat} (h:R<b) (a0 a1 a2 a3 a4 a5 a6 a7 a8:Value):∀ x ∈ Jr b a0 a1 a2 a3 a4 a5 a6 a7 a8,R<x.1:=by
 intro x hx
 simp only [Jr,Z3,Z2,or_false] at hx
 rcases hx with rfl | rfl | rfl | rfl | rfl | rfl | rfl | rfl | rfl
 all_goals exact h
theorem Ul {R:Nat} {K L:List (Nat × Nat × Value)} (h:∀ x ∈ K,R<x.1) (g:∀ x ∈ L,R<x.1):∀ x ∈ K++L,R<x.1:=λx hx=>(Z4.1 hx).elim (h x) (g x)
theorem BM {W:World} {b:Nat} {t:TypeId} {x0 x1 x2 x3 x4 x5 x6 x7 x8:Value} (h:W.heap[b]?=some (.cells #[x0,x1,x2,x3,x4,x5,x6,x7,x8] t (0,0))):(W.frozen? ⟨b,0,none⟩=false/\W.frozen? ⟨b,1,none⟩=false/\W.frozen? ⟨b,2,none⟩=false/\W.frozen? ⟨b,3,none⟩=false/\W.frozen? ⟨b,4,none⟩=false/\W.frozen? ⟨b,5,none⟩=false/\W.frozen? ⟨b,6,none⟩=false/\W.frozen? ⟨b,7,none⟩=false/\W.frozen? ⟨b,8,none⟩=false)/\BI W b x0 x1 x2 x3 x4 x5 x6 x7 x8:=
 ⟨⟨fA 0 h,fA 1 h,fA 2 h,fA 3 h,fA 4 h,fA 5 h,fA 6 h,fA 7 h,fA 8 h⟩,Qk _ _ 0 _ _ _ h,Qk _ _ 1 _ _ _ h,Qk _ _ 2 _ _ _ h,Qk _ _ 3 _ _ _ h,Qk _ _ 4 _ _ _ h,Qk _ _ 5 _ _ _ h,Qk _ _ 6 _ _ _ h,Qk _ _ 7 _ _ _ h,Qk _ _ 8 _ _ _ h⟩
theorem Uz {X W:World} (h:Below X.drew.heap.size X.drew W):Below X X W:=(Qz _ _).drew.n h
theorem Vm {X W:World} {o:Obj} (h:World.alloc X o=W):Below X X W:=by rw [<- h];exact Zg _ _
theorem Jp {X W:World} {o:Obj} (h:World.alloc X o=W):W.heap[X.heap.size]?=some o:=by rw [<- h];exact Qw _ _
theorem Fk {X W:World} {o o':Obj} {g:Nat} (_h:World.alloc X o=W) (hg:X.heap[g]?=some o'):g<X.heap.size:=Z8 hg
theorem Bj {X W:World} {o:Obj} (h:World.alloc X o=W):W=X.heap.size+1:=by rw [<- h];simp
theorem S8 {W:World} {b c:Nat} {o:Obj} (h:W.heap[b]?=some o) (e:c=b):W.heap[c]?=some o:=by rw [e];exact h
theorem Ym {w w':World} {b:Nat} {o:Obj} (hb:Below w w w') (h:w.heap[b]?=some o):w'.heap[b]?=some o:=kB hb h
theorem Qqo (S:Nat->Prop) (v:Value) (l:List Int) (w:World) (hs:V5 S w v l) (hi:Kz l) (hk:Xk l 0 13=3):
  Calls prog 17 #[v,Ic] w (J7 w (Gen.check 3)):=by
 have HP:=Qq (λW (hb:Below w w W)=>Ys S v l 0 13 W (hs.below hb) hi Ia Ia)
 rw [hk] at HP
 obtain ⟨p,cap,rfl,_⟩:=hs.len
 clear hs hi hk
 go_enter func17,ntmps17
 go_upto_region 8 with fail
 generalize aA:(((((((w.alloc _).alloc _).alloc _).alloc _).alloc _).alloc _).alloc _).alloc _=W8
 have aX:=Iq aA (Yj (Yj (Yj (Yj (Yj (Yj (Yj (Zg w _) _) _) _) _) _) _) _)
 have bE:W8=w.heap.size+8:=by rw [<- aA];simp
 have r8:=Ik (b:=w.heap.size) aA (Zb (Zb (Zb (Zb (Zb (Zb (Zb (Y6 rfl _) _) _) _) _) _) _) _)
 have A:=(((Yu.row (show W8.heap[w.heap.size+1]?=some (.cells #[.int .i64 3,.string ⟨#[97]⟩,Ic,Ig,Ie,Ie,Ie,Ic,Ic] 46 (0,0)) from by rw [<- aA];exact Zb (Zb (Zb (Zb (Zb (Zb (Y6 Ib _) _) _) _) _) _) _)).app (Yu.row (show W8.heap[w.heap.size+1+1]?=some (.cells #[.int .i64 3,.string ⟨#[98]⟩,Ic,Ig,Ie,Ie,Ie,Ic,Ic] 46 (0,0)) from by rw [<- aA];exact Zb (Zb (Zb (Zb (Zb (Y6 Ib _) _) _) _) _) _))).app (Yu.row (show W8.heap[w.heap.size+1+1+1+1+1+1]?=some (.cells #[Ic,Ig,.int .i64 1,Ig,Ie,Ie,Ie,Ic,Ic] 46 (0,0)) from by rw [<- aA];exact Zb (Y6 Ib _) _)))
 have hG:=(Ul (Ul (Xc (show w<w.heap.size+1 by omega) (.int .i64 3) (.string ⟨#[97]⟩) (.int .i64 0) (.string ⟨#[]⟩) (.slice none 0 0) (.slice none 0 0) (.slice none 0 0) (.int .i64 0) (.int .i64 0)) (Xc (show w<w.heap.size+1+1 by omega) (.int .i64 3) (.string ⟨#[98]⟩) (.int .i64 0) (.string ⟨#[]⟩) (.slice none 0 0) (.slice none 0 0) (.slice none 0 0) (.int .i64 0) (.int .i64 0))) (Xc (show w<w.heap.size+1+1+1+1+1+1 by omega) (.int .i64 0) (.string ⟨#[]⟩) (.int .i64 1) (.string ⟨#[]⟩) (.slice none 0 0) (.slice none 0 0) (.slice none 0 0) (.int .i64 0) (.int .i64 0)))
 have aG:=Qq aX;have HR:=Qq r8
 clear aA aX r8 bE
 go_upto_region 14 with (go_at_call 18;refine (HP.o _ aG.o).mono ?_;rintro e w' ⟨rfl,rfl⟩)
 refine let_mvar% ?Lq1:=λw':World=>(BA w' (w+1) (.int .i64 3) (.string ⟨#[97]⟩) Ic Ig Ie Ie Ie Ic Ic ((BA w' (w+1+1) (.int .i64 3) (.string ⟨#[98]⟩) Ic Ig Ie Ie Ie Ic Ic ((BI w' (w+1+1+1+1+1+1) Ic Ig (.int .i64 1) Ig Ie Ie Ie Ic Ic:Prop)):Prop)):Prop);?_
 have HS:=Qq (λw' (h:Yu (Jr (w+1) (.int .i64 3) (.string ⟨#[97]⟩) (.int .i64 0) (.string ⟨#[]⟩) (.slice none 0 0) (.slice none 0 0) (.slice none 0 0) (.int .i64 0) (.int .i64 0)++Jr (w+1+1) (.int .i64 3) (.string ⟨#[98]⟩) (.int .i64 0) (.string ⟨#[]⟩) (.slice none 0 0) (.slice none 0 0) (.slice none 0 0) (.int .i64 0) (.int .i64 0)++Jr (w+1+1+1+1+1+1) (.int .i64 0) (.string ⟨#[]⟩) (.int .i64 1) (.string ⟨#[]⟩) (.slice none 0 0) (.slice none 0 0) (.slice none 0 0) (.int .i64 0) (.int .i64 0)) w')=>(show ?Lq1 w' from Yu.spread h))
 have HG:=Qq hG
 have aH:=Qq (λw' z0 z1 z2 z3 z4 z5 z6 z7 z8 (h:Yu _ w')=>HS.o _ (h.put9 HG.o z0 z1 z2 z3 z4 z5 z6 z7 z8))
 unfold put9 at aH
 have D:=aG
 clear hG
 obtain ⟨aC,aD,aE,bC⟩:=It True.intro True.intro True.intro True.intro
 go_region_held3 ?Lq1 (first | with_reducible exact HS.o _ A | with_reducible exact HS.o _ A.drew | with_reducible exact HS.o _ (A.alloc _) | with_reducible exact HS.o _ (A.alloc _).drew | with_reducible exact HS.o _ ((A.alloc _).alloc _) | with_reducible exact HS.o _ ((A.alloc _).alloc _).drew | with_reducible exact HS.o _ (((A.alloc _).alloc _).alloc _) | with_reducible exact aH.o _ _ _ _ _ _ _ _ _ _ A)
  (first
   | (have hn:=T.o;clear hn;have hk:=aE.o;go_at_call 63;refine (Vo w [60,61] _ _ _ _ _ Ib (by exact (Yv 3 [97] 0 [] Ib Ib)) (by exact T.o) (by exact Z8 HR.o)).mono ?_;rintro e W3 ⟨aM,aO,aN,aP,aI,aR,aU,aJ,aS,aV,aK,aT,aW,aL,aQ,rfl,bA,J⟩;clear aE hk;(try (have Y:=Uz J;clear J;have J:=Y;clear Y));have V:=A.later J;clear A;have A:=V;clear V;have N:=Qq (Ym J HR.o);clear HR;have HR:=N;clear N;have M:=Qq (D.o.n J);clear D;have D:=M;clear M;(try (have U:=Qq (O.o.move (.f J) Ij);clear O;have O:=U;clear U));(try (have U:=Qq (T.o.move (.f J) Ij);clear T;have T:=U;clear U));have Z:=Qq bA;clear bA J;obtain ⟨⟨f0,f1,f2,f3,f4,f5,f6,f7,f8⟩,y0,y1,y2,y3,y4,y5,y6,y7,y8⟩:=BM HR.o)
   | (have hn:=O.o;clear hn;have hk:=aD.o;go_at_call 63;refine (Vo w [43] _ _ _ _ _ Ib (by exact (Yv 3 [98] 0 [] Ib Ib)) (by exact O.o) (by exact Z8 HR.o)).mono ?_;rintro e W2 ⟨bO,bS,bQ,bU,bG,bY,cE,bI,cA,cG,bK,cC,cI,bM,bW,rfl,aZ,I⟩;clear aD hk;(try (have Y:=Uz I;clear I;have I:=Y;clear Y));have V:=A.later I;clear A;have A:=V;clear V;have N:=Qq (Ym I HR.o);clear HR;have HR:=N;clear N;have M:=Qq (D.o.n I);clear D;have D:=M;clear M;(try (have U:=Qq (O.o.move (.f I) Ij);clear O;have O:=U;clear U));(try (have U:=Qq (Z.o.move (.f I) Ij);clear Z;have Z:=U;clear U));have T:=Qq aZ;clear aZ I)
   | (have hk:=aC.o;go_at_call 63;refine (Vo w [42] _ _ _ _ _ Ib (by exact (Yv 0 [] 1 [] Ib Ib)) (by exact (Yv 0 [] 1 [] Ib Ib)) (by exact Z8 HR.o)).mono ?_;rintro e W1 ⟨bN,bR,bP,bT,bF,bX,cD,bH,bZ,cF,bJ,cB,cH,bL,bV,rfl,aY,G⟩;clear aC hk;(try (have Y:=Uz G;clear G;have G:=Y;clear Y));have V:=A.later G;clear A;have A:=V;clear V;have N:=Qq (Ym G HR.o);clear HR;have HR:=N;clear N;have M:=Qq (D.o.n G);clear D;have D:=M;clear M;(try (have U:=Qq (T.o.move (.f G) Ij);clear T;have T:=U;clear U));(try (have U:=Qq (Z.o.move (.f G) Ij);clear Z;have Z:=U;clear U));have O:=Qq aY;clear aY G)
   | fail)
 all_goals
  go_wp2_with fail
  show bodyPost _ _ _ _ _ (put9 _ w aM (.string aO) aN (.string aP) (.slice aI aR aU) (.slice aJ aS aV) (.slice aK aT aW) aL aQ)
  exact Q7 (v:=.agg (AW aM aO aN aP aI aR aU aJ aS aV aK aT aW aL aQ)) (by simp [results,results17,go_sem,Xm HR.o]) rfl (Uu Z.o D.o rfl)
theorem Qza (S:Nat->Prop) (v:Value) (l:List Int) (w:World) (hs:V5 S w v l) (hi:Kz l) (hk:Xk l 0 13=4):
  Calls prog 17 #[v,Ic] w (J7 w (Gen.check 4)):=by
 have HP:=Qq (λW (hb:Below w w W)=>Ys S v l 0 13 W (hs.below hb) hi Ia Ia)
 rw [hk] at HP
 obtain ⟨p,cap,rfl,_⟩:=hs.len
 clear hs hi hk
 go_enter func17,ntmps17
 go_upto_region 8 with fail
 generalize J:(((((((w.alloc _).alloc _).alloc _).alloc _).alloc _).alloc _).alloc _).alloc _=W8
 have aU:=Iq J (Yj (Yj (Yj (Yj (Yj (Yj (Yj (Zg w _) _) _) _) _) _) _) _)
 have aZ:W8=w.heap.size+8:=by rw [<- J];simp
 have r8:=Ik (b:=w.heap.size) J (Zb (Zb (Zb (Zb (Zb (Zb (Zb (Y6 rfl _) _) _) _) _) _) _) _)
 have A:=((Yu.row (show W8.heap[w.heap.size+1+1+1+1]?=some (.cells zQ 46 (0,0)) from by rw [<- J];exact Zb (Zb (Zb (Y6 Ib _) _) _) _)).app (Yu.row (show W8.heap[w.heap.size+1+1+1]?=some (.cells #[.int .i64 3,.string ⟨#[99]⟩,Ic,Ig,Ie,Ie,Ie,Ic,Ic] 46 (0,0)) from by rw [<- J];exact Zb (Zb (Zb (Zb (Y6 Ib _) _) _) _) _)))
 have hG:=(Ul (Xc (show w<w.heap.size+1+1+1+1 by omega) (.int .i64 3) (.string ⟨#[100]⟩) (.int .i64 0) (.string ⟨#[]⟩) (.slice none 0 0) (.slice none 0 0) (.slice none 0 0) (.int .i64 0) (.int .i64 0)) (Xc (show w<w.heap.size+1+1+1 by omega) (.int .i64 3) (.string ⟨#[99]⟩) (.int .i64 0) (.string ⟨#[]⟩) (.slice none 0 0) (.slice none 0 0) (.slice none 0 0) (.int .i64 0) (.int .i64 0)))
 have aC:=Qq aU;have Z:=Qq r8
 clear J aU r8 aZ
 go_upto_region 16 with (go_at_call 18;refine (HP.o _ aC.o).mono ?_;rintro e w' ⟨rfl,rfl⟩)
 refine let_mvar% ?Lq1:=λw':World=>(BA w' (w+1+1+1+1) (.int .i64 3) (.string ⟨#[100]⟩) Ic Ig Ie Ie Ie Ic Ic ((BI w' (w+1+1+1) (.int .i64 3) (.string ⟨#[99]⟩) Ic Ig Ie Ie Ie Ic Ic:Prop)):Prop);?_
 have HS:=Qq (λw' (h:Yu (Jr (w+1+1+1+1) (.int .i64 3) (.string ⟨#[100]⟩) (.int .i64 0) (.string ⟨#[]⟩) (.slice none 0 0) (.slice none 0 0) (.slice none 0 0) (.int .i64 0) (.int .i64 0)++Jr (w+1+1+1) (.int .i64 3) (.string ⟨#[99]⟩) (.int .i64 0) (.string ⟨#[]⟩) (.slice none 0 0) (.slice none 0 0) (.slice none 0 0) (.int .i64 0) (.int .i64 0)) w')=>(show ?Lq1 w' from Yu.spread h))
 have HG:=Qq hG
 have aD:=Qq (λw' z0 z1 z2 z3 z4 z5 z6 z7 z8 (h:Yu _ w')=>HS.o _ (h.put9 HG.o z0 z1 z2 z3 z4 z5 z6 z7 z8))
 unfold put9 at aD
 have I:=aC
 clear hG
 obtain ⟨U,V,aY⟩:=Im True.intro True.intro True.intro
 go_region_held3 ?Lq1 (first | with_reducible exact HS.o _ A | with_reducible exact HS.o _ A.drew | with_reducible exact HS.o _ (A.alloc _) | with_reducible exact HS.o _ (A.alloc _).drew | with_reducible exact HS.o _ ((A.alloc _).alloc _) | with_reducible exact HS.o _ ((A.alloc _).alloc _).drew | with_reducible exact HS.o _ (((A.alloc _).alloc _).alloc _) | with_reducible exact aD.o _ _ _ _ _ _ _ _ _ _ A)
  (first
   | (have hn:=O.o;clear hn;have hk:=V.o;go_at_call 63;refine (Vo w [111,114] _ _ _ _ _ Ib (by exact (Yv 3 [100] 0 [] Ib Ib)) (by exact O.o) (by exact Z8 Z.o)).mono ?_;rintro e W2 ⟨aI,aK,aJ,aL,aE,aN,aQ,aF,aO,aR,aG,aP,aS,aH,aM,rfl,aW,G⟩;clear V hk;(try (have Y:=Uz G;clear G;have G:=Y;clear Y));have T:=A.later G;clear A;have A:=T;clear T;have N:=Qq (Ym G Z.o);clear Z;have Z:=N;clear N;have M:=Qq (I.o.n G);clear I;have I:=M;clear M;(try (have h0:=Qq (O.o.move (.f G) Ij);clear O;have O:=h0;clear h0));have aA:=Qq aW;clear aW G;obtain ⟨⟨f0,f1,f2,f3,f4,f5,f6,f7,f8⟩,y0,y1,y2,y3,y4,y5,y6,y7,y8⟩:=BM Z.o)
   | (have hk:=U.o;go_at_call 63;refine (Vo w [33,61] _ _ _ _ _ Ib (by exact (Yv 3 [99] 0 [] Ib Ib)) (by exact (Yv 1 [] 0 [97,98] Ib Ib)) (by exact Z8 Z.o)).mono ?_;rintro e W1 ⟨bE,bG,bF,bH,bA,bJ,bM,bB,bK,bN,bC,bL,bO,bD,bI,rfl,aV,D⟩;clear U hk;(try (have Y:=Uz D;clear D;have D:=Y;clear Y));have T:=A.later D;clear A;have A:=T;clear T;have N:=Qq (Ym D Z.o);clear Z;have Z:=N;clear N;have M:=Qq (I.o.n D);clear I;have I:=M;clear M;(try (have h0:=Qq (aA.o.move (.f D) Ij);clear aA;have aA:=h0;clear h0));have O:=Qq aV;clear aV D)
   | fail)
 all_goals
  go_wp2_with fail
  show bodyPost _ _ _ _ _ (put9 _ w aI (.string aK) aJ (.string aL) (.slice aE aN aQ) (.slice aF aO aR) (.slice aG aP aS) aH aM)
  exact Q7 (v:=.agg (AW aI aK aJ aL aE aN aQ aF aO aR aG aP aS aH aM)) (by simp [results,results17,go_sem,Xm Z.o]) rfl (Uu aA.o I.o rfl)
theorem St (S:Nat->Prop) (v:Value) (l:List Int) (w:World) (hs:V5 S w v l) (hi:Kz l) (hk:Xk l 0 13=10):
  Calls prog 17 #[v,Ic] w (J7 w (Gen.check 10)):=by
 have HP:=Qq (λW (hb:Below w w W)=>Ys S v l 0 13 W (hs.below hb) hi Ia Ia)
 rw [hk] at HP
 obtain ⟨p,cap,rfl,_⟩:=hs.len
 clear hs hi hk
 go_enter func17,ntmps17
 go_upto_region 8 with fail
 generalize J:(((((((w.alloc _).alloc _).alloc _).alloc _).alloc _).alloc _).alloc _).alloc _=W8
 have aU:=Iq J (Yj (Yj (Yj (Yj (Yj (Yj (Yj (Zg w _) _) _) _) _) _) _) _)
 have aZ:W8=w.heap.size+8:=by rw [<- J];simp
 have r8:=Ik (b:=w.heap.size) J (Zb (Zb (Zb (Zb (Zb (Zb (Zb (Y6 rfl _) _) _) _) _) _) _) _)
 have A:=(((Yu.row (show W8.heap[w.heap.size+1+1+1+1]?=some (.cells zQ 46 (0,0)) from by rw [<- J];exact Zb (Zb (Zb (Y6 Ib _) _) _) _)).app (Yu.row (show W8.heap[w.heap.size+1]?=some (.cells #[.int .i64 3,.string ⟨#[97]⟩,Ic,Ig,Ie,Ie,Ie,Ic,Ic] 46 (0,0)) from by rw [<- J];exact Zb (Zb (Zb (Zb (Zb (Zb (Y6 Ib _) _) _) _) _) _) _))).app (Yu.row (show W8.heap[w.heap.size+1+1+1]?=some (.cells #[.int .i64 3,.string ⟨#[99]⟩,Ic,Ig,Ie,Ie,Ie,Ic,Ic] 46 (0,0)) from by rw [<- J];exact Zb (Zb (Zb (Zb (Y6 Ib _) _) _) _) _)))
 have hG:=(Ul (Ul (Xc (show w<w.heap.size+1+1+1+1 by omega) (.int .i64 3) (.string ⟨#[100]⟩) (.int .i64 0) (.string ⟨#[]⟩) (.slice none 0 0) (.slice none 0 0) (.slice none 0 0) (.int .i64 0) (.int .i64 0)) (Xc (show w<w.heap.size+1 by omega) (.int .i64 3) (.string ⟨#[97]⟩) (.int .i64 0) (.string ⟨#[]⟩) (.slice none 0 0) (.slice none 0 0) (.slice none 0 0) (.int .i64 0) (.int .i64 0))) (Xc (show w<w.heap.size+1+1+1 by omega) (.int .i64 3) (.string ⟨#[99]⟩) (.int .i64 0) (.string ⟨#[]⟩) (.slice none 0 0) (.slice none 0 0) (.slice none 0 0) (.int .i64 0) (.int .i64 0)))
 have aC:=Qq aU;have Z:=Qq r8
 clear J aU r8 aZ
 go_upto_region 30 with (go_at_call 18;refine (HP.o _ aC.o).mono ?_;rintro e w' ⟨rfl,rfl⟩)
 refine let_mvar% ?Lq1:=λw':World=>(BA w' (w+1+1+1+1) (.int .i64 3) (.string ⟨#[100]⟩) Ic Ig Ie Ie Ie Ic Ic ((BA w' (w+1) (.int .i64 3) (.string ⟨#[97]⟩) Ic Ig Ie Ie Ie Ic Ic ((BI w' (w+1+1+1) (.int .i64 3) (.string ⟨#[99]⟩) Ic Ig Ie Ie Ie Ic Ic:Prop)):Prop)):Prop);?_
 have HS:=Qq (λw' (h:Yu (Jr (w+1+1+1+1) (.int .i64 3) (.string ⟨#[100]⟩) (.int .i64 0) (.string ⟨#[]⟩) (.slice none 0 0) (.slice none 0 0) (.slice none 0 0) (.int .i64 0) (.int .i64 0)++Jr (w+1) (.int .i64 3) (.string ⟨#[97]⟩) (.int .i64 0) (.string ⟨#[]⟩) (.slice none 0 0) (.slice none 0 0) (.slice none 0 0) (.int .i64 0) (.int .i64 0)++Jr (w+1+1+1) (.int .i64 3) (.string ⟨#[99]⟩) (.int .i64 0) (.string ⟨#[]⟩) (.slice none 0 0) (.slice none 0 0) (.slice none 0 0) (.int .i64 0) (.int .i64 0)) w')=>(show ?Lq1 w' from Yu.spread h))
 have HG:=Qq hG
 have aD:=Qq (λw' z0 z1 z2 z3 z4 z5 z6 z7 z8 (h:Yu _ w')=>HS.o _ (h.put9 HG.o z0 z1 z2 z3 z4 z5 z6 z7 z8))
 unfold put9 at aD
 have I:=aC
 clear hG
 obtain ⟨U,V,aY⟩:=Im True.intro True.intro True.intro
 go_region_held3 ?Lq1 (first | with_reducible exact HS.o _ A | with_reducible exact HS.o _ A.drew | with_reducible exact HS.o _ (A.alloc _) | with_reducible exact HS.o _ (A.alloc _).drew | with_reducible exact HS.o _ ((A.alloc _).alloc _) | with_reducible exact HS.o _ ((A.alloc _).alloc _).drew | with_reducible exact HS.o _ (((A.alloc _).alloc _).alloc _) | with_reducible exact aD.o _ _ _ _ _ _ _ _ _ _ A)
  (first
   | (have hn:=O.o;clear hn;have hk:=V.o;go_at_call 63;refine (Vo w [97,110,100] _ _ _ _ _ Ib (by exact (Yv 3 [100] 0 [] Ib Ib)) (by exact O.o) (by exact Z8 Z.o)).mono ?_;rintro e W2 ⟨aI,aK,aJ,aL,aE,aN,aQ,aF,aO,aR,aG,aP,aS,aH,aM,rfl,aW,G⟩;clear V hk;(try (have Y:=Uz G;clear G;have G:=Y;clear Y));have T:=A.later G;clear A;have A:=T;clear T;have N:=Qq (Ym G Z.o);clear Z;have Z:=N;clear N;have M:=Qq (I.o.n G);clear I;have I:=M;clear M;(try (have h0:=Qq (O.o.move (.f G) Ij);clear O;have O:=h0;clear h0));have aA:=Qq aW;clear aW G;obtain ⟨⟨f0,f1,f2,f3,f4,f5,f6,f7,f8⟩,y0,y1,y2,y3,y4,y5,y6,y7,y8⟩:=BM Z.o)
   | (have hk:=U.o;go_at_call 63;refine (Vo w [43] _ _ _ _ _ Ib (by exact (Yv 3 [97] 0 [] Ib Ib)) (by exact (Yv 3 [99] 0 [] Ib Ib)) (by exact Z8 Z.o)).mono ?_;rintro e W1 ⟨bE,bG,bF,bH,bA,bJ,bM,bB,bK,bN,bC,bL,bO,bD,bI,rfl,aV,D⟩;clear U hk;(try (have Y:=Uz D;clear D;have D:=Y;clear Y));have T:=A.later D;clear A;have A:=T;clear T;have N:=Qq (Ym D Z.o);clear Z;have Z:=N;clear N;have M:=Qq (I.o.n D);clear I;have I:=M;clear M;(try (have h0:=Qq (aA.o.move (.f D) Ij);clear aA;have aA:=h0;clear h0));have O:=Qq aV;clear aV D)
   | fail)
 all_goals
  go_wp2_with fail
  show bodyPost _ _ _ _ _ (put9 _ w aI (.string aK) aJ (.string aL) (.slice aE aN aQ) (.slice aF aO aR) (.slice aG aP aS) aH aM)
  exact Q7 (v:=.agg (AW aI aK aJ aL aE aN aQ aF aO aR aG aP aS aH aM)) (by simp [results,results17,go_sem,Xm Z.o]) rfl (Uu aA.o I.o rfl)
end Go.Proofs.YtdpibdpbgokmoaaGreatDoor
