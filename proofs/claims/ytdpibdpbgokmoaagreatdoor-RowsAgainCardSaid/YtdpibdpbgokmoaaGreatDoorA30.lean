import Derived.Test.YtdpibdpbgokmoaaGreatDoorA29
import Derived.Test.YtdpibdpbgokmoaaGreatDoorA26
set_option maxRecDepth 100000
set_option maxHeartbeats 400000000
namespace Go.Proofs.YtdpibdpbgokmoaaGreatDoor
open Go.RowKit Go.Shelf Go.Lib Tryz
def Ty.kind:Ty->Int | .mk k _ _ _ _=>k
def Ty.name:Ty->Bs | .mk _ s _ _ _=>s
def K8 (t:Ty):Prop:=t.kind=0\/t.kind=1\/t.kind=2
def Jh (u:Sm) (v:Val):Bool:=match atP (λc=>decide (c.name=v.s)) u.ctors with
 | none=>false
 | some c=>if c.has then (match v.kids with
  | [x]=>x.kind==c.arg.kind
  | _=>false) else decide (v.kids.length=0)
def Hv (us:List Sm) (v:Val) (nm:Bs):Bool:=(v.kind==3)&&(match atP (λu=>decide (u.name=nm)) us with
 | none=>false
 | some u=>Jh u v)
theorem Mt (us:List Sm) (v:Val) (t:Ty) (h:K8 t):Dp us v t (v.kind==t.kind):=by
 obtain ⟨k,s,n,names,kids⟩:=t
 exact rhasLeaf us v k h s n names kids
theorem Gr.drn {a b:World} (h:Gr a b) (n:Nat):Gr a (b.drewN n):=h.n ⟨n,#[],by rw [Sort.grow_empty]⟩
def RMadeAt (us:List Sm) (u:Sm) (v:Val) (b:Bool):Prop:=∀ (S S' S'':Nat->Prop) (cu cv:List Value) (uv:Value) (w:World),Sl J3 S'' w uv us->J3.R S' w cu u->Z9 S w cv v ->
 Calls prog 142 #[uv,cu,cv] w λe w'=>e=.returned (.bool b)/\Gr w w'
theorem Qzr (us:List Sm) (u:Sm) (v:Val) (hl:∀ c ∈ u.ctors,K8 c.arg):RMadeAt us u v (Jh u v):=by
 intro S S' cF cu cv uv w hu cB hv
 obtain ⟨up,uc,rfl,_⟩:=hu.len
 obtain ⟨cH,rfl,cL,Z⟩:=cB
 obtain ⟨cp,cc,rfl,bV⟩:=Z.len
 obtain ⟨p3,k3,p4,k4,bA,_,aC,cM⟩:=Z9.cells hv
 simp only [Il] at bA
 subst bA
 have mixed:prog.follows .mixedOrders=true:=Ir
 obtain ⟨n,hn⟩:=eX (u.ctors.length)
 rw [hn] at Z bV |-
 obtain ⟨r,hr⟩:=eX (Jh u v)
 rw [hr]
 obtain ⟨HR,HN,HU,HC,HV,HL⟩:=BE hr hn hu Z aC hl
 clear hu hv Z aC hl hr hn
 unfold sv
 go_enter func142,ntmps142
 go_wp2_with fail
 generalize Y:(w.alloc _).alloc _=W1
 have bB:Gr w W1:=by rw [<- Y];exact Uj _ _ _
 have aV:=Ik (b:=w.heap.size) Y (Q5 _ _ _)
 have aL:=Ik (b:=w.heap.size+1) Y (Q6 _ _ _)
 obtain ⟨O,bI,bM⟩:=Im bB aV aL
 have bX:=Z8 aL
 clear Y bB aV aL
 go_loopw [7] (λi wr=>∃ k:Nat,k<=n/\i=.int .i64 k/\Aside (∀ (j:Nat) (y:Ct),j<k->u.ctors[j]?=some y->decide (y.name=v.s)=false)/\Aside (Gr W1 wr)) (λi _=>n - (intOf i).toNat)
 case atStart=>exact ⟨0,Q8 _,rfl,λj _ hj=>absurd hj (Z6 _),Gr.refl _⟩
 obtain ⟨k,hk,rfl,A,aU⟩:=hrel
 have G:=Qq (show Gr W1 wr from aU)
 have aP:=Qq (O.o.n G.o).bl
 have aK:=kB G.o.bl bI.o
 have aW:=kE G.o.bl bX bM.o
 have cE:=Qq aK;have aJ:=Qq aW
 obtain ⟨a0,a1⟩:=AF aK
 clear aU aK aW
 by_cases hlt2:k<n
 ·have cJ:(0:Int)<=(k:Int):=Ia
  have cK:(k:Int)<(n:Int):=Ia
  obtain ⟨c,hc⟩:∃ c,u.ctors[k]?=some c:=⟨_,Qx (by rw [HN.o];exact hlt2)⟩
  obtain ⟨cb,cD,cG,rfl,M,_,_,⟨tc,rfl,cI,U⟩,J⟩:=(HC.o.below aP.o).elem hc
  obtain ⟨tk,ts,tn,t3,n3,l3,t4,n4,l4,rfl⟩:=U.cells
  have d0:=J 0 _ rfl;have d1:=J 1 _ rfl;have d2:=J 2 _ rfl;have d3:=J 3 _ rfl;have d4:=J 4 _ rfl;have d5:=J 5 _ rfl;have d6:=J 6 _ rfl
  rw [show Bn.k=7 from rfl] at d0 d1 d2 d3 d4 d5 d6
  rw [Nat.add_zero] at d0
  unfold sv at d0
  have b2:=AM aJ.o;have b4:=Iz aJ.o
  obtain ⟨bK,bH,aQ⟩:=Im U (HL.o c (Qy hc)) hc
  clear hc J U
  by_cases he:c.name=v.s
  ·have hq:(c.name != v.s)=false:=by rw [he];simp
   have bZ:(c.name==v.s)=true:=by rw [he];simp
   have I:atP (λc=>decide (c.name=v.s)) u.ctors=some c:=O3 aQ.o (by simpa using he) A.o
   have D:(if c.has then (match v.kids with
    | [x]=>x.kind==c.arg.kind
    | _=>false) else decide (v.kids.length=0))=r:=by rw [<- HR.o];unfold Jh;rw [I]
   have aR:=Qq D
   clear I D A he
   go_upto_region 4 with fail
   go_quiet (fail)
   obtain ⟨wq,N⟩:=eX (wr.drewN nq)
   have aA:Gr wr wq:=by rw [<- N];exact (Gr.refl _).drn _
   rw [N]
   have T:=Qq aA
   have hh:∀ {b j:Nat} {x:Value},wr.cell? ⟨b,j,none⟩=some x->wq.cell? ⟨b,j,none⟩=some x:=λhx=>kC aA.bl hx
   have a1:=hh a1;have b4:=hh b4;have d1:=hh d1;have d2:=hh d2;have d3:=hh d3;have d4:=hh d4;have d5:=hh d5;have d6:=hh d6
   have M:=Qa M aA.bl.size
   clear hh N aA hq a0 d0 b2
   cases hhas:c.has with
   | false=>
    rw [hhas] at d1
    have D:=aR.o
    rw [hhas] at D
    simp only [Bool.false_eq_true,if_false] at D
    by_cases h0:v.kids.length=0
    ·obtain rfl:true=r:=by rw [<- D];simp [h0]
     have aM:((v.kids.length:Int)==0)=true:=by rw [beq_iff_eq];omega
     clear D h0 d2 d3 d4 d5 d6
     go_wp2_with fail
     go_ret
     exact ⟨rfl,(O.o.n G.o).n T.o⟩
    obtain rfl:false=r:=by rw [<- D];simp [h0]
    have aM:((v.kids.length:Int)==0)=false:=by rw [<- Qt,beq_iff_eq];omega
    clear D h0 d2 d3 d4 d5 d6
    go_wp2_with fail
    go_ret
    exact ⟨rfl,(O.o.n G.o).n T.o⟩
   | true=>
    rw [hhas] at d1
    have D:=aR.o
    rw [hhas] at D
    simp only [if_true] at D
    by_cases h1:v.kids.length=1
    ·obtain ⟨x,hx⟩:=List.length_eq_one_iff.1 h1
     rw [hx] at D
     have bE:v.kids[0]?=some x:=by rw [hx];rfl
     have N:Below w w wq:=aP.o.n T.o.bl
     rw [h1] at HV aJ b4
     obtain ⟨ga,oa,x3,m3,x4,m4,rfl,V,bC,e0,e1,e2,e3,e4⟩:=(HV.o.below N).val bE
     simp only [Nat.zero_mul,Nat.add_zero] at e0 e1 e2 e3 e4
     have hX:=Mt us x c.arg bH.o
     have aI:(x.kind==c.arg.kind)=r:=D
     rw [aI] at hX
     obtain ⟨HX,bL,bN,bJ⟩:=It hX (HU.o.below N) bC (bK.o.move (.f T.o.bl) Ij)
     have aZ:∀ n os,Calls prog 93 #[.slice up us.length uc,.agg (Il x x3 m3 x4 m4).toArray,.agg #[tk,.string ts,tn,.slice t3 n3 l3,.slice t4 n4 l4]] (Sort.grow (wq.drewN n) os) λe w'=>e=.returned (.bool r)/\Gr (Sort.grow (wq.drewN n) os) w':=λn os=>HX.o _ _ _ _ _ _ _ (bL.o.below (Yh _ _ _).bl) (bN.o.move (.f (Yh _ _ _).bl) Ij) (bJ.o.move (.f (Yh _ _ _).bl) Ij)
     unfold Il at aZ
     have aX:w.heap.size<wq.heap.size:=Qv _ _ a1
     have aY:w.heap.size+1<wq.heap.size:=Qv _ _ b4
     have E0:=Zt V e0;have E1:=Zt V e1;have E2:=Zt V e2;have E3:=Zt V e3;have E4:=Zt V e4
     have D2:=Zt M d2;have D3:=Zt M d3;have D4:=Zt M d4;have D5:=Zt M d5;have D6:=Zt M d6
     have A1:=Zt aX a1;have B4:=Zt aY b4
     have aM:((1:Int)==1)=true:=rfl
     clear D aI h1 hx bE bC hX d2 d3 d4 d5 d6 e0 e1 e2 e3 e4 N
     go_wp2_with fail
     go_quiet_grown (first | (go_at_call 93;refine Calls.grown_of (aZ _ _)))
     go_wp2_with fail
     go_ret
     exact ⟨rfl,((O.o.n G.o).n T.o).n (Yh _ _ _)⟩
    obtain rfl:false=r:=by
     rw [<- D]
     match aC:v.kids with
     | []=>rfl
     | [x]=>rw [aC] at h1;simp at h1
     | _::_::_=>rfl
    have aM:((v.kids.length:Int)==1)=false:=by rw [<- Qt,beq_iff_eq];omega
    clear D h1 d2 d3 d4 d5 d6
    go_wp2_with fail
    go_quiet (fail)
    go_wp2_with fail
    go_ret
    exact ⟨rfl,((O.o.n G.o).n T.o).drn _⟩
  have hq:(c.name != v.s)=true:=by rw [bne_iff_ne];exact he
  have bZ:(c.name==v.s)=false:=by rw [<- Qt,beq_iff_eq];exact he
  have HE:=Qq he
  clear he
  go_upto_region 4 with fail
  go_quiet (fail)
  go_wp2_with fail
  go_roundw
  case measure=>simp [intOf];omega
  case rel=>
   refine ⟨k+1,Ia,by go_num,(show Aside _ from λj y hj hy=>?_),G.o.drn _⟩
   by_cases e:j=k
   ·subst e
    have:=aQ.o
    rw [this] at hy
    cases hy
    simpa using HE.o
   exact A.o j y Ia hy
 have bW:k=n:=Ia
 subst bW
 have I:atP (λc=>decide (c.name=v.s)) u.ctors=none:=Mj (λj y hy=>A.o j y (by have:=(Qj hy).1;have:=HN.o;omega) hy)
 obtain rfl:false=r:=by rw [<- HR.o];unfold Jh;rw [I]
 clear I A
 go_wp2_with fail
 go_ret
 exact ⟨rfl,O.o.n G.o⟩
theorem rhasSum (us:List Sm) (v:Val) (s:Bs) (tn:Int) (names:List Bs) (kids:List Ty) (hl:∀ u ∈ us,∀ c ∈ u.ctors,K8 c.arg):Dp us v (.mk 3 s tn names kids) (Hv us v s):=by
 intro S S' bC cv ct uv w U hv ht
 obtain ⟨up,uc,rfl,bM⟩:=U.len
 obtain ⟨p3,k3,p4,k4,aM,bP,bO,bV⟩:=Z9.cells hv
 have bB:=Qq hv
 simp only [Il] at aM
 subst aM
 obtain ⟨q3,l3,q4,l4,rfl,_⟩:=ht.cells'
 have mixed:prog.follows .mixedOrders=true:=Ir
 obtain ⟨r,hr⟩:=eX (Hv us v s)
 rw [hr]
 obtain ⟨n,hn⟩:=eX (us.length)
 rw [hn] at U bM |-
 obtain ⟨HR,HN,HU,HL⟩:=It hr hn U hl
 clear U hv ht bP bO hl hr hn
 by_cases h3:v.kind=3
 ·have hq:(v.kind != 3)=false:=by rw [h3];rfl
  have aQ:(match atP (λu=>decide (u.name=s)) us with
   | none=>false
   | some u=>Jh u v)=r:=by rw [<- HR.o];unfold Hv;rw [h3];rfl
  have aG:=Qq aQ
  clear h3 aQ
  go_enter func93,ntmps93
  go_wp2_with fail
  clear hq
  generalize O:(w.alloc _).alloc _=W1
  have aN:Gr w W1:=by rw [<- O];exact Uj _ _ _
  have aL:=Ik (b:=w.heap.size) O (Q5 _ _ _)
  have aA:=Ik (b:=w.heap.size+1) O (Q6 _ _ _)
  obtain ⟨M,aY,bA⟩:=Im aN aA aL
  have bH:=Z8 aA
  clear O aN aA aL
  go_loopw [9] (λi wr=>∃ k:Nat,k<=n/\i=.int .i64 k/\Aside (∀ (j:Nat) (y:Sm),j<k->us[j]?=some y->decide (y.name=s)=false)/\Aside (Gr W1 wr)) (λi _=>n - (intOf i).toNat)
  case atStart=>exact ⟨0,Q8 _,rfl,λj _ hj=>absurd hj (Z6 _),Gr.refl _⟩
  obtain ⟨k,hk,rfl,A,aJ⟩:=hrel
  have I:=Qq (show Gr W1 wr from aJ)
  have aV:=Qq (M.o.n I.o).bl
  have aK:=kE I.o.bl bH aY.o
  have J:=kB I.o.bl bA.o
  have b1:=Qk _ _ 1 _ _ _ aK;have a0:=AB J;have a1:=AA J;have a2:=AM J;have a3:=AH J;have a4:=Iz J
  simp only [Qf,Qg,Qh] at b1
  clear aJ aK J
  by_cases hlt2:k<n
  ·have bT:(0:Int)<=(k:Int):=Ia
   have bU:(k:Int)<(n:Int):=Ia
   obtain ⟨u,U⟩:∃ u,us[k]?=some u:=⟨_,Qx (by rw [HN.o];exact hlt2)⟩
   have aB:=HU.o.below aV.o
   have aZ:=Qq aB
   obtain ⟨ub,aT,bW,rfl,V,_,_,bL,aC⟩:=aB.elem U
   obtain ⟨bR,aS,bJ,aD⟩:=bL
   subst aS
   obtain ⟨cp,cc,rfl,bS⟩:=aD.len
   have Z:=aC 0 _ rfl;have d1:=aC 1 _ rfl
   rw [show J3.k=2 from rfl] at Z d1
   rw [Nat.add_zero] at Z
   unfold sv at Z
   obtain ⟨aX,aW,aH⟩:=Im (show J3.R bC wr [sv u.name,.slice cp u.ctors.length cc] u from ⟨_,rfl,bJ,aD⟩) (HL.o u (Qy U)) U
   clear U aC aD aB
   by_cases he:u.name=s
   ·have hq:(u.name==s)=true:=by rw [he];simp
    have D:atP (λu=>decide (u.name=s)) us=some u:=O3 aH.o (by simpa using he) A.o
    have aR:Jh u v=r:=by rw [<- aG.o,D]
    have hM:=Qzr us u v aW.o
    rw [aR] at hM
    have HM:=Qq hM
    clear D aR A he hM
    go_upto_region 30 with fail
    go_quiet (fail)
    obtain ⟨wq,aE⟩:=eX (wr.drewN nq)
    have T:Gr wr wq:=by rw [<- aE];exact (Gr.refl _).drn _
    rw [aE]
    have N:=Qq T
    have Y:∀ {b j:Nat} {x:Value},wr.cell? ⟨b,j,none⟩=some x->wq.cell? ⟨b,j,none⟩=some x:=λhx=>kC T.bl hx
    have Z:=Y Z;have d1:=Y d1;have a0:=Y a0;have a1:=Y a1;have a2:=Y a2;have a3:=Y a3;have a4:=Y a4
    have V:=Qa V T.bl.size
    have G:w.heap.size<wq.heap.size:=Qv _ _ a0
    have D0:=Zt V Z;have D1:=Zt V d1
    have A0:=Zt G a0;have A1:=Zt G a1;have A2:=Zt G a2;have A3:=Zt G a3;have A4:=Zt G a4
    have bF:∀ n' os,Calls prog 142 #[Io ub aT n uc,.agg #[u.name,.slice cp u.ctors.length cc],.agg (Is v p3 k3 p4 k4)] (Sort.grow (wq.drewN n') os) λe w'=>e=.returned (.bool r)/\Gr (Sort.grow (wq.drewN n') os) w':=λn' os=>HM.o _ _ _ _ _ _ _ (aZ.o.below (N.o.n (Yh _ _ _)).bl) (J3.frame aX.o (.f (N.o.n (Yh _ _ _)).bl)) (bB.o.move (.f ((M.o.n (I.o.n N.o)).n (Yh _ _ _)).bl) Ij)
    clear Y aE T hq a0 a1 a2 a3 a4 Z d1 b1
    go_wp2_with fail
    go_quiet_grown (first | (go_at_call 142;refine Calls.grown_of (bF _ _)))
    go_wp2_with fail
    go_ret
    exact ⟨rfl,((M.o.n I.o).n N.o).n (Yh _ _ _)⟩
   have hq:(u.name==s)=false:=by rw [<- Qt,beq_iff_eq];exact he
   have HE:=Qq he
   clear he
   go_upto_region 30 with fail
   go_quiet (fail)
   go_wp2_with fail
   go_roundw
   case measure=>simp [intOf];omega
   case rel=>
    refine ⟨k+1,Ia,by go_num,(show Aside _ from λj y hj hy=>?_),I.o.drn _⟩
    by_cases e:j=k
    ·subst e
     have:=aH.o
     rw [this] at hy
     cases hy
     simpa using HE.o
    exact A.o j y Ia hy
  have bG:k=n:=Ia
  subst bG
  have D:atP (λu=>decide (u.name=s)) us=none:=Mj (λj y hy=>A.o j y (by have:=(Qj hy).1;have:=HN.o;omega) hy)
  obtain rfl:false=r:=by rw [<- aG.o,D]
  clear D A
  go_wp2_with fail
  go_ret
  exact ⟨rfl,M.o.n I.o⟩
 have hq:(v.kind != 3)=true:=by simpa using h3
 have aP:(v.kind==3)=false:=by simpa using h3
 obtain rfl:false=r:=by rw [<- HR.o];unfold Hv;rw [aP];rfl
 clear aP h3
 go_enter func93,ntmps93
 go_wp2_with fail
 go_ret
 exact ⟨rfl,Uj _ _ _⟩
def letR (r0 r1:Option Val):Option Val:=match r0 with
 | some _=>r1
 | none=>none
theorem ev_let (nm:Bs) (n:Int) (s:Bs) (names binds:List Bs) (x y:Ex) (a z:Int) (env:List (Bs × Val)) (r0 r1:Option Val) (hx:EvO x env r0) (hy:∀ u,r0=some u->EvO y ((nm,u)::env) r1):EvO (.mk 11 nm n s names binds [x,y] a z) env (letR r0 r1):=by
 obtain ⟨R,hR⟩:=eX (letR r0 r1)
 rw [hR]
 intro S0 S' cs p w bO bT bS bQ
 have bK:=Qq bT
 clear bT
 have he:Xy (λb=>S0 b/\b<w) w p env:=bQ.move (.refl _ _) (λb hb h=>⟨h,hb⟩)
 obtain ⟨nv,bv,kv,rfl,dA,dL,hn,hb,hk⟩:=Yy.1 bS
 obtain ⟨np,nc,rfl,_⟩:=hn.len
 obtain ⟨bp,bc,rfl,_⟩:=hb.len
 obtain ⟨kp,kc,rfl,cX⟩:=hk.len
 obtain ⟨q,rfl⟩:=he.ptr
 obtain ⟨HE,HK,cA,bX⟩:=It he hk hn hb
 obtain ⟨kl,V⟩:=eX ([x,y].length)
 rw [V] at HK cX
 have aX:=Qq V
 clear bS he bQ hn hb hk
 unfold sv
 rw [V]
 clear V
 go_enter func91,ntmps91
 go_upto_region 3 with fail
 generalize aK:((w.alloc _).alloc _).alloc _=w3
 have Y:=Iq aK (Xt _ _ _ _)
 have h0:=Ik (b:=w.heap.size) aK (Zp _ _ _ _)
 have h1:=Ik (b:=w.heap.size+1) aK (Zo _ _ _ _)
 have h2:=Ik (b:=w.heap.size+1+1) aK (Zi _ _ _ _)
 have dM:w.heap.size+1+1<w3.heap.size:=Z8 h2
 have c0:=AB h0;have c1:=AA h0;have c2:=AM h0;have c3:=AH h0;have c4:=Iz h0;have c5:=AY h0;have c6:=AK h0
 obtain ⟨H0,H1,H2,M⟩:=It h0 h1 h2 Y
 have aS:=Qq (λ(k:Nat) e9 r9 (hke:[x,y][k]?=some e9) (hev:EvO e9 env r9) W (hbw:Below w3 w3 W) (x9:Nat) (hxl:w<=x9) (hxW:x9<W)=>D8 w (w+1) k (λb=>S0 b/\b≠w+1+1/\b≠x9) S' kp kc [x,y] e9 (.pointer q) env r9 W
  (by rw [aX.o];exact (Qk _ _ 6 _ _ _ (kB hbw h0)).trans rfl) (by rw [aX.o];exact (HK.o.below Y).below hbw) ((Qk _ _ 0 _ _ _ (kB hbw h1)).trans rfl) (λb hb=>⟨bO b (BC Y.size hbw.size),by have:=hbw.size;omega,Ia⟩) (bK.o.below (Y.n hbw)) ((HE.o.move (.f Y) Ij).move (.f hbw) (λb _ h=>⟨h.1,by have:=h.2;omega,by have:=h.2;omega⟩)) hke hev)
 have aW:Hid (∀ W,Below w3 w3 W->Calls prog 132 #[Ic,Iv w,Iv (w+1)] W (Xw (λb=>S0 b/\b≠w+1+1/\b≠w+1+1) W r0)):=Qq (λW hW=>aS.o 0 x r0 rfl hx W hW (w+1+1) Ia (Ix hW.size))
 obtain ⟨J,A,cs,cY,dN,_,_,bD,hc⟩:=HK.o.elem (i:=1) (x:=y) rfl
 subst cY
 obtain ⟨ek,cP,en,cQ,cM,cJ,cG,cN,cK,cH,cO,cL,cI,ea,ez,O⟩:=Yx.cells (show Yx S' w cs y from bD)
 subst O
 have d0:=hc 0 _ rfl
 have d1:=hc 1 _ rfl
 have d2:=hc 2 _ rfl
 have d3:=hc 3 _ rfl
 have d4:=hc 4 _ rfl
 have d5:=hc 5 _ rfl
 have d6:=hc 6 _ rfl
 have d7:=hc 7 _ rfl
 have d8:=hc 8 _ rfl
 simp only [show Vz.k=9 from rfl,Nat.add_zero,Nat.one_mul] at d0 d1 d2 d3 d4 d5 d6 d7 d8
 have cW:kl=2:=aX.o.symm
 subst cW
 obtain ⟨bL,bZ,bM,HY⟩:=It bD dA bO hy
 have dK:w.heap.size<w3.heap.size:=Ia
 clear h0 h1 h2 Y aK aS hx hy bD hc c2 c3 c4 c5 cA bX
 go_wp2_with fail
 clear c0 c1 c6
 have hD:∀ W,(λW=>W.heap[w.heap.size]?=some (.cells #[.int .i64 11,nm,n,s,.slice np names.length nc,.slice bp binds.length bc,Io J A 2 kc,a,z] 46 (0,0))/\W.heap[w.heap.size+1]?=some (.cells #[.pointer q] 122 (0,0))/\Below w w W) W->Ii W w 6 (Io J A 2 kc)/\Ii W w 1 nm/\Ii W (w+1) 0 (.pointer q)/\Ii W J (A+9) ek/\Ii W J (A+9+1) (.string cP)/\Ii W J (A+9+2) en/\Ii W J (A+9+3) (.string cQ)/\Ii W J (A+9+4) (.slice cM cJ cG)/\Ii W J (A+9+5) (.slice cN cK cH)/\Ii W J (A+9+6) (.slice cO cL cI)/\Ii W J (A+9+7) ea/\Ii W J (A+9+8) ez:=λW h=>by
  have hh:∀ {b j:Nat} {u:Value},w.cell? ⟨b,j,none⟩=some u->W.cell? ⟨b,j,none⟩=some u:=λhc=>kC h.2.2 hc
  exact ⟨(Qk _ _ 6 _ _ _ h.1).trans rfl,(Qk _ _ 1 _ _ _ h.1).trans rfl,(Qk _ _ 0 _ _ _ h.2.1).trans rfl,hh d0,hh d1,hh d2,hh d3,hh d4,hh d5,hh d6,hh d7,hh d8⟩
 have HD:=Qq hD
 clear hD d0 d1 d2 d3 d4 d5 d6 d7 d8
 refine wp_region_held_drew (S:=λW=>W.heap[w.heap.size]?=some (.cells #[.int .i64 11,nm,n,s,.slice np names.length nc,.slice bp binds.length bc,Io J A 2 kc,a,z] 46 (0,0))/\W.heap[w.heap.size+1]?=some (.cells #[.pointer q] 122 (0,0))/\Below w w W) Ir ⟨H0.o,H1.o,M.o.drew⟩ (λG=>?_)
 refine In (v:=?_) 0 (λT D=>?_) ?_;rotate_left
 ·(obtain ⟨c6,c1,e0,d0,d1,d2,d3,d4,d5,d6,d7,d8⟩:=HD.o T D;go_simp;try with_reducible rfl)
 refine In (v:=?_) 1 (λT D=>?_) ?_;rotate_left
 ·(obtain ⟨c6,c1,e0,d0,d1,d2,d3,d4,d5,d6,d7,d8⟩:=HD.o T D;go_simp;try with_reducible rfl)
 refine In (v:=?_) 2 (λT D=>?_) ?_;rotate_left
 ·(obtain ⟨c6,c1,e0,d0,d1,d2,d3,d4,d5,d6,d7,d8⟩:=HD.o T D;go_simp;try with_reducible rfl)
 refine In (v:=?_) 3 (λT D=>?_) ?_;rotate_left
 ·(obtain ⟨c6,c1,e0,d0,d1,d2,d3,d4,d5,d6,d7,d8⟩:=HD.o T D;go_simp;try with_reducible rfl)
 refine In (v:=?_) 4 (λT D=>?_) ?_;rotate_left
 ·(obtain ⟨c6,c1,e0,d0,d1,d2,d3,d4,d5,d6,d7,d8⟩:=HD.o T D;go_simp;try with_reducible rfl)
 refine In (v:=?_) 5 (λT D=>?_) ?_;rotate_left
 ·(obtain ⟨c6,c1,e0,d0,d1,d2,d3,d4,d5,d6,d7,d8⟩:=HD.o T D;go_simp;try with_reducible rfl)
 refine In (v:=?_) 6 (λT D=>?_) ?_;rotate_left
 ·(obtain ⟨c6,c1,e0,d0,d1,d2,d3,d4,d5,d6,d7,d8⟩:=HD.o T D;go_simp;try with_reducible rfl)
 refine In (v:=?_) 7 (λT D=>?_) ?_;rotate_left
 ·(obtain ⟨c6,c1,e0,d0,d1,d2,d3,d4,d5,d6,d7,d8⟩:=HD.o T D;go_simp;try with_reducible rfl)
 refine AE 8 (λK U=>?_) Qo
 go_simp
 cases r0 with
 | none=>
  obtain rfl:none=R:=hR
  refine (aW.o _ (Qz _ _).drew).mono ?_
  rintro e w5 ⟨rfl,hb⟩
  exact ⟨rfl,rfl,M.o.n ((Qz _ _).drew.n hb)⟩
 | some u=>
  obtain rfl:r1=R:=hR
  have cD:=Qq (HY.o u rfl)
  refine (aW.o _ (Qz _ _).drew).mono ?_
  rintro e w5 ⟨cu,rfl,hu,hb⟩
  obtain ⟨a3,cE,a4,cF,O,_⟩:=Z9.cells hu
  simp only [Il] at O
  subst O
  have HU:=Qq hu
  have I:Hid (Below w3 w3 w5):=Qq ((Qz _ _).drew.n hb)
  clear hu hb aW
  have aZ:(λW=>W.heap[w.heap.size]?=some (.cells #[.int .i64 11,nm,n,s,.slice np names.length nc,.slice bp binds.length bc,Io J A 2 kc,a,z] 46 (0,0))/\W.heap[w.heap.size+1]?=some (.cells #[.pointer q] 122 (0,0))/\Below w w W) w5:=⟨kB I.o H0.o,kB I.o H1.o,M.o.n I.o⟩
  try dsimp only
  refine U.o _ _ aZ (λG=>?_)
  clear U K
  refine AE 9 (λK U=>?_) Qo
  go_simp
  refine U.o _ _ aZ (λG=>?_)
  clear U K
  refine AE 10 (λK U=>?_) Qo
  go_simp
  generalize bC:World.alloc w5 _=w6
  have N:=Iq bC (Zg _ _)
  have bP:=Ik (b:=w5.heap.size) bC (Qw _ _)
  have dC:=I.o.size
  have dD:=N.size
  have bR:Xy (λb=>S0 b/\b≠w+1+1/\b≠w+1+1) w6 (.pointer (some ⟨w5,0,none⟩)) ((nm,u)::env):=.cons _ q nm u a3 cE a4 cF env ⟨bM.o _ Ia,Ia,Ia⟩ bP bZ.o (Z9.move HU.o (.f N) Ij) (HE.o.move (.f (M.o.n (I.o.n N))) (λb _ h=>⟨h.1,by have:=h.2;omega,by have:=h.2;omega⟩))
  have HC:=Qq (cD.o (λb=>S0 b/\b≠w+1+1/\b≠w+1+1) S' _ _ w6 (λb hb=>⟨bM.o b Ia,Ia,Ia⟩) (bK.o.below (M.o.n (I.o.n N))) (Yx.move bL.o (.f (M.o.n (I.o.n N))) Ij) bR)
  have aM:=Qq (I.o.n N)
  have cC:=Qq (kB aM.o H2.o)
  have aN:=Qq (M.o.n aM.o)
  have bA:(λW=>W.heap[w.heap.size]?=some (.cells #[.int .i64 11,nm,n,s,.slice np names.length nc,.slice bp binds.length bc,Io J A 2 kc,a,z] 46 (0,0))/\W.heap[w.heap.size+1]?=some (.cells #[.pointer q] 122 (0,0))/\Below w w W) w6:=⟨kB aM.o H0.o,kB aM.o H1.o,aN.o⟩
  refine U.o _ _ bA (λG=>?_)
  clear U K bC N bP bR dC dD HU bL aZ
  refine AE 11 (λK U=>?_) Qo
  go_simp
  cases r1 with
  | none=>
   refine HC.o.mono ?_
   rintro e w8 ⟨rfl,cT⟩
   exact ⟨rfl,rfl,aN.o.n cT⟩
  | some r=>
   refine HC.o.mono ?_
   rintro e w4 ⟨cr,rfl,bE,Z⟩
   have aP:(λW=>W.heap[w.heap.size]?=some (.cells #[.int .i64 11,nm,n,s,.slice np names.length nc,.slice bp binds.length bc,Io J A 2 kc,a,z] 46 (0,0))/\W.heap[w.heap.size+1]?=some (.cells #[.pointer q] 122 (0,0))/\Below w w W) w4:=⟨kB Z bA.1,kB Z bA.2.1,aN.o.n Z⟩
   obtain ⟨q3,l3,q4,l4,O,_⟩:=Z9.cells bE
   simp only [Il] at O
   subst O
   have hR:=kB Z cC.o
   have bW:=Qq (aN.o.n Z)
   have cB:=Qq bE
   have HR:=Qq hR
   have fz:=λj=>Qn _ _ j _ _ hR
   obtain ⟨f0,f1,f2,f3,f4⟩:=Iw fz
   have rr:=λj=>Qk _ _ j _ _ _ hR
   obtain ⟨r0,r1,r2,r3,r4⟩:=Iw rr
   simp only [Qf,Qg,Qh] at r0 r1 r2 r3 r4
   clear fz rr bE Z hR
   try dsimp only
   refine U.o _ _ aP (λG=>?_)
   clear U K
   refine AE 12 (λK U=>?_) Qo
   go_simp
   have bB:(λW=>W.heap[w.heap.size]?=some (.cells #[.int .i64 11,nm,n,s,.slice np names.length nc,.slice bp binds.length bc,Io J A 2 kc,a,z] 46 (0,0))/\W.heap[w.heap.size+1]?=some (.cells #[.pointer q] 122 (0,0))/\Below w w W) (AI w4 (w+1+1) r q3 l3 q4 l4):=⟨(Zf Ia).trans aP.1,(Zf Ia).trans aP.2.1,Zd aP.2.2 Ia⟩
   unfold Zl at bB
   refine U.o _ _ bB (λG=>?_)
   refine wpAnyH_done Ir ?_ _
   clear U K bB G
   go_wp2_with fail
   show bodyPost _ _ _ _ _ (AI w4 (w+1+1) r q3 l3 q4 l4)
   refine Q7 (v:=.agg (Is r q3 l3 q4 l4)) (by simp [results,results91,go_sem,Ze HR.o]) rfl ⟨_,rfl,?_,Zd bW.o Ia⟩
   exact Z9.move cB.o (λb hb _=>Zf (by have:=hb.2.1;omega)) (λ_ _ h=>h.1)
end Go.Proofs.YtdpibdpbgokmoaaGreatDoor
