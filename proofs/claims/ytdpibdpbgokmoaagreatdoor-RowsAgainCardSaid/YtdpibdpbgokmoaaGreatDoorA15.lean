import Derived.Test.YtdpibdpbgokmoaaGreatDoorA14
set_option maxRecDepth 100000
set_option maxHeartbeats 400000000
namespace Go.Proofs.YtdpibdpbgokmoaaGreatDoor
open Go.RowKit Go.Shelf Go.Lib Tryz
theorem Ss (us:List Sm) (B Y:Nat) (S:Nat->Prop) (ps:Option Addr) (ns nc:Nat) (T:Ty) (cty:List Value) (rows:List Val) (p:Val->Bool) (w:World) (hB0:w.cell? ⟨B,0,none⟩=some (.slice ps ns nc)) (hct:∀ j u,cty[j]?=some u->w.cell? ⟨Y,j,none⟩=some u) (hYl:Y<w)
  (hsm:Sl J3 S w (.slice ps ns nc) us) (hty:Xl S w cty T) (hp:∀ x ∈ rows,Y7 x/\Fv us x T (p x)) (hK:Xs w):Uv prog 29 #[Iv B,Iv Y] Zc S rows p w:=by
 intro W x cs hb I G
 have A:=hty.move (.f hb) Ij
 have HC:=Qq (λW' (h':Below W W W')=>hasGood us x T (p x) (hp x I).1 (hp x I).2 S S S cs cty ps ns nc W' ((hsm.below hb).below h') (Z9.move (show Z9 S W cs x from G) (.f h') Ij) (A.move (.f h') Ij) ((hK.below hb).below h'))
 obtain ⟨k,s,n,names,kids⟩:=T
 obtain ⟨y3,m3,y4,m4,rfl,_⟩:=A.cells'
 obtain ⟨p3,k3,p4,k4,D,_⟩:=Z9.cells (show Z9 S W cs x from G)
 simp only [Il] at D
 subst D
 have b0:=kC hb hB0
 have d:=λj u hj=>(hb.cell (p:=⟨Y,j,none⟩) hYl).trans (hct j u hj)
 have d0:=d 0 _ rfl
 have d1:=d 1 _ rfl
 have d2:=d 2 _ rfl
 have d3:=d 3 _ rfl
 have d4:=d 4 _ rfl
 have M:Y<W.heap.size:=Qv W _ d0
 have J:B<W.heap.size:=Qv W _ b0
 show Calls prog 29 #[.agg (Is x p3 k3 p4 k4),Iv B,Iv Y] W (λe w'=>e=.returned (.bool (p x))/\Below W W w')
 generalize p x=b at HC |-
 clear d hct hty hb I G A hp hB0 hK hsm
 go_enter func29,ntmps29
 go_wp2_with (go_at_call 30;refine (HC.o _ (Zg _ _)).mono ?_;rintro e w' ⟨rfl,hw⟩)
 go_ret
 exact ⟨rfl,(Zg _ _).n hw⟩
theorem con2_any (us:List Sm) (B:Nat) (S0 S3:Nat->Prop) (ps:Option Addr) (ns nc:Nat) (t:Tbl) (ct:List Value) (rv:Value) (rows:List Val) (p:Val->Bool) (w:World) (hB0:w.cell? ⟨B,0,none⟩=some (.slice ps ns nc)) (ht:Zn.R S0 w ct t) (hr:Sl Zc S3 w rv rows)
  (hsm:Sl J3 (λb=>b<w) w (.slice ps ns nc) us) (ho:Srt Dy t.columns) (hl:t.columns.length<=19) (hne:t.columns≠[]) (hp:∀ x ∈ rows,Y7 x/\Fv us x (Mi t) (p x)) (hK:Xs w):
  Calls prog 26 #[ct,rv,Iv B] w (G5 S3 w (X9 9 p rows)):=by
 have aH:=Qq (λW (hb:Below w w W)=>row_any S0 t ct W (Zn.frame ht (.f hb)) ho hl hne)
 have bK:=Qv _ _ hB0
 have HU:=Qq (λW Y M (hb:Below w w W) (hct:∀ j u,M[j]?=some u->W.cell? ⟨Y,j,none⟩=some u) (hY:Y<W) (D:Xl (λ_=>True) W M (Mi t))=>Ns 9 29 #[Iv B,Iv Y] (enters_of func29 Ir rfl) (λb=>S3 b/\b<w) rv rows p W ((hr.mono (λb hb h=>⟨h,hb⟩)).below hb)
  (λW' x cs h1 h2 h3=>Ss us B Y (λ_=>True) ps ns nc (Mi t) M rows p W (kD hb bK hB0) hct hY ((hsm.mono (λ_ _ _=>trivial)).below hb) D hp (hK.below hb) W' x cs h1 h2 (Z9.move h3 (.refl _ _) (λ_ _ _=>trivial))))
 obtain ⟨bT,bS,bY,bX,cG,cF,k9,cH,n9,cI,cC,bZ,bP,cD,cA,bQ,cE,cB,bR,a9,z9,G,_⟩:=Yq ht
 simp only [AL] at G
 subst G
 obtain ⟨rp,rc,rfl,_⟩:=hr.len
 obtain ⟨f,hf⟩:=eX (X9 9 p rows)
 rw [hf] at HU |-
 clear ht hr hf hp hK ho hl hne hB0 hsm
 go_enter func26,ntmps26
 go_wp2_with fail
 refine (aH.o _ (Zs _ _ _)).mono ?_
 rintro e w1 ⟨M,rfl,D,O⟩
 have I:=D
 generalize hT:Mi t=T at D I HU
 obtain ⟨tk,ts,tn,A,J⟩:=T
 obtain ⟨y3,m3,y4,m4,bL,_⟩:=I.cells'
 subst bL
 have bH:=Qq D;have bB:=Qq ((Zs w _ _).n O)
 have bG:=Qq ((O.block (w+1) Ib).trans (Q6 w _ _))
 have bJ:=Qq (show w+2<=w1.heap.size by have:=O.size;simp at this;omega)
 clear D I O hT
 go_upto_region 2 with fail
 obtain ⟨W2,N⟩:=eX (w1.alloc (.cells #[tk,ts,tn,.slice y3 A.length m3,.slice y4 J.length m4] 56))
 rw [N]
 have U:=Iq N (Zg _ _)
 have aD:=Ik (b:=w1.heap.size) N (Qw _ _)
 have aE:=Qq (bB.o.n U)
 have aG:=Qq ((U.block (w+1) (Ix bJ.o)).trans bG.o)
 have bI:=Qq (HU.o W2 w1 [tk,ts,tn,.slice y3 A.length m3,.slice y4 J.length m4] aE.o (λj u hj=>by rw [Qk _ _ j _ _ _ aD];simpa using hj) (Z8 aD) (bH.o.move (.f U) (λ_ _ _=>trivial)))
 clear N U aD HU
 go_wp2_with fail
 refine bI.o.mono ?_
 rintro e w5 ⟨bU,rfl,aJ,aC⟩
 obtain ⟨p3,k3,p4,k4,q3,l3,q4,l4,G,aK,aM,aL⟩:=Ue aJ
 simp only [fcs] at G
 subst G
 have aB:=Qq ((aC.block (w+1) (Z8 aG.o)).trans aG.o)
 have bC:=Qq (aE.o.n aC)
 obtain ⟨bF,bE,bD⟩:=Im aM aL aK
 have fz:=λj=>Qn _ _ j _ _ aB.o
 have rr:=λj=>Qk _ _ j _ _ _ aB.o
 obtain ⟨f0,f1,f2,f3,f4,f5,f6,f7,f8,f9,bV,bW⟩:=AJ fz
 obtain ⟨r0,r1,r2,r3,r4,r5,r6,r7,r8,r9,bM,bN⟩:=AJ rr
 simp only [Qf,Qg,Qh] at r0 r1 r2 r3 r4 r5 r6 r7 r8 r9 bM bN
 clear fz rr aJ aC aM aL aK
 go_wp2_with fail
 obtain ⟨W,hW⟩:=eX (Y9 w5 (w+1) f.code f.table f.row.kind f.row.n f.row.s (.slice p3 f.row.names.length k3) (.slice p4 f.row.kids.length k4) f.other.kind f.other.n f.other.s (.slice q3 f.other.names.length l3) (.slice q4 f.other.kids.length l4))
 have q:∀ j,W.cell? ⟨w+1,j,none⟩=#[.int .i64 f.code,.string ⟨f.table.toArray⟩,.int .i64 f.row.kind,.int .i64 f.row.n,.string ⟨f.row.s.toArray⟩,.slice p3 f.row.names.length k3,.slice p4 f.row.kids.length k4,.int .i64 f.other.kind,.int .i64 f.other.n,.string ⟨f.other.s.toArray⟩,.slice q3 f.other.names.length l3,.slice q4 f.other.kids.length l4][j]?:=λj=>by rw [<- hW];exact Ya aB.o j
 have aA:∀ b,b≠w.heap.size+1->W.heap[b]?=w5.heap[b]?:=λb hb=>by rw [<- hW];exact Xj hb
 have Z:Below w w W:=by rw [<- hW];exact Y1 bC.o Ia
 show bodyPost _ _ _ _ _ (Y9 w5 (w+1) f.code f.table f.row.kind f.row.n f.row.s (.slice p3 f.row.names.length k3) (.slice p4 f.row.kids.length k4) f.other.kind f.other.n f.other.s (.slice q3 f.other.names.length l3) (.slice q4 f.other.kids.length l4))
 rw [hW]
 have aF:=Qq Z;have V:=Qq aA
 obtain ⟨q0,q1,q2,aP,aQ,q5,q6,q7,q8,q9,aN,aO⟩:=AJ q
 simp only [Qf,Qg,Qh] at q0 q1 q2 aP aQ q5 q6 q7 q8 q9 aN aO
 clear hW Z q aA
 refine Q7 (v:=.agg (AU f.code f.table f.row p3 k3 p4 k4 f.other q3 l3 q4 l4)) (by simp [results,results26,go_sem,q0,q1,q2,aP,aQ,q5,q6,q7,q8,q9,aN,aO]) rfl ⟨_,rfl,?_,aF.o⟩
 exact ⟨_,_,rfl,bD.o,Z9.move bF.o (λb hb _=>V.o b (by have:b<w.heap.size:=hb.2;omega)) (λ_ _ h=>h.1),Z9.move bE.o (λb hb _=>V.o b (by have:b<w.heap.size:=hb.2;omega)) (λ_ _ h=>h.1)⟩
def Ua:List Val->Bool
 | a::b::l=>decide (Zu a b<0)&&Ua (b::l)
 | _=>true
theorem Kr:∀ (l:List Val),Ua l=true↔∀ (j:Nat) (x y:Val),l[j]?=some x->l[j+1]?=some y->Zu x y<0
 | []=>by simp [Ua]
 | [a]=>by simp [Ua]
 | a::b::l=>by
  rw [Ua,Bool.and_eq_true,decide_eq_true_eq,Kr (b::l)]
  constructor
  ·rintro ⟨h1,h2⟩ j x y hx hy
   cases j with
   | zero=>simp at hx hy;subst hx;subst hy;exact h1
   | succ j=>exact h2 j x y (by simpa using hx) (by simpa using hy)
  intro h
  exact ⟨h 0 a b rfl rfl,λj x y hx hy=>h (j+1) x y (by simpa using hx) (by simpa using hy)⟩
theorem P8 {l:List Val} {j:Nat} {x y:Val} (hx:l[j]?=some x) (hy:l[j+1]?=some y) (h:¬ Zu x y<0):Ua l=false:=by
 rw [<- Qt,Kr]
 exact λg=>h (g j x y hx hy)
theorem Qqy (S0 S1:Nat->Prop) (t:Tbl) (ct:List Value) (r:Rel) (cr:List Value) (w:World) (ht:Zn.R S0 w ct t) (hr:Yk.R S1 w cr r):
  Calls prog 75 #[ct,cr] w λe w'=>e=.returned (.bool (Ua r.rows&&decide (t.name=r.table)))/\Below w w w':=by
 obtain ⟨bF,bE,bR,bQ,bZ,bY,k9,cA,n9,cB,bV,bS,bB,bW,bT,bC,bX,bU,bD,a9,z9,aH,_⟩:=Yq ht
 simp only [AL] at aH
 subst aH
 obtain ⟨rv,rfl,_,N⟩:=hr
 have U:Sl Zc (λb=>b<w) w rv r.rows:=N.mono (λb hb _=>hb)
 obtain ⟨rp,rc,rfl,hl⟩:=U.len
 have hC:∀ (W:World) (x y:Val) (cx cy:List Value),Below w w W->Z9 (λb=>b<w) W cx x->Z9 (λb=>b<w) W cy y->∀ n os,Calls prog 61 #[cx,cy] (Sort.grow (W.drewN n) os) λe w'=>e=.returned (.int .i64 (Zu x y))/\∃ q os',w'=Sort.grow ((Sort.grow (W.drewN n) os).drewN q) os':=
  λW x y cx cy _ Y T n os=>Gb _ x y cx cy _ (Y.move (.f (Yh W n os).bl) Ij) (T.move (.f (Yh W n os).bl) Ij)
 have HC:=Qq hC;have HV:=Qq U
 clear ht N hC U
 obtain ⟨n,hn⟩:=eX (r.rows.length)
 rw [hn] at HV hl |-
 have HN:=Qq hn
 clear hn
 obtain ⟨tb,V⟩:=eX (decide (t.name=r.table))
 rw [V]
 have O:(t.name==r.table)=tb:=by rw [<- V];by_cases h:t.name=r.table <;> simp [h]
 have aS:=Qq O
 clear V O
 obtain ⟨res,A⟩:=eX (Ua r.rows)
 rw [A]
 have HR:=Qq A
 clear A
 unfold sv
 have mixed:(prog).follows .mixedOrders=true:=Ir
 go_enter func75,ntmps75
 go_wp2_with fail
 generalize I:(w.alloc _).alloc _=W1
 have aF:=Iq I (Zs _ _ _)
 have aC:=Ik (b:=w.heap.size) I (Q5 _ _ _)
 have aE:=Ik (b:=w.heap.size+1) I (Q6 _ _ _)
 obtain ⟨Z,aR,aB⟩:=Im aF aC aE
 clear I aF aC aE
 go_loopw [5,9] (λ_ i wr=>∃ k:Nat,k<=n/\i=.int .i64 k/\Gr W1 wr/\Aside (∀ (j:Nat) (x y:Val),j+1<k->r.rows[j]?=some x->r.rows[j+1]?=some y->Zu x y<0)) (λ_ i _=>n - (intOf i).toNat)
 case atStart=>exact ⟨0,Q8 _,rfl,Gr.refl _,λj x y hj=>absurd hj (Z6 _)⟩
 obtain ⟨k,bP,rfl,hG,hI⟩:=hrel
 have aZ:=Z8 aB.o
 have J:=kE hG.bl aZ aB.o
 have aU:=Z8 J
 have aD:=kB hG.bl aR.o
 have x0:=AB J;have x1:=AA J;have t0:=AB aD
 have HG:=Qq hG;have HI:=Qq hI.o
 have G:=Qq (Z.o.trans (hG.bl.mono Z.o.size))
 clear hG hI J aD
 by_cases hlt:k<n
 ·have aV:(0:Int)<=(k:Int):=Ia
  have aW:(k:Int)<(n:Int):=Ia
  by_cases hk0:k=0
  ·have hd:decide ((k:Int) > 0)=false:=by simp;omega
   have bG:decide ((0:Int)<(k:Int))=false:=by simp;omega
   have bH:decide (0<k)=false:=by simp;omega
   have aP:=Qq hk0
   clear hk0
   go_wp2_with fail
   go_quiet (fail)
   go_wp2_with fail
   go_roundw
   case measure=>simp [intOf];omega
   case rel=>exact ⟨k+1,Ia,by go_num,HG.o.n ⟨_,#[],by rw [Sort.grow_empty]⟩,(show Aside _ from λj x y hj=>absurd hj (Ix aP.o))⟩
  obtain ⟨j,rfl⟩:∃ j,k=j+1:=⟨k - 1,Ia⟩
  clear hk0
  obtain ⟨x,Y⟩:∃ x,r.rows[j]?=some x:=⟨_,Qx (by rw [HN.o];omega)⟩
  obtain ⟨y,T⟩:∃ y,r.rows[j+1]?=some y:=⟨_,Qx (by rw [HN.o];omega)⟩
  obtain ⟨xb,aL,p3,k3,p4,k4,rfl,D,aJ,d0,d1,d2,d3,d4⟩:=(HV.o.below G.o).val Y
  obtain ⟨yb,aM,q3,l3,q4,l4,he,bA,aK,e0,e1,e2,e3,e4⟩:=(HV.o.below G.o).val T
  obtain ⟨rfl,rfl,-⟩:xb=yb/\aL=aM/\True:=by simpa using he
  have M:=HC.o wr x y _ _ G.o aJ aK
  have D0:=Zt D d0;have D1:=Zt D d1;have D2:=Zt D d2;have D3:=Zt D d3;have D4:=Zt D d4
  have E0:=Zt D e0;have E1:=Zt D e1;have E2:=Zt D e2;have E3:=Zt D e3;have E4:=Zt D e4
  have X1:=Zt aU x1
  have bI:IntKind.i64.wrap (j:Int)=(j:Int):=by rw [IntKind.wrap_i64];omega
  have bJ:(j:Int)<(n:Int):=Ia
  have bK:(0:Int)<(j:Int)+1:=Ia
  have bL:(0:Int)<=(j:Int)+1:=Ia
  have bM:(j:Int)+1<(n:Int):=Ia
  have bN:(0:Int)<=(j:Int):=Ia
  have bO:((j:Int)+1).toNat=j+1:=Ia
  have HX:=Qq Y;have HY:=Qq T
  unfold Il at M
  generalize aG:Zu x y=c at M
  have aA:=Qq aG
  clear Y T he aJ aK bA d0 d1 d2 d3 d4 e0 e1 e2 e3 e4 aG aV aW
  by_cases hneg:c<0
  ·have hq:decide (0<=c)=false:=by simpa using hneg
   go_wp2_with fail
   go_quiet_grown (first | (go_at_call 61;refine Calls.grown_of (M _ _)))
   go_wp2_with fail
   go_roundw
   case measure=>simp [intOf];omega
   case rel=>
    refine ⟨j+1+1,Ia,by go_num,HG.o.n (Yh _ _ _),(show Aside _ from λi u v hi hu hv=>?_)⟩
    by_cases e:i=j
    ·subst e
     have h1:=HX.o;have h2:=HY.o
     rw [hu] at h1;rw [hv] at h2
     cases h1;cases h2
     rw [aA.o];exact hneg
    exact HI.o i u v Ia hu hv
  have hq:decide (0<=c)=true:=by simp;omega
  have A:res=false:=by rw [<- HR.o];exact P8 HX.o HY.o (by rw [aA.o];exact hneg)
  subst A
  go_wp2_with fail
  go_quiet_grown (first | (go_at_call 61;refine Calls.grown_of (M _ _)))
  go_wp2_with fail
  go_ret
  exact ⟨Ib,G.o.n (Yh _ _ _).bl⟩
 have aI:k=n:=Ia
 subst aI
 have A:res=true:=by
  rw [<- HR.o,Kr]
  exact λj x y Y T=>HI.o j x y (by have:=(Qj T).1;have:=HN.o;omega) Y T
 subst A
 go_wp2_with fail
 go_ret
 refine ⟨?_,G.o⟩
 rw [Bool.true_and,<- aS.o]
 rfl
def U3 (s:Sc) (l:List Rel):Bool:=Iu (λ(t:Tbl) (r:Rel)=>Ua r.rows&&decide (t.name=r.table)) s.tables l
theorem Tv (S0 S1:Nat->Prop) (s:Sc) (cs:List Value) (lv:Value) (l:List Rel) (w:World) (hs:Ve S0 w cs s) (hl:Sl Yk S1 w lv l):
  Calls prog 24 #[cs,lv] w λe w'=>e=.returned (.bool (U3 s l))/\Below w w w':=by
 obtain ⟨uv,tv,rfl,hu,A⟩:=hs
 have HE:=Qq (λW (hb:Below w w W)=>Qqi 75 #[] (enters_of func75 Ir rfl) (λ_=>True) tv lv s.tables l W ((A.mono (λ_ _ _=>trivial)).below hb) ((hl.mono (λ_ _ _=>trivial)).below hb) (λt r=>Ua r.rows&&decide (t.name=r.table))
  (λW' x y cx cy _ _ _ hx hy=>Qqy _ _ x cx y cy W' hx hy))
 obtain ⟨up,uc,rfl,_⟩:=hu.len
 obtain ⟨tp,tc,rfl,_⟩:=A.len
 obtain ⟨lp,lc,rfl,_⟩:=hl.len
 unfold U3
 generalize Iu _ s.tables l=r at HE |-
 clear hu A hl
 go_enter func24,ntmps24
 go_wp2_with (go_at_call 74;refine (HE.o _ (Zg _ _)).mono ?_;rintro e w' ⟨rfl,hw⟩)
 go_ret
 exact ⟨rfl,(Zg _ _).n hw⟩
section
variable {P:Program} {T:Type}
theorem To {r:Rd T} (t ty E:TypeId) (i:TypeInfo) (ht:P.underlying t=some (.slice E)) (hi:P.info? E=some i) (S:Nat->Prop) (B:Nat) (w:World) (v:Value) (xs:List T) (css:List (List Value)) (hO:Own r E S B w v xs css) (c:Nat):
  (Builtin.append_ #[t,t] ty #[v,.slice none 0 c]).run P w=.ok v w:=by
 rcases hO.row.2 with ⟨rfl,_⟩ | ⟨g,cap,D,rfl,_,_,A,_⟩
 ·simp [Builtin.append_,run_underlying ht,sizeOf,typeInfo,hi,Builtin.lenOf,Builtin.firstCells]
 simp [Builtin.append_,run_underlying ht,sizeOf,typeInfo,hi,Builtin.lenOf,Builtin.firstCells,A,storeCells]
theorem run_cat {r:Rd T} (hk:0<r.k) (t ty E:TypeId) (i:TypeInfo) (z:Value) (bytes:Nat) (ht:P.underlying t=some (.slice E)) (hi:P.info? E=some i) (hz:i.zero=some z) (hsize:i.size=r.k) (hby:i.bytes=bytes) (hzs:z.cells.size=r.k) (hb1:bytes<=1000)
  (S:Nat->Prop) (B:Nat) (w:World) (v:Value) (xs:List T) (css:List (List Value)) (ys:List T) (q:Option Addr) (m c:Nat) (hO:Own r E S B w v xs css) (hY:Sl r (But S v) w (.slice q m c) ys)
  (h1:∀ S w cs x,r.R S w cs x->∀ u ∈ cs,u.oneCell'=true) (hl:xs.length+ys.length<=1000000) (hB:B<=w):
  ∃ p cap css' w1,(Builtin.append_ #[t,t] ty #[v,.slice q m c]).run P w=.ok (.slice p (xs.length+ys.length) cap) w1/\Own r E S B w1 (.slice p (xs.length+ys.length) cap) (xs++ys) css'/\w.grownBy w1 v.ownBlock/\((Value.slice p (xs.length+ys.length) cap).ownBlock=v.ownBlock\/(Value.slice p (xs.length+ys.length) cap).ownBlock=some w.heap.size):=by
 obtain ⟨q',c',dss,hv,O,hc⟩:=hY.css hk
 simp only [Qr] at hv
 obtain ⟨rfl,rfl,rfl⟩:=hv
 have I:∀ N:Addr,q=some N->(∀ j u,dss.flatten[j]?=some u->w.cell? (N.add j)=some u)->∃ p cap css' w1,(Builtin.append_ #[t,t] ty #[v,.slice q ys.length c]).run P w=.ok (.slice p (xs.length+ys.length) cap) w1/\Own r E S B w1 (.slice p (xs.length+ys.length) cap) (xs++ys) css'/\w.grownBy w1 v.ownBlock/\((Value.slice p (xs.length+ys.length) cap).ownBlock=v.ownBlock\/(Value.slice p (xs.length+ys.length) cap).ownBlock=some w.heap.size):=by
  rintro N rfl A
  obtain ⟨v1,w1,G,V,D,_,M⟩:=run_append_own_at (P:=P) w B t ty E i z r.k bytes ht hi hz hsize hby hzs hk v xs.length css.flatten hO.row N ys.length c dss.flatten O.flat A (λu Y=>by
   obtain ⟨cc,aA,aD⟩:=List.mem_flatten.1 Y
   obtain ⟨i',U⟩:=Zk aA
   have aC:=(Qj U).1
   exact h1 _ w cc _ (O.R i' cc _ U (Qx (by rw [<- O.len];exact aC))) u aD) (by unfold maxLen;omega) (by
   have:=Nat.mul_le_mul (show xs.length+ys.length<=1000000 by omega) hb1
   omega) hB
  have J:=hO.append O (v':=v1) (w2:=w1) V D M
  obtain ⟨p,cap,rfl⟩:=J.form
  rw [Ql] at J G M
  exact ⟨p,cap,_,w1,G,J,D,M⟩
 by_cases hne:ys=[]
 ·subst hne
  have aB:dss=[]:=Zy O.len
  subst aB
  rcases q with _ | N
  ·obtain ⟨p,cap,rfl⟩:=hO.form
   exact ⟨p,cap,css,w,To t ty E i ht hi S B w _ xs css hO c,by simpa using hO,World.grownBy.refl w _,.inl rfl⟩
  exact I N rfl (λj u Y=>by simp at Y)
 obtain ⟨b,Z,rfl,_,_,A⟩:=hc hne
 exact I _ rfl (λj u Y=>by
  rw [show (⟨b,Z,none⟩:Addr).add j=⟨b,Z+j,none⟩ by unfold Addr.add;split <;> simp_all]
  exact A j u Y)
theorem step_cat {r:Rd T} (hk:0<r.k) {ops:Array Oper} {o:Oper} {a:Act} {K:Act->World->Prop} {Q:Exit->Act->World->Prop} {X:Prop} (hgd:o.guard=none) (s x:Operand) (t:TypeId)
  (ho:o.op=.call { callee:=.builtin .append,args:=#[s,x],argTypes:=#[t,t] }) (E:TypeId) (i:TypeInfo) (z:Value) (bytes:Nat) (ht:P.underlying t=some (.slice E)) (hi:P.info? E=some i) (hz:i.zero=some z)
  (hsize:i.size=r.k) (hby:i.bytes=bytes) (hzs:z.cells.size=r.k) (hb1:bytes<=1000) (S:Nat->Prop) (B:Nat) (w:World) (v:Value) (xs:List T) (css:List (List Value)) (ys:List T) (q:Option Addr) (m c:Nat) (hs:a.eval s=v)
  (hO:Own r E S B w v xs css) (hx:a.eval x=.slice q m c) (hY:Sl r (But S v) w (.slice q m c) ys) (h1:∀ S w cs x,r.R S w cs x->∀ u ∈ cs,u.oneCell'=true) (hl:xs.length+ys.length<=1000000) (hB:B<=w)
  (h:∀ p cap A G,Own r E S B G (.slice p (xs.length+ys.length) cap) (xs++ys) A->w.grownBy G v.ownBlock->((Value.slice p (xs.length+ys.length) cap).ownBlock=v.ownBlock\/(Value.slice p (xs.length+ys.length) cap).ownBlock=some w.heap.size)->K (a.put o.dst (.slice p (xs.length+ys.length) cap)) G):
  if Region.wanted o (yielded ops a.tmps)=true then Oper.wp P o a w K Q else X:=by
 have hw:Region.wanted o (yielded ops a.tmps)=true:=by simp [Region.wanted,hgd]
 rw [if_pos hw]
 obtain ⟨p,cap,A,G,D,h2,h3,h4⟩:=run_cat (P:=P) hk t o.type E i z bytes ht hi hz hsize hby hzs hb1 S B w v xs css ys q m c hO hY h1 hl hB
 unfold Oper.wp execOp
 simp only [ho,resolve,invoke,builtin,Sem.run_bind,Sem.run_pure,Result.andThen_ok,List.map_toArray,List.map_cons,List.map_nil,hs,hx,D]
 exact h p cap A G h2 h3 h4
end
end Go.Proofs.YtdpibdpbgokmoaaGreatDoor
