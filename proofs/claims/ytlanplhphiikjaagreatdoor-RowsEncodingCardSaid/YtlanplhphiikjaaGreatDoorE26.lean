import Derived.Test.YtlanplhphiikjaaGreatDoorE22
import Derived.Test.YtlanplhphiikjaaGreatDoorE24
set_option maxRecDepth 100000
set_option maxHeartbeats 400000000
namespace Go.Proofs.YtlanplhphiikjaaGreatDoor
open Go.RowKit Go.Shelf Go.Lib Tryz
def Ul:List Val->Bool
 | a::b::l=>decide (Yk a b<0)&&Ul (b::l)
 | _=>true
theorem Ba:∀ (l:List Val),Ul l=true↔∀ (j:Nat) (x y:Val),l[j]?=some x->l[j+1]?=some y->Yk x y<0
 | []=>by simp [Ul]
 | [a]=>by simp [Ul]
 | a::b::l=>by
  rw [Ul,Bool.and_eq_true,decide_eq_true_eq,Ba (b::l)]
  constructor
  ·rintro ⟨h1,h2⟩ j x y hx hy
   cases j with
   | zero=>simp at hx hy;subst hx;subst hy;exact h1
   | succ j=>exact h2 j x y (by simpa using hx) (by simpa using hy)
  intro h
  exact ⟨h 0 a b rfl rfl,fun j x y hx hy=>h (j+1) x y (by simpa using hx) (by simpa using hy)⟩
theorem Rk {l:List Val} {j:Nat} {x y:Val} (hx:l[j]?=some x) (hy:l[j+1]?=some y) (h:¬ Yk x y<0):Ul l=false:=by
 rw [<- Qt,Ba]
 exact fun g=>h (g j x y hx hy)
theorem Qkz (S0 S1:Nat->Prop) (t:Tbl) (ct:List Value) (r:Rel) (cr:List Value) (w:World) (ht:Zl.R S0 w ct t) (hr:Yx.R S1 w cr r):
  Calls prog 112 #[ct,cr] w fun e w'=>e=.returned (.bool (Ul r.rows&&decide (t.name=r.table)))/\Below w w w':=by
 obtain ⟨bG,bF,bS,bR,cA,bZ,k9,cB,n9,cC,bW,bT,bC,bX,bU,bD,bY,bV,bE,a9,z9,aI,_⟩:=Yj ht
 simp only [tcs] at aI
 subst aI
 obtain ⟨rv,rfl,_,O⟩:=hr
 have V:Sl Zc (fun b=>b<w) w rv r.rows:=O.mono (fun b hb _=>hb)
 obtain ⟨rp,rc,rfl,hl⟩:=V.len
 have hC:∀ (W:World) (x y:Val) (cx cy:List Value),Below w w W->Za (fun b=>b<w) W cx x->Za (fun b=>b<w) W cy y->∀ n os,Calls prog 99 #[cx,cy] (Sort.grow (W.drewN n) os) fun e w'=>e=.returned (.int .i64 (Yk x y))/\∃ q os',w'=Sort.grow ((Sort.grow (W.drewN n) os).drewN q) os':=
  fun W x y cx cy _ Z U n os=>Hl _ x y cx cy _ (Z.move (.of_below (Y7 W n os).bl) Qyv) (U.move (.of_below (Y7 W n os).bl) Qyv)
 have HC:=Qq hC;have HV:=Qq V
 clear ht O hC V
 obtain ⟨n,hn⟩:=eX (r.rows.length)
 rw [hn] at HV hl |-
 have HN:=Qq hn
 clear hn
 obtain ⟨tb,Y⟩:=eX (decide (t.name=r.table))
 rw [Y]
 have T:(t.name==r.table)=tb:=by rw [<- Y];by_cases h:t.name=r.table <;> simp [h]
 have aT:=Qq T
 clear Y T
 obtain ⟨res,A⟩:=eX (Ul r.rows)
 rw [A]
 have HR:=Qq A
 clear A
 unfold sv
 have mixed:(prog).follows .mixedOrders=true:=Qxx
 go_enter func112,ntmps112
 go_wp2_with fail
 generalize J:(w.alloc _).alloc _=W1
 have aG:=eqB J (Zu _ _ _)
 have aD:=eqH (b:=w.heap.size) J (Q5 _ _ _)
 have aF:=eqH (b:=w.heap.size+1) J (Q6 _ _ _)
 obtain ⟨aA,aS,aC⟩:=Qxn aG aD aF
 clear J aG aD aF
 go_loopw [5,9] (fun _ i wr=>∃ k:Nat,k<=n/\i=.int .i64 k/\Gr W1 wr/\Aside (∀ (j:Nat) (x y:Val),j+1<k->r.rows[j]?=some x->r.rows[j+1]?=some y->Yk x y<0)) (fun _ i _=>n - (intOf i).toNat)
 case atStart=>exact ⟨0,Q8 _,rfl,Gr.refl _,fun j x y hj=>absurd hj (Z6 _)⟩
 obtain ⟨k,bQ,rfl,hG,hI⟩:=hrel
 have bA:=Z8 aC.out
 have M:=kE hG.bl bA aC.out
 have aV:=Z8 M
 have aE:=kB hG.bl aS.out
 have x0:=rA0 M;have x1:=rA1 M;have t0:=rA0 aE
 have HG:=Qq hG;have HI:=Qq hI.out
 have I:=Qq (aA.out.trans (hG.bl.mono aA.out.size))
 clear hG hI M aE
 by_cases hlt:k<n
 ·have aW:(0:Int)<=(k:Int):=Qvu
  have aX:(k:Int)<(n:Int):=Qvu
  by_cases hk0:k=0
  ·have hd:decide ((k:Int) > 0)=false:=by simp;omega
   have bH:decide ((0:Int)<(k:Int))=false:=by simp;omega
   have bI:decide (0<k)=false:=by simp;omega
   have aQ:=Qq hk0
   clear hk0
   go_wp2_with fail
   go_quiet (fail)
   go_wp2_with fail
   go_roundw
   case measure=>simp [intOf];omega
   case rel=>exact ⟨k+1,Qvu,by go_num,HG.out.thn ⟨_,#[],by rw [Sort.grow_empty]⟩,(show Aside _ from fun j x y hj=>absurd hj (Qxj aQ.out))⟩
  obtain ⟨j,rfl⟩:∃ j,k=j+1:=⟨k - 1,Qvu⟩
  clear hk0
  obtain ⟨x,Z⟩:∃ x,r.rows[j]?=some x:=⟨_,Qx (by rw [HN.out];omega)⟩
  obtain ⟨y,U⟩:∃ y,r.rows[j+1]?=some y:=⟨_,Qx (by rw [HN.out];omega)⟩
  obtain ⟨xb,aM,p3,k3,p4,k4,rfl,D,aK,d0,d1,d2,d3,d4⟩:=(HV.out.below I.out).val Z
  obtain ⟨yb,aN,q3,l3,q4,l4,he,bB,aL,e0,e1,e2,e3,e4⟩:=(HV.out.below I.out).val U
  obtain ⟨rfl,rfl,-⟩:xb=yb/\aM=aN/\True:=by simpa using he
  have N:=HC.out wr x y _ _ I.out aK aL
  have D0:=Zm D d0;have D1:=Zm D d1;have D2:=Zm D d2;have D3:=Zm D d3;have D4:=Zm D d4
  have E0:=Zm D e0;have E1:=Zm D e1;have E2:=Zm D e2;have E3:=Zm D e3;have E4:=Zm D e4
  have X1:=Zm aV x1
  have bJ:IntKind.i64.wrap (j:Int)=(j:Int):=by rw [IntKind.wrap_i64];omega
  have bK:(j:Int)<(n:Int):=Qvu
  have bL:(0:Int)<(j:Int)+1:=Qvu
  have bM:(0:Int)<=(j:Int)+1:=Qvu
  have bN:(j:Int)+1<(n:Int):=Qvu
  have bO:(0:Int)<=(j:Int):=Qvu
  have bP:((j:Int)+1).toNat=j+1:=Qvu
  have HX:=Qq Z;have HY:=Qq U
  unfold vcs at N
  generalize aH:Yk x y=c at N
  have aB:=Qq aH
  clear Z U he aK aL bB d0 d1 d2 d3 d4 e0 e1 e2 e3 e4 aH aW aX
  by_cases hneg:c<0
  ·have hq:decide (0<=c)=false:=by simpa using hneg
   go_wp2_with fail
   go_quiet_grown (first | (go_at_call 99;refine Calls.grown_of (N _ _)))
   go_wp2_with fail
   go_roundw
   case measure=>simp [intOf];omega
   case rel=>
    refine ⟨j+1+1,Qvu,by go_num,HG.out.thn (Y7 _ _ _),(show Aside _ from fun i u v hi hu hv=>?_)⟩
    by_cases e:i=j
    ·subst e
     have h1:=HX.out;have h2:=HY.out
     rw [hu] at h1;rw [hv] at h2
     cases h1;cases h2
     rw [aB.out];exact hneg
    exact HI.out i u v Qvu hu hv
  have hq:decide (0<=c)=true:=by simp;omega
  have A:res=false:=by rw [<- HR.out];exact Rk HX.out HY.out (by rw [aB.out];exact hneg)
  subst A
  go_wp2_with fail
  go_quiet_grown (first | (go_at_call 99;refine Calls.grown_of (N _ _)))
  go_wp2_with fail
  go_ret
  exact ⟨Qxz,I.out.thn (Y7 _ _ _).bl⟩
 have aJ:k=n:=Qvu
 subst aJ
 have A:res=true:=by
  rw [<- HR.out,Ba]
  exact fun j x y Z U=>HI.out j x y (by have:=(Qj U).1;have:=HN.out;omega) Z U
 subst A
 go_wp2_with fail
 go_ret
 refine ⟨?_,I.out⟩
 rw [Bool.true_and,<- aT.out]
 rfl
def Uc (s:Sc) (l:List Rel):Bool:=eqL (fun (t:Tbl) (r:Rel)=>Ul r.rows&&decide (t.name=r.table)) s.tables l
theorem Am (S0 S1:Nat->Prop) (s:Sc) (cs:List Value) (lv:Value) (l:List Rel) (w:World) (hs:Vj S0 w cs s) (hl:Sl Yx S1 w lv l):
  Calls prog 58 #[cs,lv] w fun e w'=>e=.returned (.bool (Uc s l))/\Below w w w':=by
 obtain ⟨uv,tv,rfl,hu,A⟩:=hs
 have HE:=Qq (fun W (hb:Below w w W)=>Qqx 112 #[] (enters_of func112 Qxx rfl) (fun _=>True) tv lv s.tables l W ((A.mono (fun _ _ _=>trivial)).below hb) ((hl.mono (fun _ _ _=>trivial)).below hb) (fun t r=>Ul r.rows&&decide (t.name=r.table))
  (fun W' x y cx cy _ _ _ hx hy=>Qkz _ _ x cx y cy W' hx hy))
 obtain ⟨up,uc,rfl,_⟩:=hu.len
 obtain ⟨tp,tc,rfl,_⟩:=A.len
 obtain ⟨lp,lc,rfl,_⟩:=hl.len
 unfold Uc
 generalize eqL _ s.tables l=r at HE |-
 clear hu A hl
 go_enter func58,ntmps58
 go_wp2_with (go_at_call 111;refine (HE.out _ (Ze _ _)).mono ?_;rintro e w' ⟨rfl,hw⟩)
 go_ret
 exact ⟨rfl,(Ze _ _).thn hw⟩
theorem cs_str {S S':Nat->Prop} {w w':World} {css:List (List Value)} {xs:List Bs} (h:Cs Zg S w css xs):Cs Zg S' w' css xs:=⟨h.len,fun i c x hc hx=>h.R i c x hc hx⟩
theorem B7 {E:TypeId} {S S':Nat->Prop} {B:Nat} {w w':World} {v:Value} {xs:List Bs} {css:List (List Value)} (h:Own Zg E S B w v xs css) (hA:∀ b,b<w.heap.size->v.ownBlock=some b->w'.heap[b]?=w.heap[b]?):Own Zg E S' B w' v xs css:=
 ⟨Us h.row hA,cs_str h.cs⟩
theorem T6 {E E':TypeId} {r':Rd Val} {S0 S0':Nat->Prop} {W0 w w6:World} {v v' v1':Value} {n n':Nat} {xs:List Bs} {xs':List Val} (h:Mk Zg E S0 W0 w v n xs) (h':Mk r' E' S0' W0 w v' n' xs') (hne:E≠E') (hL:Fg W0 w w6 v' v1'):Mk Zg E S0 W0 w6 v n xs:=by
 obtain ⟨css,h1,h2,h3⟩:=h
 obtain ⟨A,g1,_,_⟩:=h'
 exact ⟨css,B7 h1 (fun b hb hv=>hL.other b hb (fun e=>Yp h1.row g1.row hne hv e.symm)),h2,h3.trans hL.below⟩
theorem Wk {E E':TypeId} {r:Rd Val} {r':Rd Bs} {S0 S0':Nat->Prop} {W0 w w6:World} {v v' v1':Value} {n n':Nat} {xs:List Val} {xs':List Bs} (h:Mk r E S0 W0 w v n xs) (h':Mk r' E' S0' W0 w v' n' xs') (hne:E≠E') (hL:Fg W0 w w6 v' v1') (hS:∀ b,S0 b->some b≠v'.ownBlock):Mk r E S0 W0 w6 v n xs:=by
 obtain ⟨css,h1,h2,h3⟩:=h
 obtain ⟨D,g1,_,_⟩:=h'
 refine ⟨css,h1.move (Q9 _) (fun b hb A=>hL.other b hb (fun e=>?_)),h2,h3.trans hL.below⟩
 rcases A with A | A
 ·exact hS b A e
 exact Yp h1.row g1.row hne A e.symm
theorem Zh {W:World} {R b j:Nat} {x0 x1 x2 x3 x4 u:Value} (h:b≠R) (hc:W.cell? ⟨b,j,none⟩=some u):(Zp W R x0 x1 x2 x3 x4).cell? ⟨b,j,none⟩=some u:=(World.cell?_of_block (Zi h)).trans hc
theorem sl_val1 {S:Nat->Prop} {w:World} {b:Nat} {c0 c1 c2 c3 c4:Value} {x:Val} (hb:w.heap[b]?=some (.cells #[c0,c1,c2,c3,c4] 48 (0,0))) (hS:S b) (hx:Za S w [c0,c1,c2,c3,c4] x):Sl Zc S w (.slice (some ⟨b,0,none⟩) 1 1) [x]:=
 Y2 hb hS (Cs.one (r:=Zc) hx) rfl rfl Qxz
theorem Lf (d:Nat) (e:Ex) (he:Xi d e) (S:Nat->Prop) (ce:List Value) (nv vv:Value) (names:List Bs) (vals:List Val) (nm:Bs) (v:Val) (cv:List Value) (w:World) (hx0:Y1 S w ce e) (hn0:Sl Zg S w nv names) (hv0:Sl Zc S w vv vals) (hlen:names.length<=vals.length) (hd:vals.length+(d+1)<=1000) (hb:∀ v ∈ vals,Y0 v) (hnm:nm.length<=1000000) (hvv:Za S w cv v) (hbv:Y0 v):
  Calls prog 245 #[ce,nv,vv,sv nm,cv] w (Xy S w (Y5 d e (names++[nm]) (vals++[v]))):=by
 have hx:Y1 (fun b=>S b/\b<w) w ce e:=hx0.move (.refl _ _) (fun b hb h=>⟨h,hb⟩)
 have hn:=hn0.up
 have hv:=hv0.up
 have bW:Za (fun b=>S b/\b<w) w cv v:=hvv.move (.refl _ _) (fun b hb h=>⟨h,hb⟩)
 obtain ⟨np,nc,rfl,_⟩:=hn.len
 obtain ⟨vp,vc,rfl,_⟩:=hv.len
 obtain ⟨Z,V,q4,Y,dP,_⟩:=Za.cells bW
 have eT:=Qq bW
 simp only [vcs] at dP
 subst dP
 obtain ⟨ek,cW,en,cX,cT,cQ,cN,cU,cR,cO,cV,cS,cP,ea,ez,eW⟩:=Y1.cells hx
 have HX:=Qq hx
 subst eW
 obtain ⟨HN,HV,HE,HB,eM⟩:=Qxp hn hv he hb hbv
 clear hx0 hn0 hv0 hvv hx hn hv bW he hb hbv
 obtain ⟨i0,j1,j2,j3,j4⟩:=Y4 (P:=prog) (t:=48) (z:=.agg zV) (n:=5) (b:=80) Qxx
 obtain ⟨HJ,aP,aQ,aR⟩:=Qxo j1 j2 j3 j4
 clear j1 j2 j3 j4
 obtain ⟨i9,j1,j2,j3,j4⟩:=Y4 (P:=prog) (t:=9) (z:=.string ⟨#[]⟩) (n:=1) (b:=16) Qxx
 obtain ⟨HS,aV,aW,aX⟩:=Qxo j1 j2 j3 j4
 clear j1 j2 j3 j4
 unfold sv
 go_enter func245,ntmps245
 go_upto_region 3 with fail
 generalize aK:((w.alloc _).alloc _).alloc _=I
 have bT:=eqB aK (U8 _ _ _ _)
 have dV:I=w.heap.size+3:=by rw [<- aK];simp
 have dB:=eqH (b:=w.heap.size) aK (Yc _ _ _ _)
 have dL:=eqH (b:=w.heap.size+1) aK (Y8 _ _ _ _)
 have dN:=eqH (b:=w.heap.size+1+1) aK (Yz _ _ _ _)
 obtain ⟨aO,cF,cJ,eU,cK⟩:=Qxp bT dB dL dN dV
 have cZ:Sl Zg (But (fun _=>True) (.slice none 0 0)) I (.slice np names.length nc) names:=(HN.out.mono (S':=But (fun _=>True) (.slice none 0 0)) (fun b _ h=>⟨trivial,fun e=>by cases e⟩)).below bT
 have cC:=Qq cZ
 clear aK bT dB dL dN cZ dV
 go_upto_region 4 with (at_builtin;refine Yn (r:=Zg) Qxv Vq rfl (.tmp 14) (.tmp 15) _ rfl 9 i9 (.string ⟨#[]⟩) 16 underlying46 HS.out aV.out aW.out aX.out rfl Qvu (fun _=>True) I I (.slice none 0 0) [] [] rfl (Own.nil _ _ _ _ _) (.slice np names.length nc) names rfl cC.out names.length Qxz Qvu (Q9 _) ?_;intro pa ca cL wa dH dD;have bJ:=Qq dH;have aS:=Qq dD;clear dH dD)
 rw [List.nil_append] at bJ
 have aN:Below w w wa:=aO.out.thn aS.out.below
 have dS:=aS.out.size
 have dA:Sl Zc (But (fun b=>S b/\b<w) (.slice none 0 0)) wa (.slice vp vals.length vc) vals:=(HV.out.mono (S':=But (fun b=>S b/\b<w) (.slice none 0 0)) (fun b _ h=>⟨h,fun e=>by cases e⟩)).below aN
 have cD:=Qq dA;have fC:=Qq aN
 clear dA aN
 go_upto_region 5 with (at_builtin;refine Yn (r:=Zc) Qxv Xg rfl (.tmp 17) (.tmp 18) _ rfl 48 i0 (.agg zV) 80 underlying40 HJ.out aP.out aQ.out aR.out rfl Qvu (fun b=>S b/\b<w) I wa (.slice none 0 0) [] [] rfl (Own.nil _ _ _ _ _) (.slice vp vals.length vc) vals rfl cD.out vals.length Qxz Qvu dS ?_;intro pb cb cM A dI dE;have bK:=Qq dI;have aT:=Qq dE;clear dI dE)
 rw [List.nil_append] at bK
 have fE:=aT.out.size
 have aH:Below I I A:=aS.out.below.trans aT.out.below
 have dF:Mk Zg 9 (fun _=>True) I A (.slice pa names.length ca) names.length names:=⟨cL,B7 bJ.out (fun b hb _=>aT.out.other b hb (fun e=>by cases e)),rfl,aH⟩
 have dG:Mk Zc 48 (fun b=>(S b/\b<w)\/A<=b) I A (.slice pb vals.length cb) vals.length vals:=⟨cM,bK.out.weak (Q9 _) (fun b _ h=>.inl h),rfl,aH⟩
 obtain ⟨aF,aU,cE⟩:=Qxn dF dG aH
 clear dF dG aH bJ aS bK aT cC cD
 have dC:=kB cE.out cF.out
 have dM:=kB cE.out cJ.out
 have fG:=cK.out
 obtain ⟨e0,e1,e2,e3,e4,e5,e6,e7,e8⟩:=row9 dC
 obtain ⟨v0,v1,v2,v3,v4⟩:=row5 dM
 refine let_mvar% ?Lq1:=fun w':World=>(Qyw w' w ek (.string cW) en (.string cX) (.slice cT cQ cN) (.slice cU cR cO) (.slice cV cS cP) ea ez ((Qyd w' (w+1) v.kind v.n v.s (.slice Z v.names.length V) (.slice q4 v.kids.length Y):Prop)):Prop);?_
 have aJ:=Qq (fun (w':World) (h:Below I A w')=>(show ?Lq1 w' from ⟨kD h Qvu e0,kD h Qvu e1,kD h Qvu e2,kD h Qvu e3,kD h Qvu e4,kD h Qvu e5,kD h Qvu e6,kD h Qvu e7,kD h Qvu e8,kD h Qvu v0,kD h Qvu v1,kD h Qvu v2,kD h Qvu v3,kD h Qvu v4⟩))
 have eK:=Qq (fun (w':World) (o:Obj) (h:?Lq1 w')=>(show ?Lq1 (w'.alloc o) from ⟨kC (Ze w' o) h.1,kC (Ze w' o) h.2.1,kC (Ze w' o) h.2.2.1,kC (Ze w' o) h.2.2.2.1,kC (Ze w' o) h.2.2.2.2.1,kC (Ze w' o) h.2.2.2.2.2.1,kC (Ze w' o) h.2.2.2.2.2.2.1,kC (Ze w' o) h.2.2.2.2.2.2.2.1,kC (Ze w' o) h.2.2.2.2.2.2.2.2.1,kC (Ze w' o) h.2.2.2.2.2.2.2.2.2.1,kC (Ze w' o) h.2.2.2.2.2.2.2.2.2.2.1,kC (Ze w' o) h.2.2.2.2.2.2.2.2.2.2.2.1,kC (Ze w' o) h.2.2.2.2.2.2.2.2.2.2.2.2.1,kC (Ze w' o) h.2.2.2.2.2.2.2.2.2.2.2.2.2⟩))
 have HP:∀ w' x0 x1 x2 x3 x4,?Lq1 w'->?Lq1 (Zp w' (w+1+1) x0 x1 x2 x3 x4):=fun w' x0 x1 x2 x3 x4 h=>⟨Zh Qvu h.1,Zh Qvu h.2.1,Zh Qvu h.2.2.1,Zh Qvu h.2.2.2.1,Zh Qvu h.2.2.2.2.1,Zh Qvu h.2.2.2.2.2.1,Zh Qvu h.2.2.2.2.2.2.1,Zh Qvu h.2.2.2.2.2.2.2.1,Zh Qvu h.2.2.2.2.2.2.2.2.1,Zh Qvu h.2.2.2.2.2.2.2.2.2.1,Zh Qvu h.2.2.2.2.2.2.2.2.2.2.1,Zh Qvu h.2.2.2.2.2.2.2.2.2.2.2.1,Zh Qvu h.2.2.2.2.2.2.2.2.2.2.2.2.1,Zh Qvu h.2.2.2.2.2.2.2.2.2.2.2.2.2⟩
 unfold Zp at HP
 have eP:=Qq HP
 have eQ:=Qq (aJ.out A.drew (Qz _ _).drew)
 have eR:=Qq (fun o=>aJ.out (A.alloc o).drew ((Ze A o).mono Qvu).drew)
 have cI:=Qq (fun o o'=>aJ.out ((A.alloc o).alloc o').drew ((Zu A o o').mono Qvu).drew)
 have bB:∀ g,(Value.slice pa names.length ca).ownBlock=some g->I.heap.size<=g/\g<A.heap.size:=fun g e=>aF.out.lt g e
 have bC:∀ g,(Value.slice pb vals.length cb).ownBlock=some g->I.heap.size<=g/\g<A.heap.size:=fun g e=>aU.out.lt g e
 have cH:=Qq bB;have fF:=Qq bC
 have bP:=Qq (fun (w':World) (b:Nat) (hb:w'.heap[b]?=some (Obj.cells #[nm] 9 (0,0))) (h:A<=b)=>Ci (S:=But (fun _=>True) (.slice pa names.length ca)) hb ⟨trivial,fun e=>by have:=(bB b e.symm).2;omega⟩ hnm)
 have bQ:=Qq (fun (w':World) (b:Nat) (hB:Below I I w') (hb:w'.heap[b]?=some (Obj.cells (Qxf v Z V q4 Y) 48 (0,0))) (h:A<=b)=>sl_val1 (S:=But (fun b=>(S b/\b<w)\/A<=b) (.slice pb vals.length cb)) hb ⟨.inr h,fun e=>by have:=(bC b e.symm).2;omega⟩ (eT.out.move (.of_below (aO.out.thn hB)) (fun c _ hc=>⟨.inl hc,fun e=>by have h1:=(bC c e.symm).1;have h2:=hc.2;omega⟩)))
 have dK:∀ b,(fun b=>(S b/\b<w.heap.size)\/A.heap.size<=b) b->some b≠(Value.slice pa names.length ca).ownBlock:=fun b hb e=>by
  have h1:=bB b e.symm
  rcases hb with h | h
  ·have h2:=h.2;omega
  omega
 have bM:=Qq dK
 have dT:(48:TypeId)≠9:=Qxv
 have bE:(9:TypeId)≠48:=Qxv
 have dQ:names.length+[nm].length=names.length+1:=rfl
 have dR:vals.length+[v].length=vals.length+1:=rfl
 obtain ⟨bH,bI,bN,bO,fD⟩:=Qxp dQ dR dT bE hlen
 have bU:names.length+1<=1000000:=Qvu
 have bV:vals.length+1<=1000000:=Qvu
 have bF:=Qq bU;have bG:=Qq bV
 have eN:=Qq (fun (W:World) (nv' vv':Value) (hM1:Mk Zg 9 (fun _=>True) I W nv' (names.length+1) (names++[nm])) (hM2:Mk Zc 48 (fun b=>(S b/\b<w)\/A<=b) I W vv' (vals.length+1) (vals++[v]))=>HE.out (fun c=>(S c/\c<w)\/I<=c) (Qxh ek cW en cX cT cQ cN cU cR cO cV cS cP ea ez) nv' vv' (names++[nm]) (vals++[v]) W (HX.out.move (.of_below (aO.out.thn hM1.below)) (fun _ _ h=>.inl h)) (by
   obtain ⟨css,h1,h2,h3⟩:=hM1
   exact (B7 (S':=fun b=>I<=b) h1 (fun _ _ _=>rfl)).sl (by rw [h2];exact bU) (fun b hb=>.inr hb) (fun b _ hb=>.inr hb)) (by
   obtain ⟨css,h1,h2,h3⟩:=hM2
   exact h1.sl (by rw [h2];exact bV) (fun b hb=>.inr hb) (fun b _ hb=>by
    rcases hb with h | h
    ·exact .inl h
    exact .inr Qvu)) (by rw [Ql,Ql];simp;omega) (by rw [Ql];simp;omega) (by
   intro u hu
   rcases Z4.1 hu with h | h
   ·exact HB.out u h
   simp only [Z3,Z2,or_false] at h
   subst h;exact eM.out))
 clear dC dM bB bC dK dT bE dQ dR bU bV HP e0 e1 e2 e3 e4 e5 e6 e7 e8 v0 v1 v2 v3 v4
 have aY:=Qq (fun (w':World) (h:Below I I w')=>by
  have T:=kB h cF.out
  have aM:=kB h cJ.out
  exact (show ?Lq1 w' from ⟨Qk _ _ 0 _ _ _ T,Qk _ _ 1 _ _ _ T,Qk _ _ 2 _ _ _ T,Qk _ _ 3 _ _ _ T,Qk _ _ 4 _ _ _ T,Qk _ _ 5 _ _ _ T,Qk _ _ 6 _ _ _ T,Qk _ _ 7 _ _ _ T,Qk _ _ 8 _ _ _ T,Qk _ _ 0 _ _ _ aM,Qk _ _ 1 _ _ _ aM,Qk _ _ 2 _ _ _ aM,Qk _ _ 3 _ _ _ aM,Qk _ _ 4 _ _ _ aM⟩))
 go_region_held3 ?Lq1 (first | with_reducible exact eQ.out | with_reducible exact U | with_reducible exact eR.out _ | with_reducible exact cI.out _ _ | with_reducible exact eK.out _ _ U | with_reducible exact eP.out _ _ _ _ _ _ U)
  (first
   | (refine Xt (r:=Zg) Qxv Vq Qxk (.tmp 21) (.tmp 23) 46 Qxk 9 i9 (.string ⟨#[]⟩) 16 underlying46 HS.out aV.out aW.out aX.out rfl Qvu (fun _=>True) I (A.alloc (.cells #[nm] 9)).drew (.slice pa names.length ca) names.length names Qxk (aF.out.grow (Ze A (.cells #[nm] 9)).drew) (.slice (some ⟨A,0,none⟩) 1 1) [nm] Qxk (bP.out _ _ (Qw A _) Qvu) (names.length+1) bH.out bF.out ?_;intro p5 c5 w5 aD D;have U:=aJ.out w5 (((Ze A (.cells #[nm] 9)).mono Qvu).drew.trans D.below);have N:=Wk (aU.out.grow (Ze A (.cells #[nm] 9)).drew) (aF.out.grow (Ze A (.cells #[nm] 9)).drew) bN.out D bM.out;obtain ⟨J,aB,cG⟩:=Qxn N aD D;have bX:A.heap.size<=w5.heap.size:=Qc ((Ze A (.cells #[nm] 9)).size) D.size;clear aD D N)
   | (refine Xt (r:=Zg) Qxv Vq Qxk (.tmp 21) (.tmp 23) 46 Qxk 9 i9 (.string ⟨#[]⟩) 16 underlying46 HS.out aV.out aW.out aX.out rfl Qvu (fun _=>True) I ((A.alloc (.cells #[nm] 9)).alloc (.cells (Qxf v Z V q4 Y) 48)).drew (.slice pa names.length ca) names.length names Qxk (aF.out.grow (Zu A (.cells #[nm] 9) (.cells (Qxf v Z V q4 Y) 48)).drew) (.slice (some ⟨A,0,none⟩) 1 1) [nm] Qxk (bP.out _ _ (Q5 A _ _) Qvu) (names.length+1) bH.out bF.out ?_;intro p5 c5 w5 aD D;have U:=aJ.out w5 (((Zu A (.cells #[nm] 9) (.cells (Qxf v Z V q4 Y) 48)).mono Qvu).drew.trans D.below);have N:=Wk (aU.out.grow (Zu A (.cells #[nm] 9) (.cells (Qxf v Z V q4 Y) 48)).drew) (aF.out.grow (Zu A (.cells #[nm] 9) (.cells (Qxf v Z V q4 Y) 48)).drew) bN.out D bM.out;have bL:=Qq ((D.other (A+1) (by simp;try omega) (fun e=>by have:=(cH.out _ e.symm).2;omega)).trans (Q6 A _ _));obtain ⟨J,aB,cG⟩:=Qxn N aD D;have bX:A.heap.size<=w5.heap.size:=Qc ((Zu A (.cells #[nm] 9) (.cells (Qxf v Z V q4 Y) 48)).size) D.size;clear aD D N)
   | (refine Xt (r:=Zg) Qxv Vq Qxk (.tmp 21) (.tmp 23) 46 Qxk 9 i9 (.string ⟨#[]⟩) 16 underlying46 HS.out aV.out aW.out aX.out rfl Qvu (fun _=>True) I ((A.alloc (.cells (Qxf v Z V q4 Y) 48)).alloc (.cells #[nm] 9)).drew (.slice pa names.length ca) names.length names Qxk (aF.out.grow (Zu A (.cells (Qxf v Z V q4 Y) 48) (.cells #[nm] 9)).drew) (.slice (some ⟨A+1,0,none⟩) 1 1) [nm] Qxk (bP.out _ _ (Q6 A _ _) Qvu) (names.length+1) bH.out bF.out ?_;intro p5 c5 w5 aD D;have U:=aJ.out w5 (((Zu A (.cells (Qxf v Z V q4 Y) 48) (.cells #[nm] 9)).mono Qvu).drew.trans D.below);have N:=Wk (aU.out.grow (Zu A (.cells (Qxf v Z V q4 Y) 48) (.cells #[nm] 9)).drew) (aF.out.grow (Zu A (.cells (Qxf v Z V q4 Y) 48) (.cells #[nm] 9)).drew) bN.out D bM.out;have bL:=Qq ((D.other A (by simp;try omega) (fun e=>by have:=(cH.out _ e.symm).2;omega)).trans (Q5 A _ _));obtain ⟨J,aB,cG⟩:=Qxn N aD D;have bX:A.heap.size<=w5.heap.size:=Qc ((Zu A (.cells (Qxf v Z V q4 Y) 48) (.cells #[nm] 9)).size) D.size;clear aD D N)
   | (refine Xt (r:=Zc) Qxv Xg Qxk (.tmp 25) (.tmp 27) 40 Qxk 48 i0 (.agg zV) 80 underlying40 HJ.out aP.out aQ.out aR.out rfl Qvu (fun b=>(S b/\b<w)\/A<=b) I (w5.alloc (.cells (Qxf v Z V q4 Y) 48)) (.slice pb vals.length cb) vals.length vals Qxk (J.out.grow (Ze w5 (.cells (Qxf v Z V q4 Y) 48))) (.slice (some ⟨w5,0,none⟩) 1 1) [v] Qxk (bQ.out _ _ (aB.out.grow (Ze w5 (.cells (Qxf v Z V q4 Y) 48))).below (Qw _ _) (bX)) (vals.length+1) bI.out bG.out ?_;intro p6 c6 w6 O aC;have M:=T6 (aB.out.grow (Ze w5 (.cells (Qxf v Z V q4 Y) 48))) (J.out.grow (Ze w5 (.cells (Qxf v Z V q4 Y) 48))) bO.out aC;have U:=aY.out w6 O.below;have aI:=Qq O;have aL:=Qq M;clear O aC M)
   | (refine Xt (r:=Zc) Qxv Xg Qxk (.tmp 25) (.tmp 27) 40 Qxk 48 i0 (.agg zV) 80 underlying40 HJ.out aP.out aQ.out aR.out rfl Qvu (fun b=>(S b/\b<w)\/A<=b) I w5 (.slice pb vals.length cb) vals.length vals Qxk (J.out) (.slice (some ⟨A+1,0,none⟩) 1 1) [v] Qxk (bQ.out _ _ (aB.out).below (bL.out) Qvu) (vals.length+1) bI.out bG.out ?_;intro p6 c6 w6 O aC;have M:=T6 (aB.out) (J.out) bO.out aC;have U:=aY.out w6 O.below;have aI:=Qq O;have aL:=Qq M;clear O aC M)
   | (refine Xt (r:=Zc) Qxv Xg Qxk (.tmp 25) (.tmp 27) 40 Qxk 48 i0 (.agg zV) 80 underlying40 HJ.out aP.out aQ.out aR.out rfl Qvu (fun b=>(S b/\b<w)\/A<=b) I w5 (.slice pb vals.length cb) vals.length vals Qxk (J.out) (.slice (some ⟨A,0,none⟩) 1 1) [v] Qxk (bQ.out _ _ (aB.out).below (bL.out) (Q9 _)) (vals.length+1) bI.out bG.out ?_;intro p6 c6 w6 O aC;have M:=T6 (aB.out) (J.out) bO.out aC;have U:=aY.out w6 O.below;have aI:=Qq O;have aL:=Qq M;clear O aC M)
   | (go_at_call 200;refine (eN.out _ _ _ aL.out aI.out).mono ?_;rintro e w7 ⟨k7,n7,s7,eE,eC,eA,eF,eD,eB,b7,rfl,dU,dO⟩;have aG:Below I I w7:=aI.out.below.trans (dO.mono aI.out.below.size);have U:=aY.out w7 aG;have bD:I.heap.size<=w6.heap.size:=aI.out.below.size;have aZ:=kB aG eU.out;obtain ⟨y0,y1,y2,y3,y4⟩:=row5 aZ;obtain ⟨f0,f1,f2,f3,f4⟩:=frz5 aZ;obtain ⟨eV,eS,eL,dJ⟩:=Qxo aZ dU aG bD;clear dU dO aG aZ bD))
 all_goals
  go_wp2_with fail
  show bodyPost _ _ _ _ _ (Zp w7 (w+1+1) k7 n7 (.string s7) (.slice eE eC eA) (.slice eF eD eB))
  refine Q7 (v:=.tuple #[.agg #[k7,n7,.string s7,.slice eE eC eA,.slice eF eD eB],.bool b7]) (by simp [results,results245,go_sem,Zd eV.out]) rfl (Dj Qvu (aO.out.thn eL.out) (eS.out.map fun u h1=>h1.move (.refl _ _) (fun c _ hc=>by
   have hz:=cK.out
   rcases hc with (hc | hc) | hc
   ·exact .inl hc
   ·exact .inr Qvu
   exact .inr (by have:=dJ.out;have h':w6.heap.size<=c:=hc;omega))))
theorem Wn (k:Int) (nm:Bs) (n:Int) (s:Bs) (names binds:List Bs) (kids:List Ex) (a z:Int) (d:Nat) (ih:∀ x ∈ kids,Xi d x) (hN:Mv k nm names binds kids.length) (q0:k≠0) (q1:k≠1) (q2:k≠2) (q3:k≠3) (q11:k≠11) (q12:k≠12) (q13:k≠13) (q14:k≠14):∀ (S:Nat->Prop) (ce:List Value) (nv vv:Value) (ns:List Bs) (vs:List Val) (w:World),Y1 S w ce (.mk k nm n s names binds kids a z)->Sl Zg S w nv ns->Sl Zc S w vv vs->ns.length<=vs.length->vs.length+(d+1)<=1000->(∀ v ∈ vs,Y0 v) ->
  Calls prog 200 #[ce,nv,vv] w (Xy S w (Y5 (d+1) (.mk k nm n s names binds kids a z) ns vs)):=by
 intro S ce nv vv ns vs w D bV bY aT hd hb
 obtain ⟨r,hr⟩:=eX (Y5 (d+1) (.mk k nm n s names binds kids a z) ns vs)
 rw [hr]
 have HR:=Qq hr
 clear hr
 have hx:Y1 (fun b=>S b/\b<w) w ce (.mk k nm n s names binds kids a z):=D.move (.refl _ _) (fun b hb h=>⟨h,hb⟩)
 have hn:=bV.up
 have hv:=bY.up
 obtain ⟨np,nc,rfl,_⟩:=hn.len
 obtain ⟨vp,vc,rfl,fB⟩:=hv.len
 have dL:=Qq hx
 obtain ⟨fE,bv,kv,rfl,eY,fA,aZ,aY,hk⟩:=Yd.1 hx
 obtain ⟨p1,c1,rfl,_⟩:=aZ.len
 obtain ⟨p2,c2,rfl,_⟩:=aY.len
 obtain ⟨p3,c3,rfl,eU⟩:=hk.len
 obtain ⟨HN,HV,cV,eC,eB,HK,HI,bB⟩:=Qxt hn hv hb aZ aY hk ih aT
 clear D bV bY hx hn hv aZ aY hk hb ih aT
 unfold sv at *
 have r0:(k==0)=false:=by rw [<- Qt,beq_iff_eq];exact q0
 have r1:(k==1)=false:=by rw [<- Qt,beq_iff_eq];exact q1
 have r2:(k==2)=false:=by rw [<- Qt,beq_iff_eq];exact q2
 have r3:(k==3)=false:=by rw [<- Qt,beq_iff_eq];exact q3
 have dU:(k==11)=false:=by rw [<- Qt,beq_iff_eq];exact q11
 have dV:(k==12)=false:=by rw [<- Qt,beq_iff_eq];exact q12
 have dW:(k==13)=false:=by rw [<- Qt,beq_iff_eq];exact q13
 have dX:(k==14)=false:=by rw [<- Qt,beq_iff_eq];exact q14
 have bC:=Qq (HR.out.symm.trans (Qve q0 q1 q2 q3 q11 q12 q13 q14))
 clear q0 q1 q2 q3 q11 q12 q13 q14
 obtain ⟨m,hm⟩:=eX (kids.length)
 have eW:m<=1000:=by rw [<- hm];exact hN.few
 have dE:=Qq hN
 rw [hm] at HK |-
 have HM:=Qq hm
 clear hm hN
 obtain ⟨i0,j1,j2,j3,j4⟩:=Y4 (P:=prog) (t:=48) (z:=.agg zV) (n:=5) (b:=80) Qxx
 obtain ⟨HJ,cZ,dA,dB⟩:=Qxo j1 j2 j3 j4
 clear j1 j2 j3 j4
 go_enter func200,ntmps200
 go_upto_region 31 with fail
 generalize aH:(w.alloc _).alloc _=W1
 have bQ:=eqB aH (Zu _ _ _)
 have bN:=eqH (b:=w.heap.size) aH (Q5 _ _ _)
 have aV:=eqH (b:=w.heap.size+1) aH (Q6 _ _ _)
 obtain ⟨cS,dK,dM⟩:=Qxn bQ bN aV
 have eV:=Z8 aV
 clear aH bQ bN aV
 clear r0 r1 r2 r3 dU dV dW dX
 go_loopw [13,14,15,16] (fun o i _ _ wr=>∃ (j:Nat) (l:List Val) (p:Option Addr) (cap:Nat),j<=m/\i=.int .i64 j/\o=.slice p j cap/\l.length=j/\Aside ((∀ v ∈ l,Y0 v)/\G7 (fun x=>Y5 d x ns vs) (kids.take j)=some l)/\Below (w+2) W1 wr /\
  (∃ css,Own Zc 48 (fun c=>(S c/\c<w)\/w+2<=c) (w+2) wr (.slice p j cap) l css)) (fun _ i _ _ _=>m - (intOf i).toNat)
 case atStart=>exact ⟨0,[],none,0,Q8 _,rfl,rfl,rfl,⟨fun v h=>by simp at h,rfl⟩,Qz _ _,[],Own.nil _ _ _ _ _⟩
 obtain ⟨j,l,p,cap,hj,rfl,rfl,bU,bS,J,css,hO⟩:=hrel
 have bO:=kE J Qvu dK.out
 have bP:=kE J Qvu dM.out
 have bT:Below w w wr:=cS.out.trans (J.mono Qvu)
 have eZ:=J.size
 obtain ⟨bF,bH,cW,A,HO,V,N⟩:=Qxs bO bP J bT hO bS.out bU
 clear bO bP J bT hO bS bU
 by_cases hlt2:j<m
 ·have eS:(0:Int)<=(j:Int):=Qvu
  have eT:(j:Int)<(m:Int):=Qvu
  obtain ⟨x0,D⟩:∃ x,kids[j]?=some x:=⟨_,Qx (by rw [HM.out];exact hlt2)⟩
  obtain ⟨fC,fD,eH,eJ,eI,eK,eD,eM,eP,eE,eN,eQ,eF,eO,eR,eG,eL,bW,aS,T,Y,Z,aA,aB,aC,aD,aE,aF,aG⟩:=HK.out.ex D
  subst bW
  have cX:=Qq (fun W (hW:Below w w W)=>HI.out x0 (Qy D) (fun b=>S b/\b<w) _ _ _ ns vs W (T.move (.of_below hW) Qyv) (HN.out.below hW) (HV.out.below hW) bB.out Qvu cV.out)
  obtain ⟨dZ,cY,dD⟩:=Qxn T D (Qy D)
  have cQ:=Qq (Qe aS (Qe Y (Qe Z (Qe aA (Qe aB (Qe aC (Qe aD (Qe aE (Qe aF aG)))))))))
  clear T D aS Y Z aA aB aC aD aE aF aG
  obtain ⟨U,q0,q1,q2,q3,q4,q5,q6,q7,q8⟩:=cQ.out
  have Y:=kD A.out U q0;have Z:=kD A.out U q1;have aA:=kD A.out U q2;have aB:=kD A.out U q3;have aC:=kD A.out U q4;have aD:=kD A.out U q5;have aE:=kD A.out U q6;have aF:=kD A.out U q7;have aG:=kD A.out U q8
  clear U q0 q1 q2 q3 q4 q5 q6 q7 q8
  have c6:=rA6 bF.out
  go_upto_region 34 with (go_at_call 200;refine (cX.out _ A.out).mono ?_;rintro e w5 ⟨k5,n5,s5,aN,aL,aJ,aO,aM,aK,b5,rfl,bZ,bR⟩;have bD:=Qq bZ;have cT:=Qq bR;clear bZ bR)
  clear c6 Y Z aA aB aC aD aE aF aG
  generalize aU:w5.alloc _=W6
  have aW:=eqB aU (Ze _ _)
  have O:=eqH (b:=w5.heap.size) aU (Qw _ _)
  obtain ⟨M,aP,bE⟩:=Qxn (cT.out.thn aW) O aW
  clear aU aW O
  have eA:=M.out.size
  have aQ:=A.out.thn M.out
  have bA:=Qq aQ
  clear aQ
  cases b5 with
  | false=>
   obtain ⟨v0,v1,v2,v3,v4⟩:=row5 aP.out
   have I:=kB M.out bH.out
   obtain ⟨y0,y1,y2,y3,y4⟩:=row5 I
   obtain ⟨f0,f1,f2,f3,f4⟩:=frz5 I
   have bG:=Qq I
   clear I
   go_wp2_with fail
   show bodyPost _ _ _ _ _ (Zp W6 (w+1) k5 n5 (.string s5) (.slice aN aL aJ) (.slice aO aM aK))
   refine Q7 (v:=.tuple #[.agg #[k5,n5,.string s5,.slice aN aL aJ,.slice aO aM aK],.bool false]) (by simp [results,results200,go_sem,Zd bG.out]) rfl (Xs Qvu bA.out (by rw [bC.out,Ns _ x0 (bD.out.2 rfl) kids dD.out];rfl))
  | true=>
   obtain ⟨u,cD,cB,cC⟩:=bD.out.1 rfl
   have cR:Hid (G7 (fun x=>Y5 d x ns vs) (kids.take (j+1))=some (l++[u])):=Qq (by rw [Bv cY.out];exact Ny _ x0 u cC _ l V.out.2)
   clear cC
   have bL:=HO.out.below M.out
   have O:Zc.R (But (fun c=>(S c/\c<w)\/w+2<=c) (.slice p j cap)) W6 [k5,n5,.string s5,.slice aN aL aJ,.slice aO aM aK] u:=Za.move cD (.of_below bE.out) (fun b hb hc=>by
    rcases hc with h | h
    ·exact ⟨.inl h,fun e=>by have:=(HO.out.row.lt b e.symm).1;have:=h.2;omega⟩
    have h':wr.heap.size<=b:=h
    exact ⟨.inr Qvu,fun e=>by have:=(HO.out.row.lt b e.symm).2;omega⟩)
   obtain ⟨dF,dH,dJ⟩:=Qxn bL O cB
   clear bL O cD cB
   obtain ⟨v0,v1,v2,v3,v4⟩:=row5 aP.out
   go_wp2_with (at_builtin;refine Yf (r:=Zc) Qxv rfl (.tmp 160) (.tmp 162) _ rfl 48 i0 (.agg zV) 80 underlying40 HJ.out cZ.out dA.out dB.out rfl Qvu (fun c=>(S c/\c<w)\/w+2<=c) (w+2) W6 (.slice p j cap) l css [k5,n5,.string s5,.slice aN aL aJ,.slice aO aM aK] u rfl dF.out rfl dH.out (by simp [Value.oneCell']) j N.out Qvu Qvu ?_;intro p7 bI bJ w7 bM bK;have dG:=Qq bM;have dC:=Qq bK;clear bM bK)
   go_roundw
   case measure=>simp [intOf];omega
   case rel=>
    refine ⟨j+1,l++[u],p7,bI,Qvu,by go_num,rfl,by have:=N.out;simp [this],(show Aside _ from Qe ?_ cR.out),(cW.out.trans (M.out.mono Qvu)).trans dC.out.below,bJ,dG.out⟩
    intro v hv
    rcases Z4.1 hv with h | h
    ·exact V.out.1 v h
    simp only [Z3,Z2,or_false] at h
    subst h;exact dJ.out
 have dP:j=m:=Qvu
 subst dP
 have hE:=Qq (Te k nm n s names binds kids a z (fun c=>(S c/\c<w)\/w+2<=c) [k,nm,n,s,.slice p1 names.length c1,.slice p2 binds.length c2,.slice p3 j c3,a,z] (.slice p j cap) l wr dE.out (by
  have h:=dL.out.move (S':=(fun c=>(S c/\c<w)\/w+2<=c)) (.of_below A.out) (fun _ _ h=>.inl h)
  rw [HM.out] at h
  exact h) (by rw [N.out,HM.out]) (N.out ▸ HO.out.sl (Qxj N.out) (fun b hb=>.inr hb) (fun b _ h=>h)) V.out.1)
 obtain ⟨c0,c1,c2,c3,c4,c5,c6,c7,c8⟩:=row9 bF.out
 go_wp2_with (go_at_call 248;refine hE.out.mono ?_;rintro e w7 ⟨k7,n7,s7,cI,cG,cE,cJ,cH,cF,b7,rfl,cA,aX⟩;have aI:=kB aX bH.out;obtain ⟨y0,y1,y2,y3,y4⟩:=row5 aI;obtain ⟨f0,f1,f2,f3,f4⟩:=frz5 aI;obtain ⟨dN,dI,cU⟩:=Qxn aI cA aX;clear cA aX aI)
 show bodyPost _ _ _ _ _ (Zp w7 (w+1) k7 n7 (.string s7) (.slice cI cG cE) (.slice cJ cH cF))
 refine Q7 (v:=.tuple #[.agg #[k7,n7,.string s7,.slice cI cG cE,.slice cJ cH cF],.bool b7]) (by simp [results,results200,go_sem,Zd dN.out]) rfl (Xy.of_eq (by
   have h9:=V.out.2
   rw [<- HM.out,List.take_length] at h9
   rw [bC.out,h9];rfl) (Dj Qvu (A.out.thn cU.out) (dI.out.map fun v h1=>h1.move (.refl _ _) (fun c _ hc=>by
   rcases hc with (hc | hc) | hc
   ·exact .inl hc
   ·exact .inr Qvu
   exact .inr (by have h':wr.heap.size<=c:=hc;omega)))))
end Go.Proofs.YtlanplhphiikjaaGreatDoor
