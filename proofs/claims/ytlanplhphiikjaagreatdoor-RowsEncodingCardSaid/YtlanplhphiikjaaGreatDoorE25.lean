import Derived.Test.YtlanplhphiikjaaGreatDoorE21
import Derived.Test.YtlanplhphiikjaaGreatDoorE22
import Derived.Test.YtlanplhphiikjaaGreatDoorE24
set_option maxRecDepth 100000
set_option maxHeartbeats 400000000
namespace Go.Proofs.YtlanplhphiikjaaGreatDoor
open Go.RowKit Go.Shelf Go.Lib Tryz
def Yl (s:Sc) (l:List Rel) (rows:List Val):List Rf->Ft
 | []=>Ft.zero
 | r::rs=>if (Xp 12 (Dw s l r) rows).code=0 then Yl s l rows rs else Xp 12 (Dw s l r) rows
theorem heap4 (w:World) (A B C D:Obj):((((w.alloc A).alloc B).alloc C).alloc D).heap[w.heap.size]?=some A/\((((w.alloc A).alloc B).alloc C).alloc D).heap[w.heap.size+1]?=some B /\
  ((((w.alloc A).alloc B).alloc C).alloc D).heap[w.heap.size+1+1]?=some C/\((((w.alloc A).alloc B).alloc C).alloc D).heap[w.heap.size+1+1+1]?=some D:=by
 have e3:(((w.alloc A).alloc B).alloc C).heap.size=w.heap.size+1+1+1:=Qxz
 have I:=Ze (((w.alloc A).alloc B).alloc C) D
 refine ⟨(I.block _ (by simp;omega)).trans ?_,kE I Qxz (Df _ _ _ _),kE I Qxz (Yz _ _ _ _),by rw [<- e3];exact Qw _ _⟩
 exact ((Ze ((w.alloc A).alloc B) C).block _ (by simp;omega)).trans (Q5 _ _ _)
theorem bal4 (w:World) (A B C D:Obj):Below w w ((((w.alloc A).alloc B).alloc C).alloc D):=(U8 w A B C).alloc (U8 w A B C).size _
theorem Wh (S0 S1 S2 S3:Nat->Prop) (s:Sc) (cs:List Value) (lv:Value) (l:List Rel) (t:Tbl) (ct:List Value) (rv:Value) (rows:List Val) (w:World) (hs0:Vj S0 w cs s) (hl0:Sl Yx S1 w lv l) (ht0:Zl.R S2 w ct t) (hr0:Sl Zc S3 w rv rows) (hkl:∀ t ∈ s.tables,t.key.length<=1000):
  Calls prog 68 #[cs,lv,ct,rv] w (Gx S3 w (Yl s l rows t.refs)):=by
 have ht:Zl.R (fun b=>b<w) w ct t:=Zl.mono ht0 (fun b hb _=>hb)
 have hr:=hr0.up
 obtain ⟨HS,HL,cT,cQ⟩:=Qxo hs0 hl0 hr hkl
 obtain ⟨uv,tv,rfl,hu,bS⟩:=hs0
 obtain ⟨up,uc,rfl,_⟩:=hu.len
 obtain ⟨tp,tc,rfl,_⟩:=bS.len
 obtain ⟨lp,lc,rfl,eS⟩:=hl0.len
 obtain ⟨rp,rc,rfl,_⟩:=hr.len
 obtain ⟨cY,cX,dM,dL,eE,eD,k9,eF,n9,eG,dQ,dN,cU,dR,dO,cV,dS,dP,cW,a9,z9,aA,_,_,_,aJ,_⟩:=Yj ht
 simp only [tcs] at aA
 subst aA
 have hn:t.refs.length<=1000000:=by obtain ⟨_,_,_,h⟩:=aJ.len;exact h
 obtain ⟨n,aI⟩:=eX (t.refs.length)
 obtain ⟨res,aB⟩:=eX (Yl s l rows t.refs)
 have bG:=Qq aB;have HN:=Qq aI
 rw [aB,aI]
 rw [aI] at hn aJ
 have cS:=Qq aJ
 clear hl0 ht ht0 hr hr0 hu bS aJ aB hkl aI
 go_enter func68,ntmps68
 go_upto_region 1 with fail
 generalize aP:(((w.alloc _).alloc _).alloc _).alloc _=w4
 have bM:Below w w w4:=by rw [<- aP];exact bal4 _ _ _ _ _
 obtain ⟨h0,h1,h2,h3⟩:w4.heap[w.heap.size]?=some (.cells #[.slice up s.sums.length uc,.slice tp s.tables.length tc] 27 (0,0))/\w4.heap[w.heap.size+1]?=some (.cells #[.slice lp l.length lc] 29 (0,0))/\w4.heap[w.heap.size+1+1]?=some (.cells #[t.name,.slice cY t.columns.length cX,.slice dM t.key.length dL,.slice eE n eD,k9,.string eF,n9,.string eG,.slice dQ dN cU,.slice dR dO cV,.slice dS dP cW,a9,z9] 61 (0,0)) /\
   w4.heap[w.heap.size+1+1+1]?=some (.cells zF 69 (0,0)):=by rw [<- aP];exact heap4 _ _ _ _ _
 have c3:=rA3 h2
 obtain ⟨H0,H1,H3,cN⟩:=Qxo h0 h1 h3 bM
 clear h0 h1 h2 h3 aP bM
 go_wp2_with fail
 go_loopw [15] (fun i wr=>∃ k:Nat,k<=n/\i=.int .i64 k/\Aside (Yl s l rows (t.refs.drop k)=res)/\Below w4 w4 wr) (fun i _=>n - (intOf i).toNat)
 case atStart=>exact ⟨0,Q8 _,rfl,bG.out,Qz _ _⟩
 obtain ⟨k,eR,rfl,hE,M⟩:=hrel
 have cP:=Qq M
 have bI:=kB M H0.out
 have bJ:=kB M H1.out
 have bK:=kB M H3.out
 obtain ⟨aW,aX,T⟩:=Qxn bI bJ bK
 have aM:=Qq (cN.out.thn M)
 clear M bI bJ bK
 by_cases hlt:k<n
 ·have eP:(0:Int)<=(k:Int):=Qvu
  have eQ:(k:Int)<(n:Int):=Qvu
  have aH:k<t.refs.length:=by rw [HN.out];exact hlt
  obtain ⟨r,hx⟩:∃ r,t.refs[k]?=some r:=⟨_,Qx aH⟩
  have bO:t.refs.drop k=r::t.refs.drop (k+1):=by rw [Qp aH];rw [Qx aH] at hx;cases hx;rfl
  have bL:(if (Xp 12 (Dw s l r) rows).code=0 then Yl s l rows (t.refs.drop (k+1)) else Xp 12 (Dw s l r) rows)=res:=by have:=hE.out;rw [bO] at this;exact this
  obtain ⟨ba,oa,cx,dI,eL,-,-,dJ,aS⟩:=(cS.out.below aM.out).elem hx
  obtain ⟨bN,dF,dK⟩:=dJ
  subst bN
  have d0:=aS 0 _ rfl;have d1:=aS 1 _ rfl
  simp only [show Fw.k=2 from rfl,Nat.add_zero] at d0 d1
  unfold sv at d0 d1
  have V:=Qq bL
  subst dI
  clear hE bL bO aH hx aS dF dK
  go_upto_region 4 with fail
  generalize aQ:wr.alloc _=w5
  have N:=eqB aQ (Ze _ _)
  have h5:=eqH (b:=wr.heap.size) aQ (Qw _ _)
  have g0:=kB N aW.out
  have g1:=kB N aX.out
  have g3:=kB N T.out
  have D:=aM.out.thn N
  have J:=Qq (Px 12 120 #[Qxb wr,Qxb w,Qxb (w+1)] (enters_of func120 Qxx rfl) (fun b=>S3 b/\b<w) (.slice rp rows.length rc) rows (Dw s l r) w5 (cT.out.below D)
   (Qvo wr w.heap.size (w+1) _ S0 S1 s _ _ _ l r rows w5 (Qk _ _ 0 _ _ _ h5) (Qk _ _ 1 _ _ _ h5) (Qk _ _ 0 _ _ _ g0) (Qk _ _ 1 _ _ _ g0) (Qk _ _ 0 _ _ _ g1) (HS.out.below D) (HL.out.below D) cQ.out))
  obtain ⟨f,hf⟩:=eX (Xp 12 (Dw s l r) rows)
  rw [hf] at J V
  obtain ⟨G3,aZ,aK⟩:=Qxn g3 D (cP.out.thn N)
  clear hf aQ N h5 g0 g1 g3 D d0 d1
  go_wp2_with fail
  refine J.out.mono ?_
  rintro e w6 ⟨eK,rfl,bP,aG⟩
  obtain ⟨p3,k3,p4,k4,q3,l3,q4,l4,aA,dG,bR,bQ⟩:=Uu bP
  simp only [fcs] at aA
  subst aA
  have bF:=Qq (kB aG G3.out)
  have bA:=Qq (aZ.out.thn aG);have aL:=Qq (aK.out.thn aG)
  have bD:=Qq bR;have bB:=Qq bQ
  clear bP aG bR bQ
  go_upto_region 5 with fail
  generalize aR:w6.alloc _=w7
  have O:=eqB aR (Ze _ _)
  have h7:=eqH (b:=w6.heap.size) aR (Qw _ _)
  have aO:=Qq (kB O bF.out)
  have cO:=Qq (bA.out.thn O);have aY:=Qq (aL.out.thn O)
  have bE:=Qq (Za.move bD.out (.of_below O) Qyv);have bC:=Qq (Za.move bB.out (.of_below O) Qyv)
  have xx:=fun j=>Qk _ _ j _ _ _ h7
  obtain ⟨cC,x1,x2,x3,x4,x5,x6,x7,x8,x9,eI,eJ⟩:=Qyq xx
  simp only [Qf,Qg,Qh] at cC x1 x2 x3 x4 x5 x6 x7 x8 x9 eI eJ
  clear aR O h7 xx bF bA aL bD bB J G3 aZ aK aW aX T
  by_cases hc:f.code=0
  ·have aN:=Qq (show Yl s l rows (t.refs.drop (k+1))=res by have:=V.out;rw [if_pos hc] at this;exact this)
   rw [hc] at cC
   clear V
   go_wp2_with fail
   go_roundw
   case measure=>simp [intOf];omega
   case rel=>exact ⟨k+1,Qvu,by go_num,aN.out,aY.out⟩
  have aN:=Qq (show f=res by have:=V.out;rw [if_neg hc] at this;exact this)
  have eM:(f.code != 0)=true:=by simpa using hc
  have eN:decide (f.code=0)=false:=by simpa using hc
  have eO:(f.code==0)=false:=by simpa using hc
  clear V
  have fz:=fun j=>Qn _ _ j _ _ aO.out
  have rr:=fun j=>Qk _ _ j _ _ _ aO.out
  obtain ⟨f0,f1,f2,f3,f4,f5,f6,f7,f8,f9,dB,dC⟩:=Qyq fz
  obtain ⟨r0,r1,r2,r3,r4,r5,r6,r7,r8,r9,aT,aU⟩:=Qyq rr
  simp only [Qf,Qg,Qh] at r0 r1 r2 r3 r4 r5 r6 r7 r8 r9 aT aU
  clear fz rr
  go_wp2_with fail
  obtain ⟨W,Z⟩:=eX (Y9 w7 (w+1+1+1) f.code f.table f.row.kind f.row.n f.row.s (.slice p3 f.row.names.length k3) (.slice p4 f.row.kids.length k4) f.other.kind f.other.n f.other.s (.slice q3 f.other.names.length l3) (.slice q4 f.other.kids.length l4))
  have q:∀ j,W.cell? ⟨w+1+1+1,j,none⟩=#[.int .i64 f.code,.string ⟨f.table.toArray⟩,.int .i64 f.row.kind,.int .i64 f.row.n,.string ⟨f.row.s.toArray⟩,.slice p3 f.row.names.length k3,.slice p4 f.row.kids.length k4,.int .i64 f.other.kind,.int .i64 f.other.n,.string ⟨f.other.s.toArray⟩,.slice q3 f.other.names.length l3,.slice q4 f.other.kids.length l4][j]?:=fun j=>by rw [<- Z];exact Ya aO.out j
  have I:∀ b,b≠w.heap.size+1+1+1->W.heap[b]?=w7.heap[b]?:=fun b hb=>by rw [<- Z];exact Xz hb
  have A:Below w w W:=by rw [<- Z];exact Yv cO.out Qvu
  show bodyPost _ _ _ _ _ (Y9 w7 (w+1+1+1) f.code f.table f.row.kind f.row.n f.row.s (.slice p3 f.row.names.length k3) (.slice p4 f.row.kids.length k4) f.other.kind f.other.n f.other.s (.slice q3 f.other.names.length l3) (.slice q4 f.other.kids.length l4))
  rw [Z]
  have U:=Qq A;have Y:=Qq I
  obtain ⟨q0,q1,q2,aE,aF,q5,q6,q7,q8,q9,aC,aD⟩:=Qyq q
  simp only [Qf,Qg,Qh] at q0 q1 q2 aE aF q5 q6 q7 q8 q9 aC aD
  clear Z A q I
  refine Q7 (v:=.agg (Qxi f.code f.table f.row p3 k3 p4 k4 f.other q3 l3 q4 l4)) (by simp [results,results68,go_sem,q0,q1,q2,aE,aF,q5,q6,q7,q8,q9,aC,aD]) rfl ⟨_,rfl,?_,U.out⟩
  rw [<- aN.out]
  exact ⟨_,_,rfl,dG,Za.move bE.out (fun b hb _=>Y.out b (by have:b<w.heap.size:=hb.2;omega)) (fun _ _ h=>h.1),Za.move bC.out (fun b hb _=>Y.out b (by have:b<w.heap.size:=hb.2;omega)) (fun _ _ h=>h.1)⟩
 have hr0:res=Ft.zero:=by
  have:=hE.out
  rw [Qu (by rw [HN.out];omega)] at this
  exact this.symm
 have hd:decide ((k:Int)<(n:Int))=false:=by simpa using hlt
 have cR:=Qq hr0
 have fz:=fun j=>Qn _ _ j _ _ T.out
 have rr:=fun j=>Qk _ _ j _ _ _ T.out
 obtain ⟨f0,f1,f2,f3,f4,f5,f6,f7,f8,f9,dB,dC⟩:=Qyq fz
 obtain ⟨r0,r1,r2,r3,r4,r5,r6,r7,r8,r9,aT,aU⟩:=Qyq rr
 simp only [Qf,Qg,Qh] at r0 r1 r2 r3 r4 r5 r6 r7 r8 r9 aT aU
 clear fz rr hE hr0
 go_wp2_with fail
 obtain ⟨W,Z⟩:=eX (Y9 wr (w+1+1+1) Qxc Qxd Qxc Qxc Qxd Qxe Qxe Qxc Qxc Qxd Qxe Qxe)
 have q:∀ j,W.cell? ⟨w+1+1+1,j,none⟩=zF[j]?:=fun j=>by rw [<- Z];exact Ya T.out j
 have I:∀ b,b≠w.heap.size+1+1+1->W.heap[b]?=wr.heap[b]?:=fun b hb=>by rw [<- Z];exact Xz hb
 have A:Below w w W:=by rw [<- Z];exact Yv aM.out Qvu
 show bodyPost _ _ _ _ _ (Y9 wr (w+1+1+1) Qxc Qxd Qxc Qxc Qxd Qxe Qxe Qxc Qxc Qxd Qxe Qxe)
 rw [Z]
 have U:=Qq A;have Y:=Qq I
 obtain ⟨q0,q1,q2,aE,aF,q5,q6,q7,q8,q9,aC,aD⟩:=Qyq q
 simp only [Qf,Qg,Qh] at q0 q1 q2 aE aF q5 q6 q7 q8 q9 aC aD
 clear Z A q I
 refine Q7 (v:=.agg zF) (by simp [results,results68,go_sem,q0,q1,q2,aE,aF,q5,q6,q7,q8,q9,aC,aD]) rfl ⟨[Qxc,Qxd,Qxc,Qxc,Qxd,Qxe,Qxe,Qxc,Qxc,Qxd,Qxe,Qxe],rfl,?_,U.out⟩
 rw [cR.out]
 exact Ks _ _
def Ty.kind:Ty->Int | .mk k _ _ _ _=>k
def Ty.name:Ty->Bs | .mk _ s _ _ _=>s
def Dm (t:Ty):Prop:=t.kind=0\/t.kind=1\/t.kind=2
def M1 (u:Sm) (v:Val):Bool:=match atP (fun c=>decide (c.name=v.s)) u.ctors with
 | none=>false
 | some c=>if c.has then (match v.kids with
  | [x]=>x.kind==c.arg.kind
  | _=>false) else decide (v.kids.length=0)
def sumB (us:List Sm) (v:Val) (nm:Bs):Bool:=(v.kind==3)&&(match atP (fun u=>decide (u.name=nm)) us with
 | none=>false
 | some u=>M1 u v)
theorem Ow (us:List Sm) (v:Val) (t:Ty) (h:Dm t):Do us v t (v.kind==t.kind):=by
 obtain ⟨k,s,n,names,kids⟩:=t
 exact rhasLeaf us v k h s n names kids
theorem Gr.drn {a b:World} (h:Gr a b) (n:Nat):Gr a (b.drewN n):=h.thn ⟨n,#[],by rw [Sort.grow_empty]⟩
def RMadeAt (us:List Sm) (u:Sm) (v:Val) (b:Bool):Prop:=∀ (S S' S'':Nat->Prop) (cu cv:List Value) (uv:Value) (w:World),Sl Ka S'' w uv us->Ka.R S' w cu u->Za S w cv v ->
 Calls prog 242 #[uv,cu,cv] w fun e w'=>e=.returned (.bool b)/\Gr w w'
theorem Qqy (us:List Sm) (u:Sm) (v:Val) (hl:∀ c ∈ u.ctors,Dm c.arg):RMadeAt us u v (M1 u v):=by
 intro S S' cG cu cv uv w hu cC hv
 obtain ⟨up,uc,rfl,_⟩:=hu.len
 obtain ⟨cI,rfl,cM,aA⟩:=cC
 obtain ⟨cp,cc,rfl,bW⟩:=aA.len
 obtain ⟨p3,k3,p4,k4,bB,_,aD,cN⟩:=Za.cells hv
 simp only [vcs] at bB
 subst bB
 have mixed:prog.follows .mixedOrders=true:=Qxx
 obtain ⟨n,hn⟩:=eX (u.ctors.length)
 rw [hn] at aA bW |-
 obtain ⟨r,hr⟩:=eX (M1 u v)
 rw [hr]
 obtain ⟨HR,HN,HU,HC,HV,HL⟩:=Qxr hr hn hu aA aD hl
 clear hu hv aA aD hl hr hn
 unfold sv
 go_enter func242,ntmps242
 go_wp2_with fail
 generalize Z:(w.alloc _).alloc _=W1
 have bC:Gr w W1:=by rw [<- Z];exact Vs _ _ _
 have aW:=eqH (b:=w.heap.size) Z (Q5 _ _ _)
 have aM:=eqH (b:=w.heap.size+1) Z (Q6 _ _ _)
 obtain ⟨T,bJ,bN⟩:=Qxn bC aW aM
 have bY:=Z8 aM
 clear Z bC aW aM
 go_loopw [7] (fun i wr=>∃ k:Nat,k<=n/\i=.int .i64 k/\Aside (∀ (j:Nat) (y:Ct),j<k->u.ctors[j]?=some y->decide (y.name=v.s)=false)/\Aside (Gr W1 wr)) (fun i _=>n - (intOf i).toNat)
 case atStart=>exact ⟨0,Q8 _,rfl,fun j _ hj=>absurd hj (Z6 _),Gr.refl _⟩
 obtain ⟨k,hk,rfl,A,aV⟩:=hrel
 have I:=Qq (show Gr W1 wr from aV)
 have aQ:=Qq (T.out.thn I.out).bl
 have aL:=kB I.out.bl bJ.out
 have aX:=kE I.out.bl bY bN.out
 have cF:=Qq aL;have aK:=Qq aX
 obtain ⟨a0,a1⟩:=row2 aL
 clear aV aL aX
 by_cases hlt2:k<n
 ·have cK:(0:Int)<=(k:Int):=Qvu
  have cL:(k:Int)<(n:Int):=Qvu
  obtain ⟨c,hc⟩:∃ c,u.ctors[k]?=some c:=⟨_,Qx (by rw [HN.out];exact hlt2)⟩
  obtain ⟨cb,cE,cH,rfl,N,_,_,⟨tc,rfl,cJ,V⟩,M⟩:=(HC.out.below aQ.out).elem hc
  obtain ⟨tk,ts,tn,t3,n3,l3,t4,n4,l4,rfl⟩:=V.cells
  have d0:=M 0 _ rfl;have d1:=M 1 _ rfl;have d2:=M 2 _ rfl;have d3:=M 3 _ rfl;have d4:=M 4 _ rfl;have d5:=M 5 _ rfl;have d6:=M 6 _ rfl
  rw [show Mp.k=7 from rfl] at d0 d1 d2 d3 d4 d5 d6
  rw [Nat.add_zero] at d0
  unfold sv at d0
  have b2:=rA2 aK.out;have b4:=rA4 aK.out
  obtain ⟨bL,bI,aR⟩:=Qxn V (HL.out c (Qy hc)) hc
  clear hc M V
  by_cases he:c.name=v.s
  ·have hq:(c.name != v.s)=false:=by rw [he];simp
   have cA:(c.name==v.s)=true:=by rw [he];simp
   have J:atP (fun c=>decide (c.name=v.s)) u.ctors=some c:=Of aR.out (by simpa using he) A.out
   have D:(if c.has then (match v.kids with
    | [x]=>x.kind==c.arg.kind
    | _=>false) else decide (v.kids.length=0))=r:=by rw [<- HR.out];unfold M1;rw [J]
   have aS:=Qq D
   clear J D A he
   go_upto_region 4 with fail
   go_quiet (fail)
   obtain ⟨wq,O⟩:=eX (wr.drewN nq)
   have aB:Gr wr wq:=by rw [<- O];exact (Gr.refl _).drn _
   rw [O]
   have U:=Qq aB
   have hh:∀ {b j:Nat} {x:Value},wr.cell? ⟨b,j,none⟩=some x->wq.cell? ⟨b,j,none⟩=some x:=fun hx=>kC aB.bl hx
   have a1:=hh a1;have b4:=hh b4;have d1:=hh d1;have d2:=hh d2;have d3:=hh d3;have d4:=hh d4;have d5:=hh d5;have d6:=hh d6
   have N:=Qa N aB.bl.size
   clear hh O aB hq a0 d0 b2
   cases hhas:c.has with
   | false=>
    rw [hhas] at d1
    have D:=aS.out
    rw [hhas] at D
    simp only [Bool.false_eq_true,if_false] at D
    by_cases h0:v.kids.length=0
    ·obtain rfl:true=r:=by rw [<- D];simp [h0]
     have aN:((v.kids.length:Int)==0)=true:=by rw [beq_iff_eq];omega
     clear D h0 d2 d3 d4 d5 d6
     go_wp2_with fail
     go_ret
     exact ⟨rfl,(T.out.thn I.out).thn U.out⟩
    obtain rfl:false=r:=by rw [<- D];simp [h0]
    have aN:((v.kids.length:Int)==0)=false:=by rw [<- Qt,beq_iff_eq];omega
    clear D h0 d2 d3 d4 d5 d6
    go_wp2_with fail
    go_ret
    exact ⟨rfl,(T.out.thn I.out).thn U.out⟩
   | true=>
    rw [hhas] at d1
    have D:=aS.out
    rw [hhas] at D
    simp only [if_true] at D
    by_cases h1:v.kids.length=1
    ·obtain ⟨x,hx⟩:=List.length_eq_one_iff.1 h1
     rw [hx] at D
     have bF:v.kids[0]?=some x:=by rw [hx];rfl
     have O:Below w w wq:=aQ.out.thn U.out.bl
     rw [h1] at HV aK b4
     obtain ⟨ga,oa,x3,m3,x4,m4,rfl,Y,bD,e0,e1,e2,e3,e4⟩:=(HV.out.below O).val bF
     simp only [Nat.zero_mul,Nat.add_zero] at e0 e1 e2 e3 e4
     have hX:=Ow us x c.arg bI.out
     have aJ:(x.kind==c.arg.kind)=r:=D
     rw [aJ] at hX
     obtain ⟨HX,bM,bO,bK⟩:=Qxo hX (HU.out.below O) bD (bL.out.move (.of_below U.out.bl) Qyv)
     have bA:∀ n os,Calls prog 198 #[.slice up us.length uc,.agg (vcs x x3 m3 x4 m4).toArray,.agg #[tk,.string ts,tn,.slice t3 n3 l3,.slice t4 n4 l4]] (Sort.grow (wq.drewN n) os) fun e w'=>e=.returned (.bool r)/\Gr (Sort.grow (wq.drewN n) os) w':=fun n os=>HX.out _ _ _ _ _ _ _ (bM.out.below (Y7 _ _ _).bl) (bO.out.move (.of_below (Y7 _ _ _).bl) Qyv) (bK.out.move (.of_below (Y7 _ _ _).bl) Qyv)
     unfold vcs at bA
     have aY:w.heap.size<wq.heap.size:=Qv _ _ a1
     have aZ:w.heap.size+1<wq.heap.size:=Qv _ _ b4
     have E0:=Zm Y e0;have E1:=Zm Y e1;have E2:=Zm Y e2;have E3:=Zm Y e3;have E4:=Zm Y e4
     have D2:=Zm N d2;have D3:=Zm N d3;have D4:=Zm N d4;have D5:=Zm N d5;have D6:=Zm N d6
     have A1:=Zm aY a1;have B4:=Zm aZ b4
     have aN:((1:Int)==1)=true:=rfl
     clear D aJ h1 hx bF bD hX d2 d3 d4 d5 d6 e0 e1 e2 e3 e4 O
     go_wp2_with fail
     go_quiet_grown (first | (go_at_call 198;refine Calls.grown_of (bA _ _)))
     go_wp2_with fail
     go_ret
     exact ⟨rfl,((T.out.thn I.out).thn U.out).thn (Y7 _ _ _)⟩
    obtain rfl:false=r:=by
     rw [<- D]
     match aD:v.kids with
     | []=>rfl
     | [x]=>rw [aD] at h1;simp at h1
     | _::_::_=>rfl
    have aN:((v.kids.length:Int)==1)=false:=by rw [<- Qt,beq_iff_eq];omega
    clear D h1 d2 d3 d4 d5 d6
    go_wp2_with fail
    go_quiet (fail)
    go_wp2_with fail
    go_ret
    exact ⟨rfl,((T.out.thn I.out).thn U.out).drn _⟩
  have hq:(c.name != v.s)=true:=by rw [bne_iff_ne];exact he
  have cA:(c.name==v.s)=false:=by rw [<- Qt,beq_iff_eq];exact he
  have HE:=Qq he
  clear he
  go_upto_region 4 with fail
  go_quiet (fail)
  go_wp2_with fail
  go_roundw
  case measure=>simp [intOf];omega
  case rel=>
   refine ⟨k+1,Qvu,by go_num,(show Aside _ from fun j y hj hy=>?_),I.out.drn _⟩
   by_cases e:j=k
   ·subst e
    have:=aR.out
    rw [this] at hy
    cases hy
    simpa using HE.out
   exact A.out j y Qvu hy
 have bX:k=n:=Qvu
 subst bX
 have J:atP (fun c=>decide (c.name=v.s)) u.ctors=none:=La (fun j y hy=>A.out j y (by have:=(Qj hy).1;have:=HN.out;omega) hy)
 obtain rfl:false=r:=by rw [<- HR.out];unfold M1;rw [J]
 clear J A
 go_wp2_with fail
 go_ret
 exact ⟨rfl,T.out.thn I.out⟩
theorem rhasSum (us:List Sm) (v:Val) (s:Bs) (tn:Int) (names:List Bs) (kids:List Ty) (hl:∀ u ∈ us,∀ c ∈ u.ctors,Dm c.arg):Do us v (.mk 3 s tn names kids) (sumB us v s):=by
 intro S S' bD cv ct uv w V hv ht
 obtain ⟨up,uc,rfl,bN⟩:=V.len
 obtain ⟨p3,k3,p4,k4,aN,bQ,bP,bW⟩:=Za.cells hv
 have bC:=Qq hv
 simp only [vcs] at aN
 subst aN
 obtain ⟨q3,l3,q4,l4,rfl,_⟩:=ht.cells'
 have mixed:prog.follows .mixedOrders=true:=Qxx
 obtain ⟨r,hr⟩:=eX (sumB us v s)
 rw [hr]
 obtain ⟨n,hn⟩:=eX (us.length)
 rw [hn] at V bN |-
 obtain ⟨HR,HN,HU,HL⟩:=Qxo hr hn V hl
 clear V hv ht bQ bP hl hr hn
 by_cases h3:v.kind=3
 ·have hq:(v.kind != 3)=false:=by rw [h3];rfl
  have aR:(match atP (fun u=>decide (u.name=s)) us with
   | none=>false
   | some u=>M1 u v)=r:=by rw [<- HR.out];unfold sumB;rw [h3];rfl
  have aH:=Qq aR
  clear h3 aR
  go_enter func198,ntmps198
  go_wp2_with fail
  clear hq
  generalize T:(w.alloc _).alloc _=W1
  have aO:Gr w W1:=by rw [<- T];exact Vs _ _ _
  have aM:=eqH (b:=w.heap.size) T (Q5 _ _ _)
  have aB:=eqH (b:=w.heap.size+1) T (Q6 _ _ _)
  obtain ⟨N,aZ,bB⟩:=Qxn aO aB aM
  have bI:=Z8 aB
  clear T aO aB aM
  go_loopw [9] (fun i wr=>∃ k:Nat,k<=n/\i=.int .i64 k/\Aside (∀ (j:Nat) (y:Sm),j<k->us[j]?=some y->decide (y.name=s)=false)/\Aside (Gr W1 wr)) (fun i _=>n - (intOf i).toNat)
  case atStart=>exact ⟨0,Q8 _,rfl,fun j _ hj=>absurd hj (Z6 _),Gr.refl _⟩
  obtain ⟨k,hk,rfl,A,aK⟩:=hrel
  have J:=Qq (show Gr W1 wr from aK)
  have aW:=Qq (N.out.thn J.out).bl
  have aL:=kE J.out.bl bI aZ.out
  have M:=kB J.out.bl bB.out
  have b1:=Qk _ _ 1 _ _ _ aL;have a0:=rA0 M;have a1:=rA1 M;have a2:=rA2 M;have a3:=rA3 M;have a4:=rA4 M
  simp only [Qf,Qg,Qh] at b1
  clear aK aL M
  by_cases hlt2:k<n
  ·have bU:(0:Int)<=(k:Int):=Qvu
   have bV:(k:Int)<(n:Int):=Qvu
   obtain ⟨u,V⟩:∃ u,us[k]?=some u:=⟨_,Qx (by rw [HN.out];exact hlt2)⟩
   have aC:=HU.out.below aW.out
   have bA:=Qq aC
   obtain ⟨ub,aU,bX,rfl,Y,_,_,bM,aD⟩:=aC.elem V
   obtain ⟨bS,aT,bK,aE⟩:=bM
   subst aT
   obtain ⟨cp,cc,rfl,bT⟩:=aE.len
   have d0:=aD 0 _ rfl;have d1:=aD 1 _ rfl
   rw [show Ka.k=2 from rfl] at d0 d1
   rw [Nat.add_zero] at d0
   unfold sv at d0
   obtain ⟨aY,aX,aI⟩:=Qxn (show Ka.R bD wr [sv u.name,.slice cp u.ctors.length cc] u from ⟨_,rfl,bK,aE⟩) (HL.out u (Qy V)) V
   clear V aD aE aC
   by_cases he:u.name=s
   ·have hq:(u.name==s)=true:=by rw [he];simp
    have D:atP (fun u=>decide (u.name=s)) us=some u:=Of aI.out (by simpa using he) A.out
    have aS:M1 u v=r:=by rw [<- aH.out,D]
    have hM:=Qqy us u v aX.out
    rw [aS] at hM
    have HM:=Qq hM
    clear D aS A he hM
    go_upto_region 30 with fail
    go_quiet (fail)
    obtain ⟨wq,aF⟩:=eX (wr.drewN nq)
    have U:Gr wr wq:=by rw [<- aF];exact (Gr.refl _).drn _
    rw [aF]
    have O:=Qq U
    have Z:∀ {b j:Nat} {x:Value},wr.cell? ⟨b,j,none⟩=some x->wq.cell? ⟨b,j,none⟩=some x:=fun hx=>kC U.bl hx
    have d0:=Z d0;have d1:=Z d1;have a0:=Z a0;have a1:=Z a1;have a2:=Z a2;have a3:=Z a3;have a4:=Z a4
    have Y:=Qa Y U.bl.size
    have I:w.heap.size<wq.heap.size:=Qv _ _ a0
    have D0:=Zm Y d0;have D1:=Zm Y d1
    have A0:=Zm I a0;have A1:=Zm I a1;have A2:=Zm I a2;have A3:=Zm I a3;have A4:=Zm I a4
    have bG:∀ n' os,Calls prog 242 #[Qxa ub aU n uc,.agg #[u.name,.slice cp u.ctors.length cc],.agg (Qxf v p3 k3 p4 k4)] (Sort.grow (wq.drewN n') os) fun e w'=>e=.returned (.bool r)/\Gr (Sort.grow (wq.drewN n') os) w':=fun n' os=>HM.out _ _ _ _ _ _ _ (bA.out.below (O.out.thn (Y7 _ _ _)).bl) (Ka.frame aY.out (.of_below (O.out.thn (Y7 _ _ _)).bl)) (bC.out.move (.of_below ((N.out.thn (J.out.thn O.out)).thn (Y7 _ _ _)).bl) Qyv)
    clear Z aF U hq a0 a1 a2 a3 a4 d0 d1 b1
    go_wp2_with fail
    go_quiet_grown (first | (go_at_call 242;refine Calls.grown_of (bG _ _)))
    go_wp2_with fail
    go_ret
    exact ⟨rfl,((N.out.thn J.out).thn O.out).thn (Y7 _ _ _)⟩
   have hq:(u.name==s)=false:=by rw [<- Qt,beq_iff_eq];exact he
   have HE:=Qq he
   clear he
   go_upto_region 30 with fail
   go_quiet (fail)
   go_wp2_with fail
   go_roundw
   case measure=>simp [intOf];omega
   case rel=>
    refine ⟨k+1,Qvu,by go_num,(show Aside _ from fun j y hj hy=>?_),J.out.drn _⟩
    by_cases e:j=k
    ·subst e
     have:=aI.out
     rw [this] at hy
     cases hy
     simpa using HE.out
    exact A.out j y Qvu hy
  have bH:k=n:=Qvu
  subst bH
  have D:atP (fun u=>decide (u.name=s)) us=none:=La (fun j y hy=>A.out j y (by have:=(Qj hy).1;have:=HN.out;omega) hy)
  obtain rfl:false=r:=by rw [<- aH.out,D]
  clear D A
  go_wp2_with fail
  go_ret
  exact ⟨rfl,N.out.thn J.out⟩
 have hq:(v.kind != 3)=true:=by simpa using h3
 have aQ:(v.kind==3)=false:=by simpa using h3
 obtain rfl:false=r:=by rw [<- HR.out];unfold sumB;rw [aQ];rfl
 clear aQ h3
 go_enter func198,ntmps198
 go_wp2_with fail
 go_ret
 exact ⟨rfl,Vs _ _ _⟩
def Jb (us:List Sm):Prop:=∀ u ∈ us,∀ c ∈ u.ctors,Dm c.arg/\Bq c.name
structure Kq (M:Nat) (v:Val):Prop where
 good:X6 v
 small:(Y6 v).length<=M
theorem Kq.mono {M N:Nat} {v:Val} (h:Kq M v) (hM:M<=N):Kq N v:=⟨h.good,Qc h.small hM⟩
theorem Qva {k n:Int} {s:Bs} (hk:I64 k) (hn:I64 n) (h:k=0\/k=1\/k=2) (hs:s.length<=2):(Y6 (.mk k n s [] [])).length<=22:=by
 have h1:=Jp hk.1 hk.2
 have h2:=Jp hn.1 hn.2
 have h3:(wT s).length<=12:=by
  unfold wT;rw [Ql]
  have:=Kw (n:=s.length) Qvu
  omega
 rw [Y6,Yt,List.append_nil]
 simp only [Ql]
 rcases h with rfl | rfl | rfl
 ·rw [if_pos (.inl rfl)];omega
 ·rw [if_neg Qxv,if_pos rfl];omega
 rw [if_pos (.inr rfl)];omega
def Jl (M:Nat) (w:World) (e:Ending) (w':World):Prop:=∃ v p3 k3 p4 k4,e=.returned (.agg (vcs v p3 k3 p4 k4).toArray)/\Kq M v/\v.kids.length<=1/\Za (fun b=>w<=b) w' (vcs v p3 k3 p4 k4) v/\Below w w w'
theorem Kx {w w':World} {k n:Int} {s:Bs} (hg:X6 (.mk k n s [] [])) (hk:k=0\/k=1\/k=2) (hn:I64 n) (hs:s.length<=2) (hb:Below w w w'):Jl 22 w (.returned (.agg #[k,n,s,Qxe,Qxe])) w':=
 ⟨.mk k n s [] [],none,0,none,0,rfl,⟨hg,Qva (by rcases hk with rfl | rfl | rfl <;> exact ⟨Qvu,Qvu⟩) hn hk hs⟩,Q8 _,Yi (show s.length<=1000000 by omega) (Sl.nil _ _ _) (Sl.nil _ _ _),hb⟩
theorem Gs (n:Int) (m:Int) (hn:0<=n) (hm:0<m):0<=n.tmod m/\n.tmod m<m:=by
 rw [Int.tmod_eq_emod_of_nonneg hn];exact ⟨Int.emod_nonneg _ Qvu,Int.emod_lt_of_pos _ hm⟩
theorem Tr (s:Sc) (nm:Bs) (tn:Int) (names:List Bs) (kids:List Ty) (n:Int) (hn0:0<=n) (S0 S1:Nat->Prop) (cs ct:List Value) (w:World) (hs:Vj S0 w cs s) (ht:Xc S1 w ct (.mk 0 nm tn names kids)):
  Calls prog 78 #[cs,ct,n] w (Jl 22 w):=by
 obtain ⟨uv,tv,rfl,hu,T⟩:=hs
 obtain ⟨up,uc,rfl,_⟩:=hu.len
 obtain ⟨tp,tc,rfl,_⟩:=T.len
 obtain ⟨q3,l3,q4,l4,rfl,_⟩:=ht.cells'
 obtain ⟨m8,Y⟩:=eX (n.tmod 8)
 have O:=Gs n 8 hn0 Qvu
 rw [Y] at O
 obtain ⟨Z,aA⟩:=O
 clear hu T ht
 go_enter func78,ntmps78
 go_upto_region 4 with fail
 generalize A:(((w.alloc _).alloc _).alloc _).alloc _=W1
 have N:=eqB A (Zs (Zs (Zs (Ze w _) _) _) _)
 have J:=eqH (b:=w.heap.size) A (Zb (Zb (Zb (Y3 rfl _) _) _) _)
 have M:=eqH (b:=w.heap.size+1) A (Zb (Zb (Y3 Qxz _) _) _)
 have D:=eqH (b:=w.heap.size+1+1) A (Zb (Y3 Qxz _) _)
 have I:=eqH (b:=w.heap.size+1+1+1) A (Y3 Qxz _)
 obtain ⟨U,aC,aD,V,aB⟩:=Qxp N J M D I
 clear A N J M I
 obtain ⟨y0,y1,y2,y3,y4⟩:=row5 D
 obtain ⟨f0,f1,f2,f3,f4⟩:=frz5 D
 clear D
 go_wp2_with fail
 show bodyPost _ _ _ _ _ (Zp W1 (w+1+1) Qxc (.int .i64 (m8 - 2)) Qxd Qxe Qxe)
 exact Q7 (v:=.agg #[Qxc,.int .i64 (m8 - 2),Qxd,Qxe,Qxe]) (by simp [results,results78,go_sem,Zd V.out]) rfl (Kx (s:=[]) (.int _ ⟨Qvu,Qvu⟩) (.inl rfl) ⟨Qvu,Qvu⟩ Qxz (Zf U.out Qvu))
theorem R4 (s:Sc) (nm:Bs) (tn:Int) (names:List Bs) (kids:List Ty) (n:Int) (hn0:0<=n) (S0 S1:Nat->Prop) (cs ct:List Value) (w:World) (hs:Vj S0 w cs s) (ht:Xc S1 w ct (.mk 2 nm tn names kids)):
  Calls prog 78 #[cs,ct,n] w (Jl 22 w):=by
 obtain ⟨uv,tv,rfl,hu,T⟩:=hs
 obtain ⟨up,uc,rfl,_⟩:=hu.len
 obtain ⟨tp,tc,rfl,_⟩:=T.len
 obtain ⟨q3,l3,q4,l4,rfl,_⟩:=ht.cells'
 obtain ⟨m8,Y⟩:=eX (n.tmod 2)
 have O:=Gs n 2 hn0 Qvu
 rw [Y] at O
 obtain ⟨Z,aA⟩:=O
 clear hu T ht
 go_enter func78,ntmps78
 go_upto_region 8 with fail
 generalize A:(((w.alloc _).alloc _).alloc _).alloc _=W1
 have N:=eqB A (Zs (Zs (Zs (Ze w _) _) _) _)
 have J:=eqH (b:=w.heap.size) A (Zb (Zb (Zb (Y3 rfl _) _) _) _)
 have M:=eqH (b:=w.heap.size+1) A (Zb (Zb (Y3 Qxz _) _) _)
 have D:=eqH (b:=w.heap.size+1+1) A (Zb (Y3 Qxz _) _)
 have I:=eqH (b:=w.heap.size+1+1+1) A (Y3 Qxz _)
 obtain ⟨U,aC,aD,V,aB⟩:=Qxp N J M D I
 clear A N J M I
 obtain ⟨y0,y1,y2,y3,y4⟩:=row5 D
 obtain ⟨f0,f1,f2,f3,f4⟩:=frz5 D
 clear D
 go_wp2_with fail
 show bodyPost _ _ _ _ _ (Zp W1 (w+1+1) (.int .i64 2) m8 Qxd Qxe Qxe)
 exact Q7 (v:=.agg #[.int .i64 2,m8,Qxd,Qxe,Qxe]) (by simp [results,results78,go_sem,Zd V.out]) rfl (Kx (s:=[]) (.bool _ Qvu) (.inr (.inr rfl)) ⟨Qvu,Qvu⟩ Qxz (Zf U.out Qvu))
theorem Tj (s:Sc) (nm:Bs) (tn:Int) (names:List Bs) (kids:List Ty) (n:Int) (hn0:0<=n) (S0 S1:Nat->Prop) (cs ct:List Value) (w:World) (hs:Vj S0 w cs s) (ht:Xc S1 w ct (.mk 1 nm tn names kids)):
  Calls prog 78 #[cs,ct,n] w (Jl 22 w):=by
 obtain ⟨uv,tv,rfl,hu,T⟩:=hs
 obtain ⟨up,uc,rfl,_⟩:=hu.len
 obtain ⟨tp,tc,rfl,_⟩:=T.len
 obtain ⟨q3,l3,q4,l4,rfl,_⟩:=ht.cells'
 obtain ⟨m8,Y⟩:=eX (n.tmod 5)
 have O:=Gs n 5 hn0 Qvu
 rw [Y] at O
 obtain ⟨aA,aB⟩:=O
 clear hu T ht
 go_enter func78,ntmps78
 go_upto_region 6 with fail
 generalize A:(((w.alloc _).alloc _).alloc _).alloc _=W1
 have N:=eqB A (Zs (Zs (Zs (Ze w _) _) _) _)
 have J:=eqH (b:=w.heap.size) A (Zb (Zb (Zb (Y3 rfl _) _) _) _)
 have M:=eqH (b:=w.heap.size+1) A (Zb (Zb (Y3 Qxz _) _) _)
 have D:=eqH (b:=w.heap.size+1+1) A (Zb (Y3 Qxz _) _)
 have I:=eqH (b:=w.heap.size+1+1+1) A (Y3 Qxz _)
 obtain ⟨U,aD,aE,V,aC⟩:=Qxp N J M D I
 clear A N J M
 obtain ⟨y0,y1,y2,y3,y4⟩:=row5 D
 obtain ⟨f0,f1,f2,f3,f4⟩:=frz5 D
 clear D
 obtain ⟨j,rfl⟩:∃ j:Nat,m8=(j:Int):=⟨m8.toNat,Qvu⟩
 obtain ⟨x,hx,Z⟩:∃ x:Bs,Qxw W1 (w+1+1+1) (0+j) x/\x.length<=2:=by
  have hj:j<5:=Qvu
  rw [Qk _ _ _ _ _ _ I]
  match j,hj with
  | 0,_=>exact ⟨[],rfl,Qxz⟩
  | 1,_=>exact ⟨[97],rfl,Qxz⟩
  | 2,_=>exact ⟨[98],rfl,Qxz⟩
  | 3,_=>exact ⟨[97,98],rfl,Qxz⟩
  | 4,_=>exact ⟨[195,169],rfl,Qxz⟩
 rw [Nat.zero_add] at hx
 clear I
 go_wp2_with fail
 show bodyPost _ _ _ _ _ (Zp W1 (w+1+1) (.int .i64 1) Qxc x Qxe Qxe)
 exact Q7 (v:=.agg #[.int .i64 1,Qxc,x,Qxe,Qxe]) (by simp [results,results78,go_sem,Zd V.out]) rfl (Kx (.text x) (.inr (.inl rfl)) ⟨Qvu,Qvu⟩ Z (Zf U.out Qvu))
theorem Hz (s:Sc) (t:Ty) (hl:Dm t) (n:Int) (hn0:0<=n) (S0 S1:Nat->Prop) (cs ct:List Value) (w:World) (hs:Vj S0 w cs s) (ht:Xc S1 w ct t):
  Calls prog 78 #[cs,ct,n] w (Jl 22 w):=by
 obtain ⟨k,nm,A,names,kids⟩:=t
 rcases hl with h | h | h
 all_goals cases (show k=_ from h)
 ·exact Tr s nm A names kids n hn0 S0 S1 cs ct w hs ht
 ·exact Tj s nm A names kids n hn0 S0 S1 cs ct w hs ht
 exact R4 s nm A names kids n hn0 S0 S1 cs ct w hs ht
theorem T0 (nm:Bs) (n:Int) (s:Bs) (names binds:List Bs) (kids:List Ex) (a z:Int) (d:Nat) (HM:∀ (S:Nat->Prop) (ce:List Value) (nv vv:Value) (ns:List Bs) (vs:List Val) (w:World),Y1 S w ce (.mk 13 nm n s names binds kids a z)->Sl Zg S w nv ns->Sl Zc S w vv vs->ns.length<=vs.length->vs.length+(d+1)<=1000->(∀ v ∈ vs,Y0 v) ->
  Calls prog 246 #[ce,nv,vv] w (Xy S w (Ev (Y5 d) names binds kids ns vs))):∀ (S:Nat->Prop) (ce:List Value) (nv vv:Value) (ns:List Bs) (vs:List Val) (w:World),Y1 S w ce (.mk 13 nm n s names binds kids a z)->Sl Zg S w nv ns->Sl Zc S w vv vs->ns.length<=vs.length->vs.length+(d+1)<=1000->(∀ v ∈ vs,Y0 v) ->
  Calls prog 200 #[ce,nv,vv] w (Xy S w (Y5 (d+1) (.mk 13 nm n s names binds kids a z) ns vs)):=by
 intro S ce nv vv ns vs w aD aA aB I hd hb
 have hx:Y1 (fun b=>S b/\b<w) w ce (.mk 13 nm n s names binds kids a z):=aD.move (.refl _ _) (fun b hb h=>⟨h,hb⟩)
 have hn:=aA.up
 have hv:=aB.up
 obtain ⟨np,nc,rfl,_⟩:=hn.len
 obtain ⟨vp,vc,rfl,bC⟩:=hv.len
 have aO:=Qq hx
 obtain ⟨bD,bv,kv,rfl,bA,bB,T,O,hk⟩:=Yd.1 hx
 obtain ⟨p1,c1,rfl,_⟩:=T.len
 obtain ⟨p2,c2,rfl,_⟩:=O.len
 obtain ⟨p3,c3,rfl,aZ⟩:=hk.len
 obtain ⟨HN,HV,aL,aX,aW,HK,aM,V⟩:=Qxt hn hv hb T O hk HM I
 clear aD aA aB hx hn hv T O hk hb HM I
 have aP:=Qq (fun W (hW:Below w w W)=>aM.out (fun b=>S b/\b<w) _ _ _ ns vs W (aO.out.move (.of_below hW) Qyv) (HN.out.below hW) (HV.out.below hW) V.out hd aL.out)
 unfold sv at *
 go_enter func200,ntmps200
 go_upto_region 26 with fail
 generalize A:(w.alloc _).alloc _=W1
 have Y:=eqB A (Zu _ _ _)
 have J:=eqH (b:=w.heap.size) A (Q5 _ _ _)
 have M:=eqH (b:=w.heap.size+1) A (Q6 _ _ _)
 obtain ⟨U,aY,aQ⟩:=Qxn Y J M
 have Z:=Z8 M
 obtain ⟨c0,c1,c2,c3,c4,c5,c6,c7,c8⟩:=row9 J
 clear A Y J M
 go_wp2_with (go_at_call 246;refine (aP.out _ U.out).mono ?_;rintro e w7 ⟨k7,n7,s7,aI,aG,aE,aJ,aH,aF,b7,rfl,aC,N⟩;have D:=kE (N) Z aQ.out;obtain ⟨y0,y1,y2,y3,y4⟩:=row5 D;obtain ⟨f0,f1,f2,f3,f4⟩:=frz5 D;have aR:=Qq D;clear D;have aN:=Qq aC;have aK:=Qq N;clear aC N)
 show bodyPost _ _ _ _ _ (Zp w7 (w+1) k7 n7 (.string s7) (.slice aI aG aE) (.slice aJ aH aF))
 refine Q7 (v:=.tuple #[.agg #[k7,n7,.string s7,.slice aI aG aE,.slice aJ aH aF],.bool b7]) (by simp [results,results200,go_sem,Zd aR.out]) rfl (Xy.of_eq revF_mat (J5 U.out Qvu Z aN.out aK.out))
theorem Mt (nm:Bs) (n:Int) (s:Bs) (names binds:List Bs) (kids:List Ex) (a z:Int) (d:Nat) (HM:∀ (S:Nat->Prop) (ce:List Value) (nv vv:Value) (ns:List Bs) (vs:List Val) (w:World),Y1 S w ce (.mk 14 nm n s names binds kids a z)->Sl Zg S w nv ns->Sl Zc S w vv vs->ns.length<=vs.length->vs.length+(d+1)<=1000->(∀ v ∈ vs,Y0 v) ->
  Calls prog 247 #[ce,nv,vv] w (Xy S w (opV (fun x=>Y5 d x ns vs) nm kids))):∀ (S:Nat->Prop) (ce:List Value) (nv vv:Value) (ns:List Bs) (vs:List Val) (w:World),Y1 S w ce (.mk 14 nm n s names binds kids a z)->Sl Zg S w nv ns->Sl Zc S w vv vs->ns.length<=vs.length->vs.length+(d+1)<=1000->(∀ v ∈ vs,Y0 v) ->
  Calls prog 200 #[ce,nv,vv] w (Xy S w (Y5 (d+1) (.mk 14 nm n s names binds kids a z) ns vs)):=by
 intro S ce nv vv ns vs w aD aA aB I hd hb
 have hx:Y1 (fun b=>S b/\b<w) w ce (.mk 14 nm n s names binds kids a z):=aD.move (.refl _ _) (fun b hb h=>⟨h,hb⟩)
 have hn:=aA.up
 have hv:=aB.up
 obtain ⟨np,nc,rfl,_⟩:=hn.len
 obtain ⟨vp,vc,rfl,bC⟩:=hv.len
 have aO:=Qq hx
 obtain ⟨bD,bv,kv,rfl,bA,bB,T,O,hk⟩:=Yd.1 hx
 obtain ⟨p1,c1,rfl,_⟩:=T.len
 obtain ⟨p2,c2,rfl,_⟩:=O.len
 obtain ⟨p3,c3,rfl,aZ⟩:=hk.len
 obtain ⟨HN,HV,aL,aX,aW,HK,aM,V⟩:=Qxt hn hv hb T O hk HM I
 clear aD aA aB hx hn hv T O hk hb HM I
 have aP:=Qq (fun W (hW:Below w w W)=>aM.out (fun b=>S b/\b<w) _ _ _ ns vs W (aO.out.move (.of_below hW) Qyv) (HN.out.below hW) (HV.out.below hW) V.out hd aL.out)
 unfold sv at *
 go_enter func200,ntmps200
 go_upto_region 28 with fail
 generalize A:(w.alloc _).alloc _=W1
 have Y:=eqB A (Zu _ _ _)
 have J:=eqH (b:=w.heap.size) A (Q5 _ _ _)
 have M:=eqH (b:=w.heap.size+1) A (Q6 _ _ _)
 obtain ⟨U,aY,aQ⟩:=Qxn Y J M
 have Z:=Z8 M
 obtain ⟨c0,c1,c2,c3,c4,c5,c6,c7,c8⟩:=row9 J
 clear A Y J M
 go_wp2_with (go_at_call 247;refine (aP.out _ U.out).mono ?_;rintro e w7 ⟨k7,n7,s7,aI,aG,aE,aJ,aH,aF,b7,rfl,aC,N⟩;have D:=kE (N) Z aQ.out;obtain ⟨y0,y1,y2,y3,y4⟩:=row5 D;obtain ⟨f0,f1,f2,f3,f4⟩:=frz5 D;have aR:=Qq D;clear D;have aN:=Qq aC;have aK:=Qq N;clear aC N)
 show bodyPost _ _ _ _ _ (Zp w7 (w+1) k7 n7 (.string s7) (.slice aI aG aE) (.slice aJ aH aF))
 refine Q7 (v:=.tuple #[.agg #[k7,n7,.string s7,.slice aI aG aE,.slice aJ aH aF],.bool b7]) (by simp [results,results200,go_sem,Zd aR.out]) rfl (Xy.of_eq revF_op (J5 U.out Qvu Z aN.out aK.out))
end Go.Proofs.YtlanplhphiikjaaGreatDoor
