import Derived.Test.YtdpibdpbgokmoaaGreatDoorC10
import Derived.Test.YtdpibdpbgokmoaaGreatDoorC14
set_option maxRecDepth 100000
set_option maxHeartbeats 400000000
namespace Go.Proofs.YtdpibdpbgokmoaaGreatDoor
open Go.RowKit Go.Shelf Go.Lib Tryz
def Kt (s:Sc) (l:List Rel) (r:Rf) (v:Val):Bool:=match Ys v r.column with
 | some u=>(Jj s l r.table [u]).isSome
 | none=>false
theorem An {S:Nat→Prop} {w w6:World} {cs:List Value} {u:Val} {b:Nat} {E:TypeId} (hv:Z9 S w cs u) (hb:Below w w w6) (hc:w6.heap[b]?=some (.cells cs.toArray E (0,0))):Sl Ze (fun _=>True) w6 (.slice (some ⟨b,0,none⟩) 1 1) [u]:=
 Sl.of_css (css:=[cs]) Qqk (Cs.one (Z9.move hv (.of_below hb) (fun _ _ _=>trivial))) trivial (Z8 hc) (fun j x hx=>by
  rw [Nat.zero_add,Qk _ _ _ _ _ _ hc]
  simpa using hx)
theorem Ad (A B C:Nat) (S S1 S2:Nat→Prop) (s:Sc) (uv tv lv:Value) (l:List Rel) (r:Rf) (rows:List Val) (w:World) (hA0:w.cell? ⟨A,0,none⟩=some (sv r.column)) (hA1:w.cell? ⟨A,1,none⟩=some (sv r.table))
  (hB0:w.cell? ⟨B,0,none⟩=some uv) (hB1:w.cell? ⟨B,1,none⟩=some tv) (hC:w.cell? ⟨C,0,none⟩=some lv) (hs:Xu S1 w [uv,tv] s) (hl:Sl Y7 S2 w lv l) (hkl:∀ t ∈ s.tables,t.key.length≤1000):
  Uz prog 85 #[Qqc A,Qqc B,Qqc C] Ze S rows (Kt s l r) w:=by
 intro W v cs hb _ hr
 have aP:=hs
 obtain ⟨aX,aW,aQ,hu,ht⟩:=aP
 cases aQ
 obtain ⟨up,uc,rfl,_⟩:=hu.len
 obtain ⟨tp,tc,rfl,_⟩:=ht.len
 obtain ⟨lp,lc,rfl,aV⟩:=hl.len
 have a0:=kD hb (Qv w _ hA0) hA0
 have a1:=kD hb (Qv w _ hA1) hA1
 have b0:=kD hb (Qv w _ hB0) hB0
 have b1:=kD hb (Qv w _ hB1) hB1
 have c0:=kD hb (Qv w _ hC) hC
 have aL:A<W.heap.size:=Qv _ _ a0
 have aM:B<W.heap.size:=Qv _ _ b0
 have aN:C<W.heap.size:=Qv _ _ c0
 have Y:=hs.below hb
 have V:=hl.below hb
 have HG:=Qq (fun W' (h':Below W W W')=>Dn S v cs r.column W' (Z9.move (show Z9 S W cs v from hr) (.of_below h') Qzx))
 have aD:=Qq (fun W' (h':Below W W W') (kv:Value) (u:Val) (hk:Sl Ze (fun _=>True) W' kv [u])=>Rt S1 S2 (fun _=>True) s _ _ l r.table kv [u] W' (Y.below h') (V.below h') hk hkl)
 obtain ⟨p3,k3,p4,k4,D,_⟩:=Z9.cells (show Z9 S W cs v from hr)
 simp only [vcs] at D
 subst D
 obtain ⟨res,N⟩:=eX (Kt s l r v)
 rw [N]
 have O:res=(match Ys v r.column with | some u=>(Jj s l r.table [u]).isSome | none=>false):=N.symm
 show Calls prog 85 #[.agg (Qqg v p3 k3 p4 k4),Qqc A,Qqc B,Qqc C] W (fun e w'=>e=.returned (.bool res)∧Below W W w')
 clear N hs hl Y V hb hr hA0 hA1 hB0 hB1 hC hu ht hkl
 unfold sv at *
 cases hg:Ys v r.column with
 | none=>
  rw [hg] at HG O
  have HR:=Qq (show res=false from O)
  clear O hg
  go_enter func85,ntmps85
  go_wp2_with fail
  refine (HG.out _ (Zg _ _)).mono ?_
  rintro e w1 ⟨T,rfl,I,M⟩
  have J:=Qq ((Zg W _).thn M)
  obtain ⟨q3,l3,q4,l4,D,_⟩:=Z9.cells I
  simp only [vcs,Option.getD_none] at D
  subst D
  clear I M
  go_wp2_with fail
  go_ret
  rw [HR.out]
  exact ⟨rfl,J.out.alloc (Qqq J.out.size) _⟩
 | some u=>
  rw [hg] at HG O
  have HR:=Qq (show res=(Jj s l r.table [u]).isSome from O)
  clear O hg
  go_enter func85,ntmps85
  go_wp2_with fail
  refine (HG.out _ (Zg _ _)).mono ?_
  rintro e w1 ⟨T,rfl,I,M⟩
  have G:=(Zg W _).thn M
  obtain ⟨q3,l3,q4,l4,D,_⟩:=Z9.cells I
  simp only [vcs,Option.getD_some] at D
  subst D
  have aG:=kC G a1
  have aI:=kC G b0
  have aU:=kC G b1
  have aK:=kC G c0
  have aF:=Qq I;have J:=Qq G
  have aR:A<w1.heap.size:=Qv _ _ aG
  have aS:B<w1.heap.size:=Qv _ _ aI
  have aT:C<w1.heap.size:=Qv _ _ aK
  clear a0 a1 b0 b1 c0 M G I aL aM aN
  go_wp2_with fail
  refine (aD.out _ (J.out.thn (Zt _ _ _)) _ u (An aF.out (Zt _ _ _) (Q6 _ _ _))).mono ?_
  rintro e w4 ⟨T,rfl,Z,U⟩
  obtain ⟨q3,l3,q4,l4,D,_⟩:=Z9.cells Z
  simp only [vcs] at D
  subst D
  have aC:=Qq (J.out.thn ((Zt w1 _ _).thn U))
  clear Z U
  go_wp2_with fail
  go_ret
  rw [HR.out]
  exact ⟨rfl,aC.out⟩
def Yi (s:Sc) (l:List Rel) (rows:List Val):List Rf→Ft
 | []=>Ft.zero
 | r::rs=>if (Xi 12 (Kt s l r) rows).code=0 then Yi s l rows rs else Xi 12 (Kt s l r) rows
theorem heap4 (w:World) (A B C D:Obj):((((w.alloc A).alloc B).alloc C).alloc D).heap[w.heap.size]?=some A∧((((w.alloc A).alloc B).alloc C).alloc D).heap[w.heap.size+1]?=some B ∧
  ((((w.alloc A).alloc B).alloc C).alloc D).heap[w.heap.size+1+1]?=some C∧((((w.alloc A).alloc B).alloc C).alloc D).heap[w.heap.size+1+1+1]?=some D:=by
 have e3:(((w.alloc A).alloc B).alloc C).heap.size=w.heap.size+1+1+1:=Qqk
 have G:=Zg (((w.alloc A).alloc B).alloc C) D
 refine ⟨(G.block _ (by simp;omega)).trans ?_,kE G Qqk (Jq _ _ _ _),kE G Qqk (Zi _ _ _ _),by rw [← e3];exact Qw _ _⟩
 exact ((Zg ((w.alloc A).alloc B) C).block _ (by simp;omega)).trans (Q5 _ _ _)
theorem bal4 (w:World) (A B C D:Obj):Below w w ((((w.alloc A).alloc B).alloc C).alloc D):=(Xm w A B C).alloc (Xm w A B C).size _
theorem Ph (S0 S1 S2 S3:Nat→Prop) (s:Sc) (cs:List Value) (lv:Value) (l:List Rel) (t:Tbl) (ct:List Value) (rv:Value) (rows:List Val) (w:World) (hs0:Xu S0 w cs s) (hl0:Sl Y7 S1 w lv l) (ht0:Zn.R S2 w ct t) (hr0:Sl Ze S3 w rv rows) (hkl:∀ t ∈ s.tables,t.key.length≤1000):
  Calls prog 34 #[cs,lv,ct,rv] w (Dq S3 w (Yi s l rows t.refs)):=by
 have ht:Zn.R (fun b=>b<w) w ct t:=Zn.mono ht0 (fun b hb _=>hb)
 have hr:=hr0.up
 obtain ⟨HS,HL,cS,cP⟩:=Qqp hs0 hl0 hr hkl
 obtain ⟨uv,tv,rfl,hu,bR⟩:=hs0
 obtain ⟨up,uc,rfl,_⟩:=hu.len
 obtain ⟨tp,tc,rfl,_⟩:=bR.len
 obtain ⟨lp,lc,rfl,eR⟩:=hl0.len
 obtain ⟨rp,rc,rfl,_⟩:=hr.len
 obtain ⟨cX,cW,dL,dK,eD,eC,k9,eE,n9,eF,dP,dM,cT,dQ,dN,cU,dR,dO,cV,a9,z9,Z,_,_,_,aI,_⟩:=Yj ht
 simp only [tcs] at Z
 subst Z
 have hn:t.refs.length≤1000000:=by obtain ⟨_,_,_,h⟩:=aI.len;exact h
 obtain ⟨n,aH⟩:=eX (t.refs.length)
 obtain ⟨res,aA⟩:=eX (Yi s l rows t.refs)
 have bF:=Qq aA;have HN:=Qq aH
 rw [aA,aH]
 rw [aH] at hn aI
 have cR:=Qq aI
 clear hl0 ht ht0 hr hr0 hu bR aI aA hkl aH
 go_enter func34,ntmps34
 go_upto_region 1 with fail
 generalize aO:(((w.alloc _).alloc _).alloc _).alloc _=w4
 have bL:Below w w w4:=by rw [← aO];exact bal4 _ _ _ _ _
 obtain ⟨h0,h1,h2,h3⟩:w4.heap[w.heap.size]?=some (.cells #[.slice up s.sums.length uc,.slice tp s.tables.length tc] 26 (0,0))∧w4.heap[w.heap.size+1]?=some (.cells #[.slice lp l.length lc] 28 (0,0))∧w4.heap[w.heap.size+1+1]?=some (.cells #[t.name,.slice cX t.columns.length cW,.slice dL t.key.length dK,.slice eD n eC,k9,.string eE,n9,.string eF,.slice dP dM cT,.slice dQ dN cU,.slice dR dO cV,a9,z9] 48 (0,0)) ∧
   w4.heap[w.heap.size+1+1+1]?=some (.cells zF 38 (0,0)):=by rw [← aO];exact heap4 _ _ _ _ _
 have c3:=rA3 h2
 obtain ⟨H0,H1,H3,cM⟩:=Qqp h0 h1 h3 bL
 clear h0 h1 h2 h3 aO bL
 go_wp2_with fail
 go_loopw [15] (fun i wr=>∃ k:Nat,k≤n∧i=.int .i64 k∧Aside (Yi s l rows (t.refs.drop k)=res)∧Below w4 w4 wr) (fun i _=>n - (intOf i).toNat)
 case atStart=>exact ⟨0,Q8 _,rfl,bF.out,Qz _ _⟩
 obtain ⟨k,eQ,rfl,hE,J⟩:=hrel
 have cO:=Qq J
 have bH:=kB J H0.out
 have bI:=kB J H1.out
 have bJ:=kB J H3.out
 obtain ⟨aV,aW,O⟩:=Qqo bH bI bJ
 have aL:=Qq (cM.out.thn J)
 clear J bH bI bJ
 by_cases hlt:k<n
 ·have eO:(0:Int)≤(k:Int):=Qqj
  have eP:(k:Int)<(n:Int):=Qqj
  have aG:k<t.refs.length:=by rw [HN.out];exact hlt
  obtain ⟨r,hx⟩:∃ r,t.refs[k]?=some r:=⟨_,Qx aG⟩
  have bN:t.refs.drop k=r::t.refs.drop (k+1):=by rw [Qp aG];rw [Qx aG] at hx;cases hx;rfl
  have bK:(if (Xi 12 (Kt s l r) rows).code=0 then Yi s l rows (t.refs.drop (k+1)) else Xi 12 (Kt s l r) rows)=res:=by have:=hE.out;rw [bN] at this;exact this
  obtain ⟨ba,oa,cx,dH,eK,-,-,dI,aR⟩:=(cR.out.below aL.out).elem hx
  obtain ⟨bM,dE,dJ⟩:=dI
  subst bM
  have d0:=aR 0 _ rfl;have d1:=aR 1 _ rfl
  simp only [show Dd.k=2 from rfl,Nat.add_zero] at d0 d1
  unfold sv at d0 d1
  have U:=Qq bK
  subst dH
  clear hE bK bN aG hx aR dE dJ
  go_upto_region 4 with fail
  generalize aP:wr.alloc _=w5
  have M:=eqB aP (Zg _ _)
  have h5:=eqH (b:=wr.heap.size) aP (Qw _ _)
  have g0:=kB M aV.out
  have g1:=kB M aW.out
  have g3:=kB M O.out
  have D:=aL.out.thn M
  have I:=Qq (N4 12 85 #[Qqc wr,Qqc w,Qqc (w+1)] (enters_of func85 Qqy rfl) (fun b=>S3 b∧b<w) (.slice rp rows.length rc) rows (Kt s l r) w5 (cS.out.below D)
   (Ad wr w.heap.size (w+1) _ S0 S1 s _ _ _ l r rows w5 (Qk _ _ 0 _ _ _ h5) (Qk _ _ 1 _ _ _ h5) (Qk _ _ 0 _ _ _ g0) (Qk _ _ 1 _ _ _ g0) (Qk _ _ 0 _ _ _ g1) (HS.out.below D) (HL.out.below D) cP.out))
  obtain ⟨f,hf⟩:=eX (Xi 12 (Kt s l r) rows)
  rw [hf] at I U
  obtain ⟨G3,aY,aJ⟩:=Qqo g3 D (cO.out.thn M)
  clear hf aP M h5 g0 g1 g3 D d0 d1
  go_wp2_with fail
  refine I.out.mono ?_
  rintro e w6 ⟨eJ,rfl,bO,aF⟩
  obtain ⟨p3,k3,p4,k4,q3,l3,q4,l4,Z,dF,bQ,bP⟩:=Vc bO
  simp only [fcs] at Z
  subst Z
  have bE:=Qq (kB aF G3.out)
  have aZ:=Qq (aY.out.thn aF);have aK:=Qq (aJ.out.thn aF)
  have bC:=Qq bQ;have bA:=Qq bP
  clear bO aF bQ bP
  go_upto_region 5 with fail
  generalize aQ:w6.alloc _=w7
  have N:=eqB aQ (Zg _ _)
  have h7:=eqH (b:=w6.heap.size) aQ (Qw _ _)
  have aN:=Qq (kB N bE.out)
  have cN:=Qq (aZ.out.thn N);have aX:=Qq (aK.out.thn N)
  have bD:=Qq (Z9.move bC.out (.of_below N) Qzx);have bB:=Qq (Z9.move bA.out (.of_below N) Qzx)
  have xx:=fun j=>Qk _ _ j _ _ _ h7
  obtain ⟨cB,x1,x2,x3,x4,x5,x6,x7,x8,x9,eH,eI⟩:=Qzz xx
  simp only [Qf,Qg,Qh] at cB x1 x2 x3 x4 x5 x6 x7 x8 x9 eH eI
  clear aQ N h7 xx bE aZ aK bC bA I G3 aY aJ aV aW O
  by_cases hc:f.code=0
  ·have aM:=Qq (show Yi s l rows (t.refs.drop (k+1))=res by have:=U.out;rw [if_pos hc] at this;exact this)
   rw [hc] at cB
   clear U
   go_wp2_with fail
   go_roundw
   case measure=>simp [intOf];omega
   case rel=>exact ⟨k+1,Qqj,by go_num,aM.out,aX.out⟩
  have aM:=Qq (show f=res by have:=U.out;rw [if_neg hc] at this;exact this)
  have eL:(f.code != 0)=true:=by simpa using hc
  have eM:decide (f.code=0)=false:=by simpa using hc
  have eN:(f.code==0)=false:=by simpa using hc
  clear U
  have fz:=fun j=>Qn _ _ j _ _ aN.out
  have rr:=fun j=>Qk _ _ j _ _ _ aN.out
  obtain ⟨f0,f1,f2,f3,f4,f5,f6,f7,f8,f9,dA,dB⟩:=Qzz fz
  obtain ⟨r0,r1,r2,r3,r4,r5,r6,r7,r8,r9,aS,aT⟩:=Qzz rr
  simp only [Qf,Qg,Qh] at r0 r1 r2 r3 r4 r5 r6 r7 r8 r9 aS aT
  clear fz rr
  go_wp2_with fail
  obtain ⟨W,Y⟩:=eX (Yb w7 (w+1+1+1) f.code f.table f.row.kind f.row.n f.row.s (.slice p3 f.row.names.length k3) (.slice p4 f.row.kids.length k4) f.other.kind f.other.n f.other.s (.slice q3 f.other.names.length l3) (.slice q4 f.other.kids.length l4))
  have q:∀ j,W.cell? ⟨w+1+1+1,j,none⟩=#[.int .i64 f.code,.string ⟨f.table.toArray⟩,.int .i64 f.row.kind,.int .i64 f.row.n,.string ⟨f.row.s.toArray⟩,.slice p3 f.row.names.length k3,.slice p4 f.row.kids.length k4,.int .i64 f.other.kind,.int .i64 f.other.n,.string ⟨f.other.s.toArray⟩,.slice q3 f.other.names.length l3,.slice q4 f.other.kids.length l4][j]?:=fun j=>by rw [← Y];exact Ya aN.out j
  have G:∀ b,b≠w.heap.size+1+1+1→W.heap[b]?=w7.heap[b]?:=fun b hb=>by rw [← Y];exact Xq hb
  have A:Below w w W:=by rw [← Y];exact Yy cN.out Qqj
  show bodyPost _ _ _ _ _ (Yb w7 (w+1+1+1) f.code f.table f.row.kind f.row.n f.row.s (.slice p3 f.row.names.length k3) (.slice p4 f.row.kids.length k4) f.other.kind f.other.n f.other.s (.slice q3 f.other.names.length l3) (.slice q4 f.other.kids.length l4))
  rw [Y]
  have T:=Qq A;have V:=Qq G
  obtain ⟨q0,q1,q2,aD,aE,q5,q6,q7,q8,q9,aB,aC⟩:=Qzz q
  simp only [Qf,Qg,Qh] at q0 q1 q2 aD aE q5 q6 q7 q8 q9 aB aC
  clear Y A q G
  refine Q7 (v:=.agg (Qql f.code f.table f.row p3 k3 p4 k4 f.other q3 l3 q4 l4)) (by simp [results,results34,go_sem,q0,q1,q2,aD,aE,q5,q6,q7,q8,q9,aB,aC]) rfl ⟨_,rfl,?_,T.out⟩
  rw [← aM.out]
  exact ⟨_,_,rfl,dF,Z9.move bD.out (fun b hb _=>V.out b (by have:b<w.heap.size:=hb.2;omega)) (fun _ _ h=>h.1),Z9.move bB.out (fun b hb _=>V.out b (by have:b<w.heap.size:=hb.2;omega)) (fun _ _ h=>h.1)⟩
 have hr0:res=Ft.zero:=by
  have:=hE.out
  rw [Qu (by rw [HN.out];omega)] at this
  exact this.symm
 have hd:decide ((k:Int)<(n:Int))=false:=by simpa using hlt
 have cQ:=Qq hr0
 have fz:=fun j=>Qn _ _ j _ _ O.out
 have rr:=fun j=>Qk _ _ j _ _ _ O.out
 obtain ⟨f0,f1,f2,f3,f4,f5,f6,f7,f8,f9,dA,dB⟩:=Qzz fz
 obtain ⟨r0,r1,r2,r3,r4,r5,r6,r7,r8,r9,aS,aT⟩:=Qzz rr
 simp only [Qf,Qg,Qh] at r0 r1 r2 r3 r4 r5 r6 r7 r8 r9 aS aT
 clear fz rr hE hr0
 go_wp2_with fail
 obtain ⟨W,Y⟩:=eX (Yb wr (w+1+1+1) Qqd Qqe Qqd Qqd Qqe Qqf Qqf Qqd Qqd Qqe Qqf Qqf)
 have q:∀ j,W.cell? ⟨w+1+1+1,j,none⟩=zF[j]?:=fun j=>by rw [← Y];exact Ya O.out j
 have G:∀ b,b≠w.heap.size+1+1+1→W.heap[b]?=wr.heap[b]?:=fun b hb=>by rw [← Y];exact Xq hb
 have A:Below w w W:=by rw [← Y];exact Yy aL.out Qqj
 show bodyPost _ _ _ _ _ (Yb wr (w+1+1+1) Qqd Qqe Qqd Qqd Qqe Qqf Qqf Qqd Qqd Qqe Qqf Qqf)
 rw [Y]
 have T:=Qq A;have V:=Qq G
 obtain ⟨q0,q1,q2,aD,aE,q5,q6,q7,q8,q9,aB,aC⟩:=Qzz q
 simp only [Qf,Qg,Qh] at q0 q1 q2 aD aE q5 q6 q7 q8 q9 aB aC
 clear Y A q G
 refine Q7 (v:=.agg zF) (by simp [results,results34,go_sem,q0,q1,q2,aD,aE,q5,q6,q7,q8,q9,aB,aC]) rfl ⟨[Qqd,Qqe,Qqd,Qqd,Qqe,Qqf,Qqf,Qqd,Qqd,Qqe,Qqf,Qqf],rfl,?_,T.out⟩
 rw [cQ.out]
 exact Kk _ _
def Ej (rows:List Val):Ft:=if 256<rows.length then ⟨4,[],Val.zero,Val.zero⟩ else Ft.zero
theorem con1_any (S0 S1 S:Nat→Prop) (t:Tbl) (ct:List Value) (rv:Value) (rows:List Val) (w:World) (ht:Zn.R S0 w ct t) (hr:Sl Ze S1 w rv rows):
  Calls prog 25 #[ct,rv] w (Dq S w (Ej rows)):=by
 obtain ⟨O,N,V,U,aF,aE,k9,aG,n9,aH,aB,Y,I,aC,Z,J,aD,aA,M,a9,z9,D,_⟩:=Yj ht
 simp only [tcs] at D
 subst D
 obtain ⟨rp,rc,rfl,hl⟩:=hr.len
 unfold Ej
 clear ht hr
 by_cases h:256<rows.length
 ·rw [if_pos h]
  have hi:(256:Int)<(rows.length:Int):=Qqj
  clear h
  go_enter func25,ntmps25
  go_wp2_with fail
  generalize A:(w.alloc _).alloc _=W
  have hb:=eqB A (Zt _ _ _)
  have G:=eqH (b:=w.heap.size+1) A (Q6 _ _ _)
  refine Q7 (v:=.agg #[.int .i64 4,Qqe,Qqd,Qqd,Qqe,Qqf,Qqf,Qqd,Qqd,Qqe,Qqf,Qqf]) (by simp [results,results25,go_sem,Qk _ _ _ _ _ _ G]) rfl ⟨_,rfl,?_,hb⟩
  exact ⟨_,_,rfl,Qqk,Yw _ _,Yw _ _⟩
 rw [if_neg h]
 have hi:¬ (256:Int)<(rows.length:Int):=Qqj
 have T:decide ((256:Int)<(rows.length:Int))=false:=decide_eq_false hi
 clear h
 go_enter func25,ntmps25
 go_wp2_with fail
 generalize A:(w.alloc _).alloc _=W
 have hb:=eqB A (Zt _ _ _)
 have G:=eqH (b:=w.heap.size+1) A (Q6 _ _ _)
 refine Q7 (v:=.agg zF) (by simp [results,results25,go_sem,Qk _ _ _ _ _ _ G]) rfl ⟨[Qqd,Qqe,Qqd,Qqd,Qqe,Qqf,Qqf,Qqd,Qqd,Qqe,Qqf,Qqf],rfl,?_,hb⟩
 exact Kk _ _
theorem con3_any (S0 S1:Nat→Prop) (t:Tbl) (ct:List Value) (rv:Value) (rows:List Val) (K:Val→List Int) (w:World) (ht:Zn.R S0 w ct t) (hr:Sl Ze S1 w rv rows) (hK:Ey t rows K) (hl:rows.length≤100000) (hkl:t.key.length≤1000):
  Calls prog 31 #[ct,rv] w (Dq S1 w (Uo rows (ust rows.length (rows.map fun r=>kb (K r)) rows.length))):=by
 have HU:=Qq (fun W (hb:Below w w W)=>Sg S0 (fun b=>S1 b∧b<w) t rows K ct rv W (Zn.frame ht (.of_below hb)) ((hr.mono (fun b hb h=>⟨h,hb⟩)).below hb) hK hl hkl)
 obtain ⟨aW,aV,bB,bA,bJ,bI,k9,bK,n9,bL,bF,bC,aS,bG,bD,aT,bH,bE,aU,a9,z9,A,_⟩:=Yj ht
 simp only [tcs] at A
 subst A
 obtain ⟨rp,rc,rfl,_⟩:=hr.len
 obtain ⟨f,hf⟩:=eX (Uo rows (ust rows.length (rows.map fun r=>kb (K r)) rows.length))
 rw [hf] at HU ⊢
 clear ht hr hK hf
 go_enter func31,ntmps31
 go_wp2_with fail
 refine (HU.out _ (Zt _ _ _)).mono ?_
 rintro e w5 ⟨aX,rfl,T,M⟩
 obtain ⟨p3,k3,p4,k4,q3,l3,q4,l4,A,U,Y,V⟩:=Vc T
 simp only [fcs] at A
 subst A
 have J:=Qq ((M.block (w+1) Qqk).trans (Q6 w _ _))
 have aL:=Qq ((Zt w _ _).thn M)
 obtain ⟨aO,aN,aM⟩:=Qqo Y V U
 have fz:=fun j=>Qn _ _ j _ _ J.out
 have rr:=fun j=>Qk _ _ j _ _ _ J.out
 obtain ⟨f0,f1,f2,f3,f4,f5,f6,f7,f8,f9,aY,aZ⟩:=Qzz fz
 obtain ⟨r0,r1,r2,r3,r4,r5,r6,r7,r8,r9,aP,aQ⟩:=Qzz rr
 simp only [Qf,Qg,Qh] at r0 r1 r2 r3 r4 r5 r6 r7 r8 r9 aP aQ
 clear fz rr T M Y V U
 go_wp2_with fail
 obtain ⟨W,O⟩:=eX (Yb w5 (w+1) f.code f.table f.row.kind f.row.n f.row.s (.slice p3 f.row.names.length k3) (.slice p4 f.row.kids.length k4) f.other.kind f.other.n f.other.s (.slice q3 f.other.names.length l3) (.slice q4 f.other.kids.length l4))
 have q:∀ j,W.cell? ⟨w+1,j,none⟩=#[.int .i64 f.code,.string ⟨f.table.toArray⟩,.int .i64 f.row.kind,.int .i64 f.row.n,.string ⟨f.row.s.toArray⟩,.slice p3 f.row.names.length k3,.slice p4 f.row.kids.length k4,.int .i64 f.other.kind,.int .i64 f.other.n,.string ⟨f.other.s.toArray⟩,.slice q3 f.other.names.length l3,.slice q4 f.other.kids.length l4][j]?:=fun j=>by rw [← O];exact Ya J.out j
 have I:∀ b,b≠w.heap.size+1→W.heap[b]?=w5.heap[b]?:=fun b hb=>by rw [← O];exact Xq hb
 have G:Below w w W:=by rw [← O];exact Yy aL.out Qqj
 show bodyPost _ _ _ _ _ (Yb w5 (w+1) f.code f.table f.row.kind f.row.n f.row.s (.slice p3 f.row.names.length k3) (.slice p4 f.row.kids.length k4) f.other.kind f.other.n f.other.s (.slice q3 f.other.names.length l3) (.slice q4 f.other.kids.length l4))
 rw [O]
 have N:=Qq G;have D:=Qq I
 obtain ⟨q0,q1,q2,aB,aC,q5,q6,q7,q8,q9,Z,aA⟩:=Qzz q
 simp only [Qf,Qg,Qh] at q0 q1 q2 aB aC q5 q6 q7 q8 q9 Z aA
 clear O G q I
 refine Q7 (v:=.agg (Qql f.code f.table f.row p3 k3 p4 k4 f.other q3 l3 q4 l4)) (by simp [results,results31,go_sem,q0,q1,q2,aB,aC,q5,q6,q7,q8,q9,Z,aA]) rfl ⟨_,rfl,?_,N.out⟩
 exact ⟨_,_,rfl,aM.out,Z9.move aO.out (fun b hb _=>D.out b (by have:b<w.heap.size:=hb.2;omega)) (fun _ _ h=>h.1),Z9.move aN.out (fun b hb _=>D.out b (by have:b<w.heap.size:=hb.2;omega)) (fun _ _ h=>h.1)⟩
theorem con4_any (B C:Nat) (S0 S1 S2 S3:Nat→Prop) (s:Sc) (uv tv' lv:Value) (l:List Rel) (t:Tbl) (ct:List Value) (rv:Value) (rows:List Val) (w:World) (hB0:w.cell? ⟨B,0,none⟩=some uv) (hB1:w.cell? ⟨B,1,none⟩=some tv') (hC:w.cell? ⟨C,0,none⟩=some lv)
  (hs:Xu S0 w [uv,tv'] s) (hl:Sl Y7 S1 w lv l) (ht:Zn.R S2 w ct t) (hr:Sl Ze S3 w rv rows) (hkl:∀ t ∈ s.tables,t.key.length≤1000):
  Calls prog 33 #[ct,rv,Qqc B,Qqc C] w (Dq S3 w (Yi s l rows t.refs)):=by
 have HU:=Qq (fun W (hb:Below w w W)=>Ph S0 S1 S2 (fun b=>S3 b∧b<w) s _ lv l t ct rv rows W (hs.below hb) (hl.below hb) (Zn.frame ht (.of_below hb)) ((hr.mono (fun b hb h=>⟨h,hb⟩)).below hb) hkl)
 obtain ⟨bR,bQ,aS,hu,aB⟩:=hs
 cases aS
 obtain ⟨up,uc,rfl,_⟩:=hu.len
 obtain ⟨tp,tc,rfl,_⟩:=aB.len
 obtain ⟨lp,lc,rfl,_⟩:=hl.len
 obtain ⟨bA,aZ,bF,bE,bN,bM,k9,bO,n9,bP,bJ,bG,aW,bK,bH,aX,bL,bI,aY,a9,z9,A,_⟩:=Yj ht
 simp only [tcs] at A
 subst A
 obtain ⟨rp,rc,rfl,_⟩:=hr.len
 obtain ⟨f,hf⟩:=eX (Yi s l rows t.refs)
 rw [hf] at HU ⊢
 have O:=Qv _ _ hB0
 have T:=Qv _ _ hC
 have O:B<w.heap.size:=O
 have T:C<w.heap.size:=T
 clear ht hr hf hl hu aB
 go_enter func33,ntmps33
 go_wp2_with fail
 refine (HU.out _ (Zt _ _ _)).mono ?_
 rintro e w5 ⟨bB,rfl,V,M⟩
 obtain ⟨p3,k3,p4,k4,q3,l3,q4,l4,A,Y,aA,Z⟩:=Vc V
 simp only [fcs] at A
 subst A
 have J:=Qq ((M.block (w+1) Qqk).trans (Q6 w _ _))
 have aO:=Qq ((Zt w _ _).thn M)
 obtain ⟨aR,aQ,aP⟩:=Qqo aA Z Y
 have fz:=fun j=>Qn _ _ j _ _ J.out
 have rr:=fun j=>Qk _ _ j _ _ _ J.out
 obtain ⟨f0,f1,f2,f3,f4,f5,f6,f7,f8,f9,bC,bD⟩:=Qzz fz
 obtain ⟨r0,r1,r2,r3,r4,r5,r6,r7,r8,r9,aT,aU⟩:=Qzz rr
 simp only [Qf,Qg,Qh] at r0 r1 r2 r3 r4 r5 r6 r7 r8 r9 aT aU
 clear fz rr V M aA Z Y
 go_wp2_with fail
 obtain ⟨W,U⟩:=eX (Yb w5 (w+1) f.code f.table f.row.kind f.row.n f.row.s (.slice p3 f.row.names.length k3) (.slice p4 f.row.kids.length k4) f.other.kind f.other.n f.other.s (.slice q3 f.other.names.length l3) (.slice q4 f.other.kids.length l4))
 have q:∀ j,W.cell? ⟨w+1,j,none⟩=#[.int .i64 f.code,.string ⟨f.table.toArray⟩,.int .i64 f.row.kind,.int .i64 f.row.n,.string ⟨f.row.s.toArray⟩,.slice p3 f.row.names.length k3,.slice p4 f.row.kids.length k4,.int .i64 f.other.kind,.int .i64 f.other.n,.string ⟨f.other.s.toArray⟩,.slice q3 f.other.names.length l3,.slice q4 f.other.kids.length l4][j]?:=fun j=>by rw [← U];exact Ya J.out j
 have I:∀ b,b≠w.heap.size+1→W.heap[b]?=w5.heap[b]?:=fun b hb=>by rw [← U];exact Xq hb
 have G:Below w w W:=by rw [← U];exact Yy aO.out Qqj
 show bodyPost _ _ _ _ _ (Yb w5 (w+1) f.code f.table f.row.kind f.row.n f.row.s (.slice p3 f.row.names.length k3) (.slice p4 f.row.kids.length k4) f.other.kind f.other.n f.other.s (.slice q3 f.other.names.length l3) (.slice q4 f.other.kids.length l4))
 rw [U]
 have N:=Qq G;have D:=Qq I
 obtain ⟨q0,q1,q2,aE,aF,q5,q6,q7,q8,q9,aC,aD⟩:=Qzz q
 simp only [Qf,Qg,Qh] at q0 q1 q2 aE aF q5 q6 q7 q8 q9 aC aD
 clear U G q I
 refine Q7 (v:=.agg (Qql f.code f.table f.row p3 k3 p4 k4 f.other q3 l3 q4 l4)) (by simp [results,results33,go_sem,q0,q1,q2,aE,aF,q5,q6,q7,q8,q9,aC,aD]) rfl ⟨_,rfl,?_,N.out⟩
 exact ⟨_,_,rfl,aP.out,Z9.move aR.out (fun b hb _=>D.out b (by have:b<w.heap.size:=hb.2;omega)) (fun _ _ h=>h.1),Z9.move aQ.out (fun b hb _=>D.out b (by have:b<w.heap.size:=hb.2;omega)) (fun _ _ h=>h.1)⟩
def Bm (t:Tbl) (v:Val) (b:Bool):Prop:=∀ (S0 S1:Nat→Prop) (ct cr:List Value) (w:World),Xl w→Zn.R S0 w ct t→Z9 S1 w cr v →
 Calls prog 37 #[ct,cr] w fun e w'=>e=.returned (.bool b)∧Below w w w'
theorem Ob {t:Tbl} {v:Val} {b:Bool} (hs:Vx t.check=true) (he:EvV t.check (Fz v) (Xr b)) (hl:v.names.length≤v.kids.length):Bm t v b:=
 fun S0 S1 ct cr w _ ht hr=>sat_ok S0 S1 t v ct cr b w ht hr hs he hl
theorem sat2_any (X:Nat) (S:Nat→Prop) (t:Tbl) (ct:List Value) (rows:List Val) (p:Val→Bool) (w:World) (hct:∀ j u,ct[j]?=some u→w.cell? ⟨X,j,none⟩=some u) (hXl:X<w) (ht:Zn.R S w ct t) (hkw:Xl w)
  (hev:∀ x ∈ rows,Bm t x (p x)):Uz prog 36 #[Qqc X] Ze S rows p w:=by
 intro W x cs hb hx G
 have D:=Zn.frame ht (.of_below hb)
 have HC:=Qq (fun W' (h':Below W W W')=>hev x hx S S ct cs W' ((hkw.below hb).below h') (Zn.frame D (.of_below h')) (Z9.move (show Z9 S W cs x from G) (.of_below h') Qzx))
 obtain ⟨O,N,aA,Z,aI,aH,k9,aJ,n9,aK,aE,aB,I,aF,aC,J,aG,aD,M,a9,z9,A,_⟩:=Yj D
 simp only [tcs] at A
 subst A
 obtain ⟨p3,k3,p4,k4,A,_⟩:=Z9.cells (show Z9 S W cs x from G)
 simp only [vcs] at A
 subst A
 have d:=fun j u hj=>(hb.cell (p:=⟨X,j,none⟩) hXl).trans (hct j u hj)
 have d0:=d 0 _ rfl
 have d1:=d 1 _ rfl
 have d2:=d 2 _ rfl
 have d3:=d 3 _ rfl
 have d4:=d 4 _ rfl
 have d5:=d 5 _ rfl
 have d6:=d 6 _ rfl
 have d7:=d 7 _ rfl
 have d8:=d 8 _ rfl
 have d9:=d 9 _ rfl
 have T:=d 10 _ rfl
 have U:=d 11 _ rfl
 have V:=d 12 _ rfl
 have Y:X<W.heap.size:=Qv W _ d0
 show Calls prog 36 #[.agg (Qqg x p3 k3 p4 k4),Qqc X] W (fun e w'=>e=.returned (.bool (p x))∧Below W W w')
 generalize p x=b at HC ⊢
 clear d hct ht hb hx G D hev hkw
 go_enter func36,ntmps36
 go_wp2_with (go_at_call 37;refine (HC.out _ (Zg _ _)).mono ?_;rintro e w' ⟨rfl,hw⟩)
 go_ret
 exact ⟨rfl,(Zg _ _).thn hw⟩
theorem con5_any (S0 S3:Nat→Prop) (t:Tbl) (ct:List Value) (rv:Value) (rows:List Val) (p:Val→Bool) (w:World) (ht:Zn.R S0 w ct t) (hr:Sl Ze S3 w rv rows) (hkw:Xl w)
  (hev:∀ x ∈ rows,Bm t x (p x)):
  Calls prog 35 #[ct,rv] w (Dq S3 w (Xi 13 p rows)):=by
 have HU:=Qq (fun W (hb:Below w w W) (hct:∀ j u,ct[j]?=some u→W.cell? ⟨w,j,none⟩=some u) (hl:w<W.heap.size)=>N4 13 36 #[Qqc w] (enters_of func36 Qqy rfl) (fun b=>S3 b∧b<w) rv rows p W ((hr.mono (fun b hb h=>⟨h,hb⟩)).below hb)
  (fun W' x cs h1 h2 h3=>sat2_any w (fun _=>True) t ct rows p W hct hl (Zn.mono (Zn.frame ht (.of_below hb)) (fun _ _ _=>trivial)) (hkw.below hb) hev W' x cs h1 h2 (Z9.move h3 (.refl _ _) (fun _ _ _=>trivial))))
 obtain ⟨aW,aV,bB,bA,bJ,bI,k9,bK,n9,bL,bF,bC,aS,bG,bD,aT,bH,bE,aU,a9,z9,A,_⟩:=Yj ht
 simp only [tcs] at A
 subst A
 obtain ⟨rp,rc,rfl,_⟩:=hr.len
 obtain ⟨f,hf⟩:=eX (Xi 13 p rows)
 rw [hf] at HU ⊢
 clear ht hr hf hev hkw
 go_enter func35,ntmps35
 go_wp2_with fail
 refine (HU.out _ (Zt _ _ _) (fun j u hj=>by rw [Qk _ _ j _ _ _ (Q5 w _ _)];simpa using hj) (by simp;omega)).mono ?_
 rintro e w5 ⟨aX,rfl,T,M⟩
 obtain ⟨p3,k3,p4,k4,q3,l3,q4,l4,A,U,Y,V⟩:=Vc T
 simp only [fcs] at A
 subst A
 have J:=Qq ((M.block (w+1) Qqk).trans (Q6 w _ _))
 have aL:=Qq ((Zt w _ _).thn M)
 obtain ⟨aO,aN,aM⟩:=Qqo Y V U
 have fz:=fun j=>Qn _ _ j _ _ J.out
 have rr:=fun j=>Qk _ _ j _ _ _ J.out
 obtain ⟨f0,f1,f2,f3,f4,f5,f6,f7,f8,f9,aY,aZ⟩:=Qzz fz
 obtain ⟨r0,r1,r2,r3,r4,r5,r6,r7,r8,r9,aP,aQ⟩:=Qzz rr
 simp only [Qf,Qg,Qh] at r0 r1 r2 r3 r4 r5 r6 r7 r8 r9 aP aQ
 clear fz rr T M Y V U
 go_wp2_with fail
 obtain ⟨W,O⟩:=eX (Yb w5 (w+1) f.code f.table f.row.kind f.row.n f.row.s (.slice p3 f.row.names.length k3) (.slice p4 f.row.kids.length k4) f.other.kind f.other.n f.other.s (.slice q3 f.other.names.length l3) (.slice q4 f.other.kids.length l4))
 have q:∀ j,W.cell? ⟨w+1,j,none⟩=#[.int .i64 f.code,.string ⟨f.table.toArray⟩,.int .i64 f.row.kind,.int .i64 f.row.n,.string ⟨f.row.s.toArray⟩,.slice p3 f.row.names.length k3,.slice p4 f.row.kids.length k4,.int .i64 f.other.kind,.int .i64 f.other.n,.string ⟨f.other.s.toArray⟩,.slice q3 f.other.names.length l3,.slice q4 f.other.kids.length l4][j]?:=fun j=>by rw [← O];exact Ya J.out j
 have I:∀ b,b≠w.heap.size+1→W.heap[b]?=w5.heap[b]?:=fun b hb=>by rw [← O];exact Xq hb
 have G:Below w w W:=by rw [← O];exact Yy aL.out Qqj
 show bodyPost _ _ _ _ _ (Yb w5 (w+1) f.code f.table f.row.kind f.row.n f.row.s (.slice p3 f.row.names.length k3) (.slice p4 f.row.kids.length k4) f.other.kind f.other.n f.other.s (.slice q3 f.other.names.length l3) (.slice q4 f.other.kids.length l4))
 rw [O]
 have N:=Qq G;have D:=Qq I
 obtain ⟨q0,q1,q2,aB,aC,q5,q6,q7,q8,q9,Z,aA⟩:=Qzz q
 simp only [Qf,Qg,Qh] at q0 q1 q2 aB aC q5 q6 q7 q8 q9 Z aA
 clear O G q I
 refine Q7 (v:=.agg (Qql f.code f.table f.row p3 k3 p4 k4 f.other q3 l3 q4 l4)) (by simp [results,results35,go_sem,q0,q1,q2,aB,aC,q5,q6,q7,q8,q9,Z,aA]) rfl ⟨_,rfl,?_,N.out⟩
 exact ⟨_,_,rfl,aM.out,Z9.move aO.out (fun b hb _=>D.out b (by have:b<w.heap.size:=hb.2;omega)) (fun _ _ h=>h.1),Z9.move aN.out (fun b hb _=>D.out b (by have:b<w.heap.size:=hb.2;omega)) (fun _ _ h=>h.1)⟩
theorem Sa (us:List Sm) (B Y:Nat) (S:Nat→Prop) (ps:Option Addr) (ns nc:Nat) (T:Ty) (cty:List Value) (rows:List Val) (p:Val→Bool) (w:World) (hB0:w.cell? ⟨B,0,none⟩=some (.slice ps ns nc)) (hct:∀ j u,cty[j]?=some u→w.cell? ⟨Y,j,none⟩=some u) (hYl:Y<w)
  (hsm:Sl Uu S w (.slice ps ns nc) us) (hty:Xf S w cty T) (hp:∀ x ∈ rows,Y2 x∧Dk us x T (p x)) (hK:Xl w):Uz prog 29 #[Qqc B,Qqc Y] Ze S rows p w:=by
 intro W x cs hb I G
 have A:=hty.move (.of_below hb) Qzx
 have HC:=Qq (fun W' (h':Below W W W')=>hasGood us x T (p x) (hp x I).1 (hp x I).2 S S S cs cty ps ns nc W' ((hsm.below hb).below h') (Z9.move (show Z9 S W cs x from G) (.of_below h') Qzx) (A.move (.of_below h') Qzx) ((hK.below hb).below h'))
 obtain ⟨k,s,n,names,kids⟩:=T
 obtain ⟨y3,m3,y4,m4,rfl,_⟩:=A.cells'
 obtain ⟨p3,k3,p4,k4,D,_⟩:=Z9.cells (show Z9 S W cs x from G)
 simp only [vcs] at D
 subst D
 have b0:=kC hb hB0
 have d:=fun j u hj=>(hb.cell (p:=⟨Y,j,none⟩) hYl).trans (hct j u hj)
 have d0:=d 0 _ rfl
 have d1:=d 1 _ rfl
 have d2:=d 2 _ rfl
 have d3:=d 3 _ rfl
 have d4:=d 4 _ rfl
 have M:Y<W.heap.size:=Qv W _ d0
 have J:B<W.heap.size:=Qv W _ b0
 show Calls prog 29 #[.agg (Qqg x p3 k3 p4 k4),Qqc B,Qqc Y] W (fun e w'=>e=.returned (.bool (p x))∧Below W W w')
 generalize p x=b at HC ⊢
 clear d hct hty hb I G A hp hB0 hK hsm
 go_enter func29,ntmps29
 go_wp2_with (go_at_call 30;refine (HC.out _ (Zg _ _)).mono ?_;rintro e w' ⟨rfl,hw⟩)
 go_ret
 exact ⟨rfl,(Zg _ _).thn hw⟩
theorem con2_any (us:List Sm) (B:Nat) (S0 S3:Nat→Prop) (ps:Option Addr) (ns nc:Nat) (t:Tbl) (ct:List Value) (rv:Value) (rows:List Val) (p:Val→Bool) (w:World) (hB0:w.cell? ⟨B,0,none⟩=some (.slice ps ns nc)) (ht:Zn.R S0 w ct t) (hr:Sl Ze S3 w rv rows)
  (hsm:Sl Uu (fun b=>b<w) w (.slice ps ns nc) us) (ho:Srt Ks t.columns) (hl:t.columns.length≤19) (hne:t.columns≠[]) (hp:∀ x ∈ rows,Y2 x∧Dk us x (Mv t) (p x)) (hK:Xl w):
  Calls prog 26 #[ct,rv,Qqc B] w (Dq S3 w (Xi 9 p rows)):=by
 have aH:=Qq (fun W (hb:Below w w W)=>row_any S0 t ct W (Zn.frame ht (.of_below hb)) ho hl hne)
 have bK:=Qv _ _ hB0
 have HU:=Qq (fun W Y M (hb:Below w w W) (hct:∀ j u,M[j]?=some u→W.cell? ⟨Y,j,none⟩=some u) (hY:Y<W) (D:Xf (fun _=>True) W M (Mv t))=>N4 9 29 #[Qqc B,Qqc Y] (enters_of func29 Qqy rfl) (fun b=>S3 b∧b<w) rv rows p W ((hr.mono (fun b hb h=>⟨h,hb⟩)).below hb)
  (fun W' x cs h1 h2 h3=>Sa us B Y (fun _=>True) ps ns nc (Mv t) M rows p W (kD hb bK hB0) hct hY ((hsm.mono (fun _ _ _=>trivial)).below hb) D hp (hK.below hb) W' x cs h1 h2 (Z9.move h3 (.refl _ _) (fun _ _ _=>trivial))))
 obtain ⟨bT,bS,bY,bX,cG,cF,k9,cH,n9,cI,cC,bZ,bP,cD,cA,bQ,cE,cB,bR,a9,z9,G,_⟩:=Yj ht
 simp only [tcs] at G
 subst G
 obtain ⟨rp,rc,rfl,_⟩:=hr.len
 obtain ⟨f,hf⟩:=eX (Xi 9 p rows)
 rw [hf] at HU ⊢
 clear ht hr hf hp hK ho hl hne hB0 hsm
 go_enter func26,ntmps26
 go_wp2_with fail
 refine (aH.out _ (Zt _ _ _)).mono ?_
 rintro e w1 ⟨M,rfl,D,O⟩
 have I:=D
 generalize hT:Mv t=T at D I HU
 obtain ⟨tk,ts,tn,A,J⟩:=T
 obtain ⟨y3,m3,y4,m4,bL,_⟩:=I.cells'
 subst bL
 have bH:=Qq D;have bB:=Qq ((Zt w _ _).thn O)
 have bG:=Qq ((O.block (w+1) Qqk).trans (Q6 w _ _))
 have bJ:=Qq (show w+2≤w1.heap.size by have:=O.size;simp at this;omega)
 clear D I O hT
 go_upto_region 2 with fail
 obtain ⟨W2,N⟩:=eX (w1.alloc (.cells #[tk,ts,tn,.slice y3 A.length m3,.slice y4 J.length m4] 56))
 rw [N]
 have U:=eqB N (Zg _ _)
 have aD:=eqH (b:=w1.heap.size) N (Qw _ _)
 have aE:=Qq (bB.out.thn U)
 have aG:=Qq ((U.block (w+1) (Qqq bJ.out)).trans bG.out)
 have bI:=Qq (HU.out W2 w1 [tk,ts,tn,.slice y3 A.length m3,.slice y4 J.length m4] aE.out (fun j u hj=>by rw [Qk _ _ j _ _ _ aD];simpa using hj) (Z8 aD) (bH.out.move (.of_below U) (fun _ _ _=>trivial)))
 clear N U aD HU
 go_wp2_with fail
 refine bI.out.mono ?_
 rintro e w5 ⟨bU,rfl,aJ,aC⟩
 obtain ⟨p3,k3,p4,k4,q3,l3,q4,l4,G,aK,aM,aL⟩:=Vc aJ
 simp only [fcs] at G
 subst G
 have aB:=Qq ((aC.block (w+1) (Z8 aG.out)).trans aG.out)
 have bC:=Qq (aE.out.thn aC)
 obtain ⟨bF,bE,bD⟩:=Qqo aM aL aK
 have fz:=fun j=>Qn _ _ j _ _ aB.out
 have rr:=fun j=>Qk _ _ j _ _ _ aB.out
 obtain ⟨f0,f1,f2,f3,f4,f5,f6,f7,f8,f9,bV,bW⟩:=Qzz fz
 obtain ⟨r0,r1,r2,r3,r4,r5,r6,r7,r8,r9,bM,bN⟩:=Qzz rr
 simp only [Qf,Qg,Qh] at r0 r1 r2 r3 r4 r5 r6 r7 r8 r9 bM bN
 clear fz rr aJ aC aM aL aK
 go_wp2_with fail
 obtain ⟨W,hW⟩:=eX (Yb w5 (w+1) f.code f.table f.row.kind f.row.n f.row.s (.slice p3 f.row.names.length k3) (.slice p4 f.row.kids.length k4) f.other.kind f.other.n f.other.s (.slice q3 f.other.names.length l3) (.slice q4 f.other.kids.length l4))
 have q:∀ j,W.cell? ⟨w+1,j,none⟩=#[.int .i64 f.code,.string ⟨f.table.toArray⟩,.int .i64 f.row.kind,.int .i64 f.row.n,.string ⟨f.row.s.toArray⟩,.slice p3 f.row.names.length k3,.slice p4 f.row.kids.length k4,.int .i64 f.other.kind,.int .i64 f.other.n,.string ⟨f.other.s.toArray⟩,.slice q3 f.other.names.length l3,.slice q4 f.other.kids.length l4][j]?:=fun j=>by rw [← hW];exact Ya aB.out j
 have aA:∀ b,b≠w.heap.size+1→W.heap[b]?=w5.heap[b]?:=fun b hb=>by rw [← hW];exact Xq hb
 have Z:Below w w W:=by rw [← hW];exact Yy bC.out Qqj
 show bodyPost _ _ _ _ _ (Yb w5 (w+1) f.code f.table f.row.kind f.row.n f.row.s (.slice p3 f.row.names.length k3) (.slice p4 f.row.kids.length k4) f.other.kind f.other.n f.other.s (.slice q3 f.other.names.length l3) (.slice q4 f.other.kids.length l4))
 rw [hW]
 have aF:=Qq Z;have V:=Qq aA
 obtain ⟨q0,q1,q2,aP,aQ,q5,q6,q7,q8,q9,aN,aO⟩:=Qzz q
 simp only [Qf,Qg,Qh] at q0 q1 q2 aP aQ q5 q6 q7 q8 q9 aN aO
 clear hW Z q aA
 refine Q7 (v:=.agg (Qql f.code f.table f.row p3 k3 p4 k4 f.other q3 l3 q4 l4)) (by simp [results,results26,go_sem,q0,q1,q2,aP,aQ,q5,q6,q7,q8,q9,aN,aO]) rfl ⟨_,rfl,?_,aF.out⟩
 exact ⟨_,_,rfl,bD.out,Z9.move bF.out (fun b hb _=>V.out b (by have:b<w.heap.size:=hb.2;omega)) (fun _ _ h=>h.1),Z9.move bE.out (fun b hb _=>V.out b (by have:b<w.heap.size:=hb.2;omega)) (fun _ _ h=>h.1)⟩
def Ue:List Val→Bool
 | a::b::l=>decide (Yz a b<0)&&Ue (b::l)
 | _=>true
theorem Fg:∀ (l:List Val),Ue l=true↔∀ (j:Nat) (x y:Val),l[j]?=some x→l[j+1]?=some y→Yz x y<0
 | []=>by simp [Ue]
 | [a]=>by simp [Ue]
 | a::b::l=>by
  rw [Ue,Bool.and_eq_true,decide_eq_true_eq,Fg (b::l)]
  constructor
  ·rintro ⟨h1,h2⟩ j x y hx hy
   cases j with
   | zero=>simp at hx hy;subst hx;subst hy;exact h1
   | succ j=>exact h2 j x y (by simpa using hx) (by simpa using hy)
  intro h
  exact ⟨h 0 a b rfl rfl,fun j x y hx hy=>h (j+1) x y (by simpa using hx) (by simpa using hy)⟩
theorem P8 {l:List Val} {j:Nat} {x y:Val} (hx:l[j]?=some x) (hy:l[j+1]?=some y) (h:¬ Yz x y<0):Ue l=false:=by
 rw [← Qt,Fg]
 exact fun g=>h (g j x y hx hy)
theorem Ca (S0 S1:Nat→Prop) (t:Tbl) (ct:List Value) (r:Rel) (cr:List Value) (w:World) (ht:Zn.R S0 w ct t) (hr:Y7.R S1 w cr r):
  Calls prog 75 #[ct,cr] w fun e w'=>e=.returned (.bool (Ue r.rows&&decide (t.name=r.table)))∧Below w w w':=by
 obtain ⟨bF,bE,bR,bQ,bZ,bY,k9,cA,n9,cB,bV,bS,bB,bW,bT,bC,bX,bU,bD,a9,z9,aH,_⟩:=Yj ht
 simp only [tcs] at aH
 subst aH
 obtain ⟨rv,rfl,_,N⟩:=hr
 have U:Sl Ze (fun b=>b<w) w rv r.rows:=N.mono (fun b hb _=>hb)
 obtain ⟨rp,rc,rfl,hl⟩:=U.len
 have hC:∀ (W:World) (x y:Val) (cx cy:List Value),Below w w W→Z9 (fun b=>b<w) W cx x→Z9 (fun b=>b<w) W cy y→∀ n os,Calls prog 61 #[cx,cy] (Sort.grow (W.drewN n) os) fun e w'=>e=.returned (.int .i64 (Yz x y))∧∃ q os',w'=Sort.grow ((Sort.grow (W.drewN n) os).drewN q) os':=
  fun W x y cx cy _ Y T n os=>Ga _ x y cx cy _ (Y.move (.of_below (Yg W n os).bl) Qzx) (T.move (.of_below (Yg W n os).bl) Qzx)
 have HC:=Qq hC;have HV:=Qq U
 clear ht N hC U
 obtain ⟨n,hn⟩:=eX (r.rows.length)
 rw [hn] at HV hl ⊢
 have HN:=Qq hn
 clear hn
 obtain ⟨tb,V⟩:=eX (decide (t.name=r.table))
 rw [V]
 have O:(t.name==r.table)=tb:=by rw [← V];by_cases h:t.name=r.table <;> simp [h]
 have aS:=Qq O
 clear V O
 obtain ⟨res,A⟩:=eX (Ue r.rows)
 rw [A]
 have HR:=Qq A
 clear A
 unfold sv
 have mixed:(prog).follows .mixedOrders=true:=Qqy
 go_enter func75,ntmps75
 go_wp2_with fail
 generalize I:(w.alloc _).alloc _=W1
 have aF:=eqB I (Zt _ _ _)
 have aC:=eqH (b:=w.heap.size) I (Q5 _ _ _)
 have aE:=eqH (b:=w.heap.size+1) I (Q6 _ _ _)
 obtain ⟨Z,aR,aB⟩:=Qqo aF aC aE
 clear I aF aC aE
 go_loopw [5,9] (fun _ i wr=>∃ k:Nat,k≤n∧i=.int .i64 k∧Gr W1 wr∧Aside (∀ (j:Nat) (x y:Val),j+1<k→r.rows[j]?=some x→r.rows[j+1]?=some y→Yz x y<0)) (fun _ i _=>n - (intOf i).toNat)
 case atStart=>exact ⟨0,Q8 _,rfl,Gr.refl _,fun j x y hj=>absurd hj (Z6 _)⟩
 obtain ⟨k,bP,rfl,hG,hI⟩:=hrel
 have aZ:=Z8 aB.out
 have J:=kE hG.bl aZ aB.out
 have aU:=Z8 J
 have aD:=kB hG.bl aR.out
 have x0:=rA0 J;have x1:=rA1 J;have t0:=rA0 aD
 have HG:=Qq hG;have HI:=Qq hI.out
 have G:=Qq (Z.out.trans (hG.bl.mono Z.out.size))
 clear hG hI J aD
 by_cases hlt:k<n
 ·have aV:(0:Int)≤(k:Int):=Qqj
  have aW:(k:Int)<(n:Int):=Qqj
  by_cases hk0:k=0
  ·have hd:decide ((k:Int) > 0)=false:=by simp;omega
   have bG:decide ((0:Int)<(k:Int))=false:=by simp;omega
   have bH:decide (0<k)=false:=by simp;omega
   have aP:=Qq hk0
   clear hk0
   go_wp2_with fail
   go_quiet (fail)
   go_wp2_with fail
   go_roundw
   case measure=>simp [intOf];omega
   case rel=>exact ⟨k+1,Qqj,by go_num,HG.out.thn ⟨_,#[],by rw [Sort.grow_empty]⟩,(show Aside _ from fun j x y hj=>absurd hj (Qqq aP.out))⟩
  obtain ⟨j,rfl⟩:∃ j,k=j+1:=⟨k - 1,Qqj⟩
  clear hk0
  obtain ⟨x,Y⟩:∃ x,r.rows[j]?=some x:=⟨_,Qx (by rw [HN.out];omega)⟩
  obtain ⟨y,T⟩:∃ y,r.rows[j+1]?=some y:=⟨_,Qx (by rw [HN.out];omega)⟩
  obtain ⟨xb,aL,p3,k3,p4,k4,rfl,D,aJ,d0,d1,d2,d3,d4⟩:=(HV.out.below G.out).val Y
  obtain ⟨yb,aM,q3,l3,q4,l4,he,bA,aK,e0,e1,e2,e3,e4⟩:=(HV.out.below G.out).val T
  obtain ⟨rfl,rfl,-⟩:xb=yb∧aL=aM∧True:=by simpa using he
  have M:=HC.out wr x y _ _ G.out aJ aK
  have D0:=Zs D d0;have D1:=Zs D d1;have D2:=Zs D d2;have D3:=Zs D d3;have D4:=Zs D d4
  have E0:=Zs D e0;have E1:=Zs D e1;have E2:=Zs D e2;have E3:=Zs D e3;have E4:=Zs D e4
  have X1:=Zs aU x1
  have bI:IntKind.i64.wrap (j:Int)=(j:Int):=by rw [IntKind.wrap_i64];omega
  have bJ:(j:Int)<(n:Int):=Qqj
  have bK:(0:Int)<(j:Int)+1:=Qqj
  have bL:(0:Int)≤(j:Int)+1:=Qqj
  have bM:(j:Int)+1<(n:Int):=Qqj
  have bN:(0:Int)≤(j:Int):=Qqj
  have bO:((j:Int)+1).toNat=j+1:=Qqj
  have HX:=Qq Y;have HY:=Qq T
  unfold vcs at M
  generalize aG:Yz x y=c at M
  have aA:=Qq aG
  clear Y T he aJ aK bA d0 d1 d2 d3 d4 e0 e1 e2 e3 e4 aG aV aW
  by_cases hneg:c<0
  ·have hq:decide (0≤c)=false:=by simpa using hneg
   go_wp2_with fail
   go_quiet_grown (first | (go_at_call 61;refine Calls.grown_of (M _ _)))
   go_wp2_with fail
   go_roundw
   case measure=>simp [intOf];omega
   case rel=>
    refine ⟨j+1+1,Qqj,by go_num,HG.out.thn (Yg _ _ _),(show Aside _ from fun i u v hi hu hv=>?_)⟩
    by_cases e:i=j
    ·subst e
     have h1:=HX.out;have h2:=HY.out
     rw [hu] at h1;rw [hv] at h2
     cases h1;cases h2
     rw [aA.out];exact hneg
    exact HI.out i u v Qqj hu hv
  have hq:decide (0≤c)=true:=by simp;omega
  have A:res=false:=by rw [← HR.out];exact P8 HX.out HY.out (by rw [aA.out];exact hneg)
  subst A
  go_wp2_with fail
  go_quiet_grown (first | (go_at_call 61;refine Calls.grown_of (M _ _)))
  go_wp2_with fail
  go_ret
  exact ⟨Qqk,G.out.thn (Yg _ _ _).bl⟩
 have aI:k=n:=Qqj
 subst aI
 have A:res=true:=by
  rw [← HR.out,Fg]
  exact fun j x y Y T=>HI.out j x y (by have:=(Qj T).1;have:=HN.out;omega) Y T
 subst A
 go_wp2_with fail
 go_ret
 refine ⟨?_,G.out⟩
 rw [Bool.true_and,← aS.out]
 rfl
def Uy (s:Sc) (l:List Rel):Bool:=eqL (fun (t:Tbl) (r:Rel)=>Ue r.rows&&decide (t.name=r.table)) s.tables l
theorem Ro (S0 S1:Nat→Prop) (s:Sc) (cs:List Value) (lv:Value) (l:List Rel) (w:World) (hs:Xu S0 w cs s) (hl:Sl Y7 S1 w lv l):
  Calls prog 24 #[cs,lv] w fun e w'=>e=.returned (.bool (Uy s l))∧Below w w w':=by
 obtain ⟨uv,tv,rfl,hu,A⟩:=hs
 have HE:=Qq (fun W (hb:Below w w W)=>C1 75 #[] (enters_of func75 Qqy rfl) (fun _=>True) tv lv s.tables l W ((A.mono (fun _ _ _=>trivial)).below hb) ((hl.mono (fun _ _ _=>trivial)).below hb) (fun t r=>Ue r.rows&&decide (t.name=r.table))
  (fun W' x y cx cy _ _ _ hx hy=>Ca _ _ x cx y cy W' hx hy))
 obtain ⟨up,uc,rfl,_⟩:=hu.len
 obtain ⟨tp,tc,rfl,_⟩:=A.len
 obtain ⟨lp,lc,rfl,_⟩:=hl.len
 unfold Uy
 generalize eqL _ s.tables l=r at HE ⊢
 clear hu A hl
 go_enter func24,ntmps24
 go_wp2_with (go_at_call 74;refine (HE.out _ (Zg _ _)).mono ?_;rintro e w' ⟨rfl,hw⟩)
 go_ret
 exact ⟨rfl,(Zg _ _).thn hw⟩
end Go.Proofs.YtdpibdpbgokmoaaGreatDoor
