import Derived.Test.YtlanplhphiikjaaGreatDoorF21
import Derived.Test.YtlanplhphiikjaaGreatDoorF28
import Derived.Test.YtlanplhphiikjaaGreatDoorF33
set_option maxRecDepth 100000
set_option maxHeartbeats 400000000
namespace Go.Proofs.YtlanplhphiikjaaGreatDoor
open Go.RowKit Go.Shelf Go.Lib Tryz
def Ul (code:Int) (p:Val->Bool) (rows:List Val):Ft:=match rows.findIdx? (fun r=>!p r) with
 | none=>Ft.zero
 | some i=>⟨code,[],rows.getD i Val.zero,Val.zero⟩
theorem bad1_any (h:Nat) (lbh:Array Value) (eh:∀ args w,(callFunc h args).run prog w=.ok (.enter h args) w) (G:Nat) (S:Nat->Prop) (rows:List Val) (p:Val->Bool) (w:World) (hp:Xo prog h lbh Zc S rows p w) (hc:w.cell? ⟨G,0,none⟩=some (.func (.func h) #[] lbh)):
  Xo prog 117 #[Om G] Zc S rows (fun r=>!p r) w:=by
 intro W x cs hb hx L
 have J:W.cell? ⟨G,0,none⟩=some (.func (.func h) #[] lbh):=kD hb (Qv w _ hc) hc
 have I:=Qv W _ J
 have hG:G<W.heap.size:=I
 have HP:=Qq (fun W' (h':Below W W W')=>hp W' x cs (hb.thn h') hx (Zc.frame L (.of_below h')))
 obtain ⟨p3,k3,p4,k4,D,_⟩:=Z5.cells (show Z5 S W cs x from L)
 simp only [vcs] at D
 subst D
 show Calls prog 117 #[.agg (Ou x p3 k3 p4 k4),Om G] W (fun e w'=>e=.returned (.bool (!p x))/\Below W W w')
 generalize p x=b at HP |-
 clear hp hc hb hx L I
 go_enter func117,ntmps117
 go_wp2_with (go_at_fn h;refine (HP.out _ (Zb _ _)).mono ?_;rintro e w' ⟨rfl,hw⟩)
 go_ret
 exact ⟨rfl,(Zb _ _).thn hw⟩
theorem B5 (code:Int) (h:Nat) (lbh:Array Value) (eh:∀ args w,(callFunc h args).run prog w=.ok (.enter h args) w) (S0:Nat->Prop) (v:Value) (rows:List Val) (p:Val->Bool) (w:World) (hv0:Sl Zc S0 w v rows) (hp:Xo prog h lbh Zc (fun b=>S0 b/\b<w) rows p w):
  Calls prog 62 #[code,v,.func (.func h) #[] lbh] w (Gq S0 w (Ul code p rows)):=by
 have hv:=hv0.up
 obtain ⟨vp,bX,rfl,hl⟩:=hv.len
 have HI:=Qq (fun W (hb:Below w w W) (hc:W.cell? ⟨w,0,none⟩=some (.func (.func h) #[] lbh))=>G5 Tryz.ixVal Zc isAgg48 sizeOf48 117 #[Om w] (enters_of func117 Og rfl) _ _ rows W _ (hv.below hb)
  (bad1_any h lbh eh w _ rows p W (fun W' x cs h1 h2 h3=>hp W' x cs (hb.thn h1) h2 h3) hc))
 have HV:=Qq hv
 clear hv hv0 hp
 have hB:∃ r,Ul code p rows=r:=⟨_,rfl⟩
 obtain ⟨r,hr⟩:=hB
 rw [hr]
 have D:V5 (fun r=>!p r) rows=(match rows.findIdx? (fun r=>!p r) with | some i=>(i:Int) | none=>-1):=by unfold V5;cases rows.findIdx? (fun r=>!p r) <;> rfl
 cases hf:rows.findIdx? (fun r=>!p r) with
 | none=>
  have M:r=Ft.zero:=by rw [<- hr];unfold Ul;rw [hf]
  rw [hf] at D
  simp only at D
  rw [D] at HI
  have HR:=Qq M
  clear M hr D hf
  go_enter func62,ntmps62
  go_wp2_with fail
  refine (HI.out _ (Zl _ _ _) Od).mono ?_
  rintro e w5 ⟨rfl,hw⟩
  have G:=(hw.block (w+1) Od).trans (Q1 w _ _)
  have fz:=fun j=>Qg _ _ j _ _ G
  have rr:=fun j=>Qk _ _ j _ _ _ G
  obtain ⟨f0,f1,f2,f3,f4,f5,f6,f7,f8,f9,aC,aD⟩:=P5 fz
  obtain ⟨r0,r1,r2,r3,r4,r5,r6,r7,r8,r9,U,V⟩:=P5 rr
  simp only [Qa,Qb,Qc] at r0 r1 r2 r3 r4 r5 r6 r7 r8 r9 U V
  have Z:=Qq ((Zl w _ _).thn hw);have aB:=Qq G
  clear fz rr G hw
  go_wp2_with fail
  obtain ⟨W,Y⟩:=eX (Y8 w5 (w+1) On Oo On On Oo Ot Ot On On Oo Ot Ot)
  have q:∀ j,W.cell? ⟨w+1,j,none⟩=zF[j]?:=fun j=>by rw [<- Y];exact Y4 aB.out j
  have I:Below w w W:=by rw [<- Y];exact Yq Z.out Oa
  show bodyPost _ _ _ _ _ (Y8 w5 (w+1) On Oo On On Oo Ot Ot On On Oo Ot Ot)
  rw [Y]
  have L:=Qq I
  obtain ⟨q0,q1,q2,q3,q4,q5,q6,q7,q8,q9,O,T⟩:=P5 q
  simp only [Qa,Qb,Qc] at q0 q1 q2 q3 q4 q5 q6 q7 q8 q9 O T
  clear Y I q r0 r1 r2 r3 r4 r5 r6 r7 r8 r9 U V f0 f1 f2 f3 f4 f5 f6 f7 f8 f9 aC aD
  refine Q2 (v:=.agg zF) (by simp [results,results62,go_sem,q0,q1,q2,q3,q4,q5,q6,q7,q8,q9,O,T]) rfl ⟨[On,Oo,On,On,Oo,Ot,Ot,On,On,Oo,Ot,Ot],rfl,by rw [HR.out];exact U1 _ _,L.out⟩
 | some i=>
  obtain ⟨bU,_,_⟩:=List.findIdx?_eq_some_iff_getElem.1 hf
  obtain ⟨x,hx⟩:∃ x,rows[i]?=some x:=⟨_,Qx bU⟩
  have M:r=⟨code,[],x,Val.zero⟩:=by rw [<- hr];unfold Ul;rw [hf];simp only;rw [Qm,hx];rfl
  rw [hf] at D
  simp only at D
  rw [D] at HI
  obtain ⟨xb,bY,p3,k3,p4,k4,rfl,N,aJ,d0,d1,d2,d3,d4⟩:=HV.out.val hx
  have bZ:(0:Int)<=(i:Int):=Oa
  have cA:(i:Int)<(rows.length:Int):=Oa
  have HR:=Qq M;have bM:=Qq aJ
  clear M hr D hf hx aJ
  go_enter func62,ntmps62
  go_wp2_with fail
  refine (HI.out _ (Zl _ _ _) Od).mono ?_
  rintro e w5 ⟨rfl,hw⟩
  have G:=(hw.block (w+1) Od).trans (Q1 w _ _)
  have J:=(Zl w _ _).thn hw
  have e0:=kD J N d0;have e1:=kD J N d1;have e2:=kD J N d2;have e3:=kD J N d3;have e4:=kD J N d4
  have fz:=fun j=>Qg _ _ j _ _ G
  have rr:=fun j=>Qk _ _ j _ _ _ G
  obtain ⟨f0,f1,f2,f3,f4,f5,f6,f7,f8,f9,aC,aD⟩:=P5 fz
  obtain ⟨r0,r1,r2,r3,r4,r5,r6,r7,r8,r9,U,V⟩:=P5 rr
  simp only [Qa,Qb,Qc] at r0 r1 r2 r3 r4 r5 r6 r7 r8 r9 U V
  have Z:=Qq J;have aB:=Qq G
  clear fz rr G hw J d0 d1 d2 d3 d4
  go_wp2_with fail
  obtain ⟨W,Y⟩:=eX (Y8 w5 (w+1) code Oo x.kind x.n x.s (.slice p3 x.names.length k3) (.slice p4 x.kids.length k4) On On Oo Ot Ot)
  have q:∀ j,W.cell? ⟨w+1,j,none⟩=#[.int .i64 code,.string ⟨#[]⟩,.int .i64 x.kind,.int .i64 x.n,.string ⟨x.s.toArray⟩,.slice p3 x.names.length k3,.slice p4 x.kids.length k4,.int .i64 0,.int .i64 0,.string ⟨#[]⟩,.slice none 0 0,.slice none 0 0][j]?:=fun j=>by rw [<- Y];exact Y4 aB.out j
  have aA:∀ b,b<w.heap.size->W.heap[b]?=w5.heap[b]?:=fun b hb=>by rw [<- Y];exact Y9 Oa
  have I:Below w w W:=by rw [<- Y];exact Yq Z.out Oa
  show bodyPost _ _ _ _ _ (Y8 w5 (w+1) code Oo x.kind x.n x.s (.slice p3 x.names.length k3) (.slice p4 x.kids.length k4) On On Oo Ot Ot)
  rw [Y]
  have L:=Qq I;have aG:=Qq aA
  obtain ⟨q0,q1,q2,q3,q4,q5,q6,q7,q8,q9,O,T⟩:=P5 q
  simp only [Qa,Qb,Qc] at q0 q1 q2 q3 q4 q5 q6 q7 q8 q9 O T
  clear Y I aA q r0 r1 r2 r3 r4 r5 r6 r7 r8 r9 U V f0 f1 f2 f3 f4 f5 f6 f7 f8 f9 aC aD e0 e1 e2 e3 e4
  refine Q2 (v:=.agg #[code,Oo,x.kind,x.n,x.s,.slice p3 x.names.length k3,.slice p4 x.kids.length k4,On,On,Oo,Ot,Ot]) (by simp [results,results62,go_sem,q0,q1,q2,q3,q4,q5,q6,q7,q8,q9,O,T]) rfl ⟨_,rfl,?_,L.out⟩
  rw [HR.out]
  refine ⟨vcs x p3 k3 p4 k4,_,rfl,Od,?_,Yk _ _⟩
  exact Z5.move (S':=S0) bM.out (fun b hb bV=>(aG.out b hb.2).trans (Z.out.block b bV)) (fun _ _ h=>h.1)
def Vl (s:Sc) (l:List Rel) (rows:List Val):List Rf->Ft
 | []=>Ft.zero
 | r::rs=>if (Ul 12 (Hj s l r) rows).code=0 then Vl s l rows rs else Ul 12 (Hj s l r) rows
theorem heap4 (w:World) (A B C D:Obj):((((w.alloc A).alloc B).alloc C).alloc D).heap[w.heap.size]?=some A/\((((w.alloc A).alloc B).alloc C).alloc D).heap[w.heap.size+1]?=some B /\
  ((((w.alloc A).alloc B).alloc C).alloc D).heap[w.heap.size+1+1]?=some C/\((((w.alloc A).alloc B).alloc C).alloc D).heap[w.heap.size+1+1+1]?=some D:=by
 have e3:(((w.alloc A).alloc B).alloc C).heap.size=w.heap.size+1+1+1:=Od
 have G:=Zb (((w.alloc A).alloc B).alloc C) D
 refine ⟨(G.block _ (by simp;omega)).trans ?_,kE G Od (Vz _ _ _ _),kE G Od (Z9 _ _ _ _),by rw [<- e3];exact Qw _ _⟩
 exact ((Zb ((w.alloc A).alloc B) C).block _ (by simp;omega)).trans (Q0 _ _ _)
theorem bal4 (w:World) (A B C D:Obj):Below w w ((((w.alloc A).alloc B).alloc C).alloc D):=(Yr w A B C).alloc (Yr w A B C).size _
theorem L0 (S0 S1 S2 S3:Nat->Prop) (s:Sc) (cs:List Value) (lv:Value) (l:List Rel) (t:Tbl) (ct:List Value) (rv:Value) (rows:List Val) (w:World) (hs0:Ug S0 w cs s) (hl0:Sl Yd S1 w lv l) (ht0:Zg.R S2 w ct t) (hr0:Sl Zc S3 w rv rows) (hkl:∀ t ∈ s.tables,t.key.length<=1000):
  Calls prog 68 #[cs,lv,ct,rv] w (Gq S3 w (Vl s l rows t.refs)):=by
 have ht:Zg.R (fun b=>b<w) w ct t:=Zg.mono ht0 (fun b hb _=>hb)
 have hr:=hr0.up
 obtain ⟨HS,HL,cS,cP⟩:=Py hs0 hl0 hr hkl
 obtain ⟨uv,tv,rfl,hu,bR⟩:=hs0
 obtain ⟨up,uc,rfl,_⟩:=hu.len
 obtain ⟨tp,tc,rfl,_⟩:=bR.len
 obtain ⟨lp,lc,rfl,eR⟩:=hl0.len
 obtain ⟨rp,rc,rfl,_⟩:=hr.len
 obtain ⟨cX,cW,dL,dK,eD,eC,k9,eE,n9,eF,dP,dM,cT,dQ,dN,cU,dR,dO,cV,a9,z9,Z,_,_,_,aI,_⟩:=Zr ht
 simp only [tcs] at Z
 subst Z
 have hn:t.refs.length<=1000000:=by obtain ⟨_,_,_,h⟩:=aI.len;exact h
 obtain ⟨n,aH⟩:=eX (t.refs.length)
 obtain ⟨res,aA⟩:=eX (Vl s l rows t.refs)
 have bF:=Qq aA;have HN:=Qq aH
 rw [aA,aH]
 rw [aH] at hn aI
 have cR:=Qq aI
 clear hl0 ht ht0 hr hr0 hu bR aI aA hkl aH
 go_enter func68,ntmps68
 go_upto_region 1 with fail
 generalize aO:(((w.alloc _).alloc _).alloc _).alloc _=w4
 have bL:Below w w w4:=by rw [<- aO];exact bal4 _ _ _ _ _
 obtain ⟨h0,h1,h2,h3⟩:w4.heap[w.heap.size]?=some (.cells #[.slice up s.sums.length uc,.slice tp s.tables.length tc] 27 (0,0))/\w4.heap[w.heap.size+1]?=some (.cells #[.slice lp l.length lc] 29 (0,0))/\w4.heap[w.heap.size+1+1]?=some (.cells #[t.name,.slice cX t.columns.length cW,.slice dL t.key.length dK,.slice eD n eC,k9,.string eE,n9,.string eF,.slice dP dM cT,.slice dQ dN cU,.slice dR dO cV,a9,z9] 61 (0,0)) /\
   w4.heap[w.heap.size+1+1+1]?=some (.cells zF 69 (0,0)):=by rw [<- aO];exact heap4 _ _ _ _ _
 have c3:=rA3 h2
 obtain ⟨H0,H1,H3,cM⟩:=Py h0 h1 h3 bL
 clear h0 h1 h2 h3 aO bL
 go_wp2_with fail
 go_loopw [15] (fun i wr=>∃ k:Nat,k<=n/\i=.int .i64 k/\Aside (Vl s l rows (t.refs.drop k)=res)/\Below w4 w4 wr) (fun i _=>n - (intOf i).toNat)
 case atStart=>exact ⟨0,Q3 _,rfl,bF.out,Qz _ _⟩
 obtain ⟨k,eQ,rfl,hE,L⟩:=hrel
 have cO:=Qq L
 have bH:=kB L H0.out
 have bI:=kB L H1.out
 have bJ:=kB L H3.out
 obtain ⟨aV,aW,O⟩:=Px bH bI bJ
 have aL:=Qq (cM.out.thn L)
 clear L bH bI bJ
 by_cases hlt:k<n
 ·have eO:(0:Int)<=(k:Int):=Oa
  have eP:(k:Int)<(n:Int):=Oa
  have aG:k<t.refs.length:=by rw [HN.out];exact hlt
  obtain ⟨r,hx⟩:∃ r,t.refs[k]?=some r:=⟨_,Qx aG⟩
  have bN:t.refs.drop k=r::t.refs.drop (k+1):=by rw [Qi aG];rw [Qx aG] at hx;cases hx;rfl
  have bK:(if (Ul 12 (Hj s l r) rows).code=0 then Vl s l rows (t.refs.drop (k+1)) else Ul 12 (Hj s l r) rows)=res:=by have:=hE.out;rw [bN] at this;exact this
  obtain ⟨ba,oa,cx,dH,eK,-,-,dI,aR⟩:=(cR.out.below aL.out).elem hx
  obtain ⟨bM,dE,dJ⟩:=dI
  subst bM
  have d0:=aR 0 _ rfl;have d1:=aR 1 _ rfl
  simp only [show Dz.k=2 from rfl,Nat.add_zero] at d0 d1
  unfold sv at d0 d1
  have U:=Qq bK
  subst dH
  clear hE bK bN aG hx aR dE dJ
  go_upto_region 4 with fail
  generalize aP:wr.alloc _=w5
  have M:=eqB aP (Zb _ _)
  have h5:=eqH (b:=wr.heap.size) aP (Qw _ _)
  have g0:=kB M aV.out
  have g1:=kB M aW.out
  have g3:=kB M O.out
  have G:=aL.out.thn M
  have J:=Qq (B5 12 120 #[Om wr,Om w,Om (w+1)] (enters_of func120 Og rfl) (fun b=>S3 b/\b<w) (.slice rp rows.length rc) rows (Hj s l r) w5 (cS.out.below G)
   (Nc wr w.heap.size (w+1) _ S0 S1 s _ _ _ l r rows w5 (Qk _ _ 0 _ _ _ h5) (Qk _ _ 1 _ _ _ h5) (Qk _ _ 0 _ _ _ g0) (Qk _ _ 1 _ _ _ g0) (Qk _ _ 0 _ _ _ g1) (HS.out.below G) (HL.out.below G) cP.out))
  obtain ⟨f,hf⟩:=eX (Ul 12 (Hj s l r) rows)
  rw [hf] at J U
  obtain ⟨G3,aY,aJ⟩:=Px g3 G (cO.out.thn M)
  clear hf aP M h5 g0 g1 g3 G d0 d1
  go_wp2_with fail
  refine J.out.mono ?_
  rintro e w6 ⟨eJ,rfl,bO,aF⟩
  obtain ⟨p3,k3,p4,k4,q3,l3,q4,l4,Z,dF,bQ,bP⟩:=Va bO
  simp only [fcs] at Z
  subst Z
  have bE:=Qq (kB aF G3.out)
  have aZ:=Qq (aY.out.thn aF);have aK:=Qq (aJ.out.thn aF)
  have bC:=Qq bQ;have bA:=Qq bP
  clear bO aF bQ bP
  go_upto_region 5 with fail
  generalize aQ:w6.alloc _=w7
  have N:=eqB aQ (Zb _ _)
  have h7:=eqH (b:=w6.heap.size) aQ (Qw _ _)
  have aN:=Qq (kB N bE.out)
  have cN:=Qq (aZ.out.thn N);have aX:=Qq (aK.out.thn N)
  have bD:=Qq (Z5.move bC.out (.of_below N) P8);have bB:=Qq (Z5.move bA.out (.of_below N) P8)
  have xx:=fun j=>Qk _ _ j _ _ _ h7
  obtain ⟨cB,x1,x2,x3,x4,x5,x6,x7,x8,x9,eH,eI⟩:=P5 xx
  simp only [Qa,Qb,Qc] at cB x1 x2 x3 x4 x5 x6 x7 x8 x9 eH eI
  clear aQ N h7 xx bE aZ aK bC bA J G3 aY aJ aV aW O
  by_cases hc:f.code=0
  ·have aM:=Qq (show Vl s l rows (t.refs.drop (k+1))=res by have:=U.out;rw [if_pos hc] at this;exact this)
   rw [hc] at cB
   clear U
   go_wp2_with fail
   go_roundw
   case measure=>simp [intOf];omega
   case rel=>exact ⟨k+1,Oa,by go_num,aM.out,aX.out⟩
  have aM:=Qq (show f=res by have:=U.out;rw [if_neg hc] at this;exact this)
  have eL:(f.code != 0)=true:=by simpa using hc
  have eM:decide (f.code=0)=false:=by simpa using hc
  have eN:(f.code==0)=false:=by simpa using hc
  clear U
  have fz:=fun j=>Qg _ _ j _ _ aN.out
  have rr:=fun j=>Qk _ _ j _ _ _ aN.out
  obtain ⟨f0,f1,f2,f3,f4,f5,f6,f7,f8,f9,dA,dB⟩:=P5 fz
  obtain ⟨r0,r1,r2,r3,r4,r5,r6,r7,r8,r9,aS,aT⟩:=P5 rr
  simp only [Qa,Qb,Qc] at r0 r1 r2 r3 r4 r5 r6 r7 r8 r9 aS aT
  clear fz rr
  go_wp2_with fail
  obtain ⟨W,Y⟩:=eX (Y8 w7 (w+1+1+1) f.code f.table f.row.kind f.row.n f.row.s (.slice p3 f.row.names.length k3) (.slice p4 f.row.kids.length k4) f.other.kind f.other.n f.other.s (.slice q3 f.other.names.length l3) (.slice q4 f.other.kids.length l4))
  have q:∀ j,W.cell? ⟨w+1+1+1,j,none⟩=#[.int .i64 f.code,.string ⟨f.table.toArray⟩,.int .i64 f.row.kind,.int .i64 f.row.n,.string ⟨f.row.s.toArray⟩,.slice p3 f.row.names.length k3,.slice p4 f.row.kids.length k4,.int .i64 f.other.kind,.int .i64 f.other.n,.string ⟨f.other.s.toArray⟩,.slice q3 f.other.names.length l3,.slice q4 f.other.kids.length l4][j]?:=fun j=>by rw [<- Y];exact Y4 aN.out j
  have I:∀ b,b≠w.heap.size+1+1+1->W.heap[b]?=w7.heap[b]?:=fun b hb=>by rw [<- Y];exact Y9 hb
  have D:Below w w W:=by rw [<- Y];exact Yq cN.out Oa
  show bodyPost _ _ _ _ _ (Y8 w7 (w+1+1+1) f.code f.table f.row.kind f.row.n f.row.s (.slice p3 f.row.names.length k3) (.slice p4 f.row.kids.length k4) f.other.kind f.other.n f.other.s (.slice q3 f.other.names.length l3) (.slice q4 f.other.kids.length l4))
  rw [Y]
  have T:=Qq D;have V:=Qq I
  obtain ⟨q0,q1,q2,aD,aE,q5,q6,q7,q8,q9,aB,aC⟩:=P5 q
  simp only [Qa,Qb,Qc] at q0 q1 q2 aD aE q5 q6 q7 q8 q9 aB aC
  clear Y D q I
  refine Q2 (v:=.agg (Pz f.code f.table f.row p3 k3 p4 k4 f.other q3 l3 q4 l4)) (by simp [results,results68,go_sem,q0,q1,q2,aD,aE,q5,q6,q7,q8,q9,aB,aC]) rfl ⟨_,rfl,?_,T.out⟩
  rw [<- aM.out]
  exact ⟨_,_,rfl,dF,Z5.move bD.out (fun b hb _=>V.out b (by have:b<w.heap.size:=hb.2;omega)) (fun _ _ h=>h.1),Z5.move bB.out (fun b hb _=>V.out b (by have:b<w.heap.size:=hb.2;omega)) (fun _ _ h=>h.1)⟩
 have hr0:res=Ft.zero:=by
  have:=hE.out
  rw [Qo (by rw [HN.out];omega)] at this
  exact this.symm
 have hd:decide ((k:Int)<(n:Int))=false:=by simpa using hlt
 have cQ:=Qq hr0
 have fz:=fun j=>Qg _ _ j _ _ O.out
 have rr:=fun j=>Qk _ _ j _ _ _ O.out
 obtain ⟨f0,f1,f2,f3,f4,f5,f6,f7,f8,f9,dA,dB⟩:=P5 fz
 obtain ⟨r0,r1,r2,r3,r4,r5,r6,r7,r8,r9,aS,aT⟩:=P5 rr
 simp only [Qa,Qb,Qc] at r0 r1 r2 r3 r4 r5 r6 r7 r8 r9 aS aT
 clear fz rr hE hr0
 go_wp2_with fail
 obtain ⟨W,Y⟩:=eX (Y8 wr (w+1+1+1) On Oo On On Oo Ot Ot On On Oo Ot Ot)
 have q:∀ j,W.cell? ⟨w+1+1+1,j,none⟩=zF[j]?:=fun j=>by rw [<- Y];exact Y4 O.out j
 have I:∀ b,b≠w.heap.size+1+1+1->W.heap[b]?=wr.heap[b]?:=fun b hb=>by rw [<- Y];exact Y9 hb
 have D:Below w w W:=by rw [<- Y];exact Yq aL.out Oa
 show bodyPost _ _ _ _ _ (Y8 wr (w+1+1+1) On Oo On On Oo Ot Ot On On Oo Ot Ot)
 rw [Y]
 have T:=Qq D;have V:=Qq I
 obtain ⟨q0,q1,q2,aD,aE,q5,q6,q7,q8,q9,aB,aC⟩:=P5 q
 simp only [Qa,Qb,Qc] at q0 q1 q2 aD aE q5 q6 q7 q8 q9 aB aC
 clear Y D q I
 refine Q2 (v:=.agg zF) (by simp [results,results68,go_sem,q0,q1,q2,aD,aE,q5,q6,q7,q8,q9,aB,aC]) rfl ⟨[On,Oo,On,On,Oo,Ot,Ot,On,On,Oo,Ot,Ot],rfl,?_,T.out⟩
 rw [cQ.out]
 exact U1 _ _
theorem L7 (us:List Sm) (B Y:Nat) (S:Nat->Prop) (ps:Option Addr) (ns nc:Nat) (T:Ty) (cty:List Value) (rows:List Val) (p:Val->Bool) (w:World) (hB0:w.cell? ⟨B,0,none⟩=some (.slice ps ns nc)) (hct:∀ j u,cty[j]?=some u->w.cell? ⟨Y,j,none⟩=some u) (hYl:Y<w)
  (hsm:Sl Vi S w (.slice ps ns nc) us) (hty:Y6 S w cty T) (hp:∀ x ∈ rows,Vj x/\Us us x T (p x)) (hK:X7 w):Xo prog 63 #[Om B,Om Y] Zc S rows p w:=by
 intro W x cs hb J I
 have D:=hty.move (.of_below hb) P8
 have HC:=Qq (fun W' (h':Below W W W')=>hasGood us x T (p x) (hp x J).1 (hp x J).2 S S S cs cty ps ns nc W' ((hsm.below hb).below h') (Z5.move (show Z5 S W cs x from I) (.of_below h') P8) (D.move (.of_below h') P8) ((hK.below hb).below h'))
 obtain ⟨k,s,n,names,kids⟩:=T
 obtain ⟨y3,m3,y4,m4,rfl,_⟩:=D.cells'
 obtain ⟨p3,k3,p4,k4,G,_⟩:=Z5.cells (show Z5 S W cs x from I)
 simp only [vcs] at G
 subst G
 have b0:=kC hb hB0
 have d:=fun j u hj=>(hb.cell (p:=⟨Y,j,none⟩) hYl).trans (hct j u hj)
 have d0:=d 0 _ rfl
 have d1:=d 1 _ rfl
 have d2:=d 2 _ rfl
 have d3:=d 3 _ rfl
 have d4:=d 4 _ rfl
 have M:Y<W.heap.size:=Qv W _ d0
 have L:B<W.heap.size:=Qv W _ b0
 show Calls prog 63 #[.agg (Ou x p3 k3 p4 k4),Om B,Om Y] W (fun e w'=>e=.returned (.bool (p x))/\Below W W w')
 generalize p x=b at HC |-
 clear d hct hty hb J I D hp hB0 hK hsm
 go_enter func63,ntmps63
 go_wp2_with (go_at_call 64;refine (HC.out _ (Zb _ _)).mono ?_;rintro e w' ⟨rfl,hw⟩)
 go_ret
 exact ⟨rfl,(Zb _ _).thn hw⟩
theorem rop_err (env:List (Bs × Val)) (l:Nat) (x y:Ex) (c:Int) (hA:Uf env [x,y] l (.error c)):ROpO (Gen.op [60] [x,y]) env l (.error c):=by
 intro S0 S1 g ms ev cs w aE Z T U hM
 have hx:Yj (fun b=>S0 b/\b<w) w cs _:=aE.move (.refl _ _) (fun b hb h=>⟨h,hb⟩)
 have he:=Z.up
 have HN:=Qq (fun W (hb:Below w w W)=>K9 g l W (hM.below hb))
 have aJ:=hM.lt
 obtain ⟨nv,bv,kv,rfl,_,_,aC,V,M⟩:=Yz.1 hx
 have aG:=Qq (fun W (hb:Below w w W)=>Fq _ _ g ms _ _ [x,y] env l _ W (M.below hb) (he.below hb) (fun b h=>T b h.1) (fun b h=>U b h.1) (hM.below hb) hA)
 obtain ⟨np,nc,rfl,_⟩:=aC.len
 obtain ⟨bp,bc,rfl,_⟩:=V.len
 obtain ⟨kp,kc,rfl,aK⟩:=M.len
 obtain ⟨p,cap,rfl,hl⟩:=he.len
 clear hx he aE Z T U hM aC V M hA
 unfold sv
 go_enter func170,ntmps170
 go_upto_region 1 with fail
 generalize G:(w.alloc _).alloc _=w2
 have L:=eqB G (Zl _ _ _)
 have D:=eqH (b:=w.heap.size) G (Q0 _ _ _)
 have I:=eqH (b:=w.heap.size+1) G (Q1 _ _ _)
 have c0:=rA0 D;have c1:=rA1 D;have c2:=rA2 D;have c3:=rA3 D;have c4:=rA4 D;have c5:=rA5 D;have c6:=rA6 D
 obtain ⟨H1,H2,HB⟩:=Px D I L
 have aA:=Z3 I
 have HW:=Qq (Z6.of_below (B:=g) L Oa:Z6 (fun b=>b=g) g w w2)
 clear D I L G c0 c2 c3 c4 c5
 go_upto_region 6 with (go_at_call 166;refine (HN.out _ HB.out).mono ?_;rintro e w' ⟨rfl,rfl⟩)
 go_upto_region 7 with (go_at_call 223;refine (aG.out _ HB.out).mono ?_;rintro e w4 ⟨ap,an,ac,rfl,⟨kf,aB⟩,Y,aD⟩;obtain ⟨N,O,J⟩:=Px aB aD Y;clear aB aD Y)
 have m4:=rA4 N.out.1
 have hq:(c==0)=false:=by simpa using J.out
 have aL:(c != 0)=true:=by simpa using J.out
 have I:=(O.out.keep _ aA (by show w+1≠g;omega)).trans H2.out
 have aH:=Qq I
 obtain ⟨r0,r1,r2,r3,r4⟩:=row5 I
 obtain ⟨f0,f1,f2,f3,f4⟩:=frz5 I
 clear I
 go_wp2_with fail
 show bodyPost _ _ _ _ _ (Zn w4 (w+1) On On Oo Ot Ot)
 obtain ⟨hm,hs⟩:=Kx (R:=w.heap.size+1) (a0:=.int .i64 0) (a1:=.int .i64 0) (a2:=.string ⟨#[]⟩) (a3:=.slice none 0 0) (a4:=.slice none 0 0) Oa N.out (HW.out.trans O.out) aJ
 exact Q2 (v:=Pn) (by simp [results,results170,go_sem,Z8 aH.out]) rfl ⟨rfl,⟨kf,hm⟩,J.out,hs⟩
theorem rop_less (env:List (Bs × Val)) (l:Nat) (x y:Ex) (j:Nat) (u v:Val) (hA:Uf env [x,y] l (.ok ([u,v],j))):ROpO (Gen.op [60] [x,y]) env l (.ok (Yb (decide (Zt u v<0)),j)):=by
 obtain ⟨c,hc⟩:=eX (Zt u v)
 obtain ⟨r,hr⟩:=eX (Yb (decide (c<0)))
 rw [hc,hr]
 have HC:=Qq hc;have bH:=Qq hr
 clear hc hr
 intro S0 S1 g ms ev cs w aU aO aJ aK hM
 have hx:Yj (fun b=>S0 b/\b<w) w cs _:=aU.move (.refl _ _) (fun b hb h=>⟨h,hb⟩)
 have he:=aO.up
 have HN:=Qq (fun W (hb:Below w w W)=>K9 g l W (hM.below hb))
 have bM:=hM.lt
 obtain ⟨nv,bv,kv,rfl,_,_,aQ,aM,Z⟩:=Yz.1 hx
 have bD:=Qq (fun W (hb:Below w w W)=>Fq _ _ g ms _ _ [x,y] env l _ W (Z.below hb) (he.below hb) (fun b h=>aJ b h.1) (fun b h=>aK b h.1) (hM.below hb) hA)
 obtain ⟨np,nc,rfl,_⟩:=aQ.len
 obtain ⟨bp,bc,rfl,_⟩:=aM.len
 obtain ⟨kp,kc,rfl,bP⟩:=Z.len
 obtain ⟨p,cap,rfl,hl⟩:=he.len
 clear hx he aU aO aJ aK hM aQ aM Z hA
 unfold sv
 go_enter func170,ntmps170
 go_upto_region 1 with fail
 generalize L:(w.alloc _).alloc _=w2
 have Y:=eqB L (Zl _ _ _)
 have G:=eqH (b:=w.heap.size) L (Q0 _ _ _)
 have h2:=eqH (b:=w.heap.size+1) L (Q1 _ _ _)
 have c0:=rA0 G;have c1:=rA1 G;have c2:=rA2 G;have c3:=rA3 G;have c4:=rA4 G;have c5:=rA5 G;have c6:=rA6 G
 obtain ⟨H1,H2,HB⟩:=Px G h2 Y
 have T:=Z3 h2
 have HW:=Qq (Z6.of_below (B:=g) Y Oa:Z6 (fun b=>b=g) g w w2)
 clear G h2 Y L c0 c2 c3 c4 c5
 go_upto_region 6 with (go_at_call 166;refine (HN.out _ HB.out).mono ?_;rintro e w' ⟨rfl,rfl⟩)
 go_upto_region 7 with (go_at_call 223;refine (bD.out _ HB.out).mono ?_;rintro e w4 ⟨ap,ac,css,rfl,hO,aP,aS⟩;obtain ⟨bF,aD,I⟩:=Px hO aP aS;clear hO aP aS)
 have m4:=rA4 aD.out.1
 have aA:=bF.out.sl (S':=fun _=>True) Od (fun _ _=>trivial) (fun _ _ _=>trivial)
 obtain ⟨ub,uo,p3,k3,p4,k4,rfl,bR,hu,u0,u1,u2,u3,u4⟩:=aA.val (i:=0) (x:=u) rfl
 obtain ⟨vb,vo,q3,l3,q4,l4,aT,bS,hv,v0,v1,v2,v3,v4⟩:=aA.val (i:=1) (x:=v) rfl
 obtain ⟨rfl,rfl,-⟩:ub=vb/\uo=vo/\True:=by simpa using aT
 have G:=(I.out.keep _ (Z3 H1.out) (by show w≠g;omega)).trans H1.out
 have h2:=(I.out.keep _ T (by show w+1≠g;omega)).trans H2.out
 obtain ⟨bB,bC,HU,HV⟩:=Py G h2 hu hv
 simp only [Nat.zero_mul,Nat.one_mul,Nat.add_zero] at u0 u1 u2 u3 u4 v0 v1 v2 v3 v4
 have bT:=I.out.size
 clear aA hu hv G h2 c1 c6 aT
 go_upto_region 11 with fail
 generalize M:World.alloc (World.alloc w4 _) _=w6
 have D:=eqB M (Zl _ _ _)
 have aH:=eqH (b:=w4.heap.size) M (Q0 _ _ _)
 have aI:=eqH (b:=w4.heap.size+1) M (Q1 _ _ _)
 have aF:=kB D bB.out
 have aG:=kB D bC.out
 have aE:=Qq aG;have bE:=Qq D
 have HL:=Qq (Hr _ _ u v _ _ w6 (HU.out.move (.of_below D) P8) (HV.out.move (.of_below D) P8))
 rw [HC.out,bH.out] at HL
 have e1:=rA1 aF
 obtain ⟨a0,a1,a2,a3,a4⟩:=row5 aH
 obtain ⟨b0,b1,b2,b3,b4⟩:=row5 aI
 clear D aH aI aF aG M u0 u1 u2 u3 u4 v0 v1 v2 v3 v4 m4
 go_upto_region 12 with (go_at_call 228;refine HL.out.mono ?_;rintro e w7 ⟨bQ,rfl,aB,aL⟩;obtain ⟨aY,aW,aZ,aX,aN,_⟩:=Z5.cells aB;simp only [vcs] at aN;subst aN;have bI:=Qq aB;have U:=Qq aL;clear aB aL)
 generalize V:World.alloc w7 _=w8
 have N:=eqB V (Zb _ _)
 have aV:=eqH (b:=w7.heap.size) V (Qw _ _)
 have J:=kE N (Q5 (Z3 aE.out) U.out.size) (kB U.out aE.out)
 have bG:=Qq J
 have O:=Qq (bE.out.thn (U.out.thn N))
 have bJ:=Qq (bI.out.move (S':=fun _=>False) (.of_below N) P8)
 obtain ⟨x0,x1,x2,x3,x4⟩:=row5 aV
 obtain ⟨r0,r1,r2,r3,r4⟩:=row5 J
 obtain ⟨f0,f1,f2,f3,f4⟩:=frz5 J
 clear N aV J V a0 a1 a2 a3 a4 b0 b1 b2 b3 b4 e1
 go_wp2_with fail
 show bodyPost _ _ _ _ _ (Pk w8 (w+1) r aY aW aZ aX)
 have aR:Z6 (fun b=>b=g) g w2 w8:=I.out.trans (Z6.of_below O.out Oa)
 exact Q2 (v:=.agg (Ou r aY aW aZ aX)) (by simp [results,results170,go_sem,Z8 bG.out]) rfl ⟨_,rfl,Jl (S':=fun _=>False) Oa T HW.out (fun b h=>h.elim) (bJ.out.move (.refl _ _) (fun _ _ h=>h.elim)) (aD.out.below O.out) aR bM⟩
theorem Jd:∀ S w cs x,Zs.R S w cs x->∀ u ∈ cs,u.oneCell'=true:=by
 rintro S w cs x ⟨vs,rfl,_,h⟩ u hu
 obtain ⟨p3,k3,p4,k4,rfl,_⟩:=Z5.cells h
 simp only [vcs,Zy,Zx,or_false] at hu
 rcases hu with rfl | rfl | rfl | rfl | rfl | rfl <;> rfl
theorem rsl_bnd1 {S:Nat->Prop} {w:World} {b:Nat} {x:Bs} {v:Val} {p3 p4:Option Addr} {k3 k4:Nat} (hb:w.heap[b]?=some (.cells #[x,v.kind,v.n,v.s,.slice p3 v.names.length k3,.slice p4 v.kids.length k4] 163 (0,0))) (hS:S b) (hl:x.length<=1000000)
  (hv:Z5 S w (vcs v p3 k3 p4 k4) v):Sl Zs S w (.slice (some ⟨b,0,none⟩) 1 1) [(x,v)]:=
 Y2 hb hS (Cs.one (r:=Zs) (show Zs.R S w _ (x,v) from ⟨_,rfl,hl,hv⟩)) rfl rfl Od
def RWithIs (w:World) (n:Nat) (env:List (Bs × Val)) (e:Ending) (w':World):Prop:=∃ p cap,e=.returned (.slice p n cap)/\Sl Zs (fun _=>True) w' (.slice p n cap) env/\Below w w w'
theorem Lj (S S':Nat->Prop) (ev:Value) (env:List (Bs × Val)) (n:Nat) (nm:Bs) (v:Val) (cs:List Value) (w:World) (he:Sl Zs S w ev env) (hn:env.length=n) (hv:Z5 S' w cs v) (hl:n<=1000) (hnm:nm.length<=1000000):
  Calls prog 56 #[ev,nm,cs] w (RWithIs w (n+1) (env++[(nm,v)])):=by
 obtain ⟨i0,j1,j2,j3,j4⟩:=Y3 (P:=prog) (t:=163) (z:=.agg #[Oo,On,On,Oo,Ot,Ot]) (n:=6) (b:=96) Og
 obtain ⟨HJ,T,U,V⟩:=Py j1 j2 j3 j4
 clear j1 j2 j3 j4
 obtain ⟨p,cap,rfl,_⟩:=he.len
 have aB:Z5 (fun b=>b<w) w cs v:=hv.move (.refl _ _) (fun b hb _=>hb)
 obtain ⟨q3,l3,q4,l4,aO,_⟩:=Z5.cells aB
 simp only [vcs] at aO
 subst aO
 rw [hn] at he |-
 obtain ⟨HE,HV,HN⟩:=Px (he.mono (S':=fun _=>True) (fun _ _ _=>trivial)) aB hn
 clear he hv aB hn
 go_enter func56,ntmps56
 go_upto_region 2 with fail
 generalize aA:World.alloc w _=D
 have O:=eqB aA (Zb _ _)
 have Y:=eqH (b:=w.heap.size) aA (Qw _ _)
 have H1:=Qq Y;have aW:=Qq O
 have bE:=O.size
 have bH:=Z3 Y
 refine let_mvar% ?Lq1:=fun w':World=>(Pa w' w v.kind v.n v.s (.slice q3 v.names.length l3) (.slice q4 v.kids.length l4) (Below D D w'):Prop);?_
 have I:=Qq (fun w' (h:Below D D w')=>(show ?Lq1 w' from ⟨(Qk _ _ 0 _ _ _ (kB h Y)).trans rfl,(Qk _ _ 1 _ _ _ (kB h Y)).trans rfl,(Qk _ _ 2 _ _ _ (kB h Y)).trans rfl,(Qk _ _ 3 _ _ _ (kB h Y)).trans rfl,(Qk _ _ 4 _ _ _ (kB h Y)).trans rfl,h⟩))
 have aV:=Qq (fun w' o (h:?Lq1 w')=>I.out (w'.alloc o) (h.2.2.2.2.2.alloc h.2.2.2.2.2.size o))
 have aZ:=Qq (I.out D.drew (Qz _ _).drew)
 have bA:=Qq (fun o=>I.out (D.alloc o).drew (Zb D o).drew)
 have aH:=Qq (show Below D D D.drew from (Qz _ _).drew)
 have aI:=Qq (show Below D D (D.alloc (.cells #[nm,v.kind,v.n,v.s,.slice q3 v.names.length l3,.slice q4 v.kids.length l4] 163 (0,0))).drew from (Zb _ _).drew)
 have aN:=Qq (fun w' (h:Below D D w')=>(HE.out.below (O.thn h)).mono (S':=But (fun _=>True) (.slice none 0 0)) (fun b _ _=>⟨trivial,fun e=>by cases e⟩))
 have aJ:=Qq (fun (w':World) (s:Value) (b:Nat) (hb:w'.heap[b]?=some (.cells #[nm,v.kind,v.n,v.s,.slice q3 v.names.length l3,.slice q4 v.kids.length l4] 163 (0,0))) (hbw:Below D D w') (hs:some b≠s.ownBlock) (hso:∀ g,s.ownBlock=some g->D.heap.size<=g)=>rsl_bnd1 (S:=But (fun _=>True) s) hb ⟨trivial,hs⟩ hnm (HV.out.move (.of_below (O.thn hbw)) (fun b hb h=>⟨trivial,fun e=>by have:=hso b e.symm;have h':b<w.heap.size:=h;omega⟩)))
 have aP:0+env.length=n:=by rw [HN.out];omega
 have aQ:n+[(nm,v)].length=n+1:=rfl
 have aL:=Qq aP;have aM:=Qq aQ
 clear O Y aA aP aQ hnm
 go_region_held3 ?Lq1 (first | with_reducible exact aZ.out | with_reducible exact N | with_reducible exact bA.out _ | with_reducible exact aV.out _ _ N)
  (first
   | (refine Xj (r:=Zs) Of Jd Oe (.tmp 8) (.tmp 9) 119 Oe 163 i0 (.agg #[Oo,On,On,Oo,Ot,Ot]) 96 underlying119 HJ.out T.out U.out V.out rfl Oa (fun _=>True) D D.drew (.slice none 0 0) 0 [] Oe (Mk.nil aH.out) (.slice p n cap) env Oe (aN.out _ aH.out) n aL.out Oa ?_;intro p5 c5 w5 J M;have N:=I.out w5 J.below;have G:=Qq J;clear J M)
   | (refine Xj (r:=Zs) Of Jd Oe (.tmp 8) (.tmp 9) 119 Oe 163 i0 (.agg #[Oo,On,On,Oo,Ot,Ot]) 96 underlying119 HJ.out T.out U.out V.out rfl Oa (fun _=>True) D (D.alloc (.cells #[nm,v.kind,v.n,v.s,.slice q3 v.names.length l3,.slice q4 v.kids.length l4] 163 (0,0))).drew (.slice none 0 0) 0 [] Oe (Mk.nil aI.out) (.slice p n cap) env Oe (aN.out _ aI.out) n aL.out Oa ?_;intro p5 c5 w5 J M;have N:=I.out w5 J.below;have aY:=Qq ((M.other D Od (fun e=>by cases e)).trans (show (D.alloc (.cells #[nm,v.kind,v.n,v.s,.slice q3 v.names.length l3,.slice q4 v.kids.length l4] 163 (0,0))).heap[D.heap.size]?=_ from Qw _ _));have aX:=Qq (show some D.heap.size≠(Value.slice p5 n c5).ownBlock from fun e=>by rcases M.at' with h | ⟨g,h,h'⟩;(rw [h] at e;cases e);(rw [h] at e;have e':=Q6 e;simp at h';omega));have G:=Qq J;clear J M)
   | (refine Xj (r:=Zs) Of Jd Oe (.tmp 10) (.tmp 14) 119 Oe 163 i0 (.agg #[Oo,On,On,Oo,Ot,Ot]) 96 underlying119 HJ.out T.out U.out V.out rfl Oa (fun _=>True) D w5 (.slice p5 n c5) n ([]++env) Oe G.out (.slice (some ⟨D,0,none⟩) 1 1) [(nm,v)] Oe (aJ.out _ _ _ aY.out G.out.below aX.out (fun g e=>(G.out.lt g e).1)) (n+1) aM.out Oa ?_;intro p6 c6 w6 L Z;have N:=I.out w6 L.below;have aK:=Qq L;clear L Z)
   | (refine Xj (r:=Zs) Of Jd Oe (.tmp 10) (.tmp 14) 119 Oe 163 i0 (.agg #[Oo,On,On,Oo,Ot,Ot]) 96 underlying119 HJ.out T.out U.out V.out rfl Oa (fun _=>True) D (w5.alloc (.cells #[nm,v.kind,v.n,v.s,.slice q3 v.names.length l3,.slice q4 v.kids.length l4] 163 (0,0))) (.slice p5 n c5) n ([]++env) Oe (G.out.grow (Zb _ _)) (.slice (some ⟨w5,0,none⟩) 1 1) [(nm,v)] Oe (aJ.out _ _ _ (Qw _ _) (G.out.below.thn (Zb _ _)) (fun e=>Nat.lt_irrefl _ (G.out.lt _ e.symm).2) (fun g e=>(G.out.lt g e).1)) (n+1) aM.out Oa ?_;intro p6 c6 w6 L Z;have N:=I.out w6 L.below;have aK:=Qq L;clear L Z))
 all_goals
  go_wp2_with fail
  go_ret
  obtain ⟨bG,bC,bD,bB⟩:=aK.out
  exact ⟨p6,c6,rfl,bC.sl (S':=fun _=>True) (by rw [bD];omega) (fun _ _=>trivial) (fun _ _ _=>trivial),aW.out.trans (bB.mono bE)⟩
end Go.Proofs.YtlanplhphiikjaaGreatDoor
