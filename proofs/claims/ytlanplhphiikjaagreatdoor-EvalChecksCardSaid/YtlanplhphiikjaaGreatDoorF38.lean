import Derived.Test.YtlanplhphiikjaaGreatDoorF36
import Derived.Test.YtlanplhphiikjaaGreatDoorF35
import Derived.Test.YtlanplhphiikjaaGreatDoorF37
set_option maxRecDepth 100000
set_option maxHeartbeats 400000000
namespace Go.Proofs.YtlanplhphiikjaaGreatDoor
open Go.RowKit Go.Shelf Go.Lib Tryz
theorem con4_any (B C:Nat) (S0 S1 S2 S3:Nat->Prop) (s:Sc) (uv tv' lv:Value) (l:List Rel) (t:Tbl) (ct:List Value) (rv:Value) (rows:List Val) (w:World) (hB0:w.cell? ⟨B,0,none⟩=some uv) (hB1:w.cell? ⟨B,1,none⟩=some tv') (hC:w.cell? ⟨C,0,none⟩=some lv)
  (hs:Ug S0 w [uv,tv'] s) (hl:Sl Yd S1 w lv l) (ht:Zg.R S2 w ct t) (hr:Sl Zc S3 w rv rows) (hkl:∀ t ∈ s.tables,t.key.length<=1000):
  Calls prog 67 #[ct,rv,Om B,Om C] w (Gq S3 w (Vl s l rows t.refs)):=by
 have HU:=Qq (fun W (hb:Below w w W)=>L0 S0 S1 S2 (fun b=>S3 b/\b<w) s _ lv l t ct rv rows W (hs.below hb) (hl.below hb) (Zg.frame ht (.of_below hb)) ((hr.mono (fun b hb h=>⟨h,hb⟩)).below hb) hkl)
 obtain ⟨bR,bQ,aS,hu,aB⟩:=hs
 cases aS
 obtain ⟨up,uc,rfl,_⟩:=hu.len
 obtain ⟨tp,tc,rfl,_⟩:=aB.len
 obtain ⟨lp,lc,rfl,_⟩:=hl.len
 obtain ⟨bA,aZ,bF,bE,bN,bM,k9,bO,n9,bP,bJ,bG,aW,bK,bH,aX,bL,bI,aY,a9,z9,D,_⟩:=Zr ht
 simp only [tcs] at D
 subst D
 obtain ⟨rp,rc,rfl,_⟩:=hr.len
 obtain ⟨f,hf⟩:=eX (Vl s l rows t.refs)
 rw [hf] at HU |-
 have O:=Qv _ _ hB0
 have T:=Qv _ _ hC
 have O:B<w.heap.size:=O
 have T:C<w.heap.size:=T
 clear ht hr hf hl hu aB
 go_enter func67,ntmps67
 go_wp2_with fail
 refine (HU.out _ (Zl _ _ _)).mono ?_
 rintro e w5 ⟨bB,rfl,V,M⟩
 obtain ⟨p3,k3,p4,k4,q3,l3,q4,l4,D,Y,aA,Z⟩:=Va V
 simp only [fcs] at D
 subst D
 have L:=Qq ((M.block (w+1) Od).trans (Q1 w _ _))
 have aO:=Qq ((Zl w _ _).thn M)
 obtain ⟨aR,aQ,aP⟩:=Px aA Z Y
 have fz:=fun j=>Qg _ _ j _ _ L.out
 have rr:=fun j=>Qk _ _ j _ _ _ L.out
 obtain ⟨f0,f1,f2,f3,f4,f5,f6,f7,f8,f9,bC,bD⟩:=P5 fz
 obtain ⟨r0,r1,r2,r3,r4,r5,r6,r7,r8,r9,aT,aU⟩:=P5 rr
 simp only [Qa,Qb,Qc] at r0 r1 r2 r3 r4 r5 r6 r7 r8 r9 aT aU
 clear fz rr V M aA Z Y
 go_wp2_with fail
 obtain ⟨W,U⟩:=eX (Y8 w5 (w+1) f.code f.table f.row.kind f.row.n f.row.s (.slice p3 f.row.names.length k3) (.slice p4 f.row.kids.length k4) f.other.kind f.other.n f.other.s (.slice q3 f.other.names.length l3) (.slice q4 f.other.kids.length l4))
 have q:∀ j,W.cell? ⟨w+1,j,none⟩=#[.int .i64 f.code,.string ⟨f.table.toArray⟩,.int .i64 f.row.kind,.int .i64 f.row.n,.string ⟨f.row.s.toArray⟩,.slice p3 f.row.names.length k3,.slice p4 f.row.kids.length k4,.int .i64 f.other.kind,.int .i64 f.other.n,.string ⟨f.other.s.toArray⟩,.slice q3 f.other.names.length l3,.slice q4 f.other.kids.length l4][j]?:=fun j=>by rw [<- U];exact Y4 L.out j
 have J:∀ b,b≠w.heap.size+1->W.heap[b]?=w5.heap[b]?:=fun b hb=>by rw [<- U];exact Y9 hb
 have I:Below w w W:=by rw [<- U];exact Yq aO.out Oa
 show bodyPost _ _ _ _ _ (Y8 w5 (w+1) f.code f.table f.row.kind f.row.n f.row.s (.slice p3 f.row.names.length k3) (.slice p4 f.row.kids.length k4) f.other.kind f.other.n f.other.s (.slice q3 f.other.names.length l3) (.slice q4 f.other.kids.length l4))
 rw [U]
 have N:=Qq I;have G:=Qq J
 obtain ⟨q0,q1,q2,aE,aF,q5,q6,q7,q8,q9,aC,aD⟩:=P5 q
 simp only [Qa,Qb,Qc] at q0 q1 q2 aE aF q5 q6 q7 q8 q9 aC aD
 clear U I q J
 refine Q2 (v:=.agg (Pz f.code f.table f.row p3 k3 p4 k4 f.other q3 l3 q4 l4)) (by simp [results,results67,go_sem,q0,q1,q2,aE,aF,q5,q6,q7,q8,q9,aC,aD]) rfl ⟨_,rfl,?_,N.out⟩
 exact ⟨_,_,rfl,aP.out,Z5.move aR.out (fun b hb _=>G.out b (by have:b<w.heap.size:=hb.2;omega)) (fun _ _ h=>h.1),Z5.move aQ.out (fun b hb _=>G.out b (by have:b<w.heap.size:=hb.2;omega)) (fun _ _ h=>h.1)⟩
def Mc (t:Tbl) (v:Val) (b:Bool):Prop:=∀ (S0 S1:Nat->Prop) (ct cr:List Value) (w:World),X7 w->Zg.R S0 w ct t->Z5 S1 w cr v ->
 Calls prog 71 #[ct,cr] w fun e w'=>e=.returned (.bool b)/\Below w w w'
theorem Hk {t:Tbl} {v:Val} {b:Bool} (hs:Uz t.check=true) (he:EvV t.check (Hv v) (Yb b)) (hl:v.names.length<=v.kids.length):Mc t v b:=
 fun S0 S1 ct cr w _ ht hr=>sat_ok S0 S1 t v ct cr b w ht hr hs he hl
theorem sat2_any (X:Nat) (S:Nat->Prop) (t:Tbl) (ct:List Value) (rows:List Val) (p:Val->Bool) (w:World) (hct:∀ j u,ct[j]?=some u->w.cell? ⟨X,j,none⟩=some u) (hXl:X<w) (ht:Zg.R S w ct t) (hkw:X7 w)
  (hev:∀ x ∈ rows,Mc t x (p x)):Xo prog 70 #[Om X] Zc S rows p w:=by
 intro W x cs hb hx I
 have G:=Zg.frame ht (.of_below hb)
 have HC:=Qq (fun W' (h':Below W W W')=>hev x hx S S ct cs W' ((hkw.below hb).below h') (Zg.frame G (.of_below h')) (Z5.move (show Z5 S W cs x from I) (.of_below h') P8))
 obtain ⟨O,N,aA,Z,aI,aH,k9,aJ,n9,aK,aE,aB,J,aF,aC,L,aG,aD,M,a9,z9,D,_⟩:=Zr G
 simp only [tcs] at D
 subst D
 obtain ⟨p3,k3,p4,k4,D,_⟩:=Z5.cells (show Z5 S W cs x from I)
 simp only [vcs] at D
 subst D
 have d:=fun j u hj=>(hb.cell (p:=⟨X,j,none⟩) hXl).trans (hct j u hj)
 have d0:=d 0 _ rfl
 have d1:=d 1 _ rfl
 have d2:=d 2 _ rfl
 have d3:=d 3 _ rfl
 have d4:=d 4 _ rfl
 have d5:=d 5 _ rfl
 have d6:=d 6 _ rfl
 have d7:=d 7 _ rfl
 have d8:=d 8 _ rfl
 have d9:=d 9 _ rfl
 have T:=d 10 _ rfl
 have U:=d 11 _ rfl
 have V:=d 12 _ rfl
 have Y:X<W.heap.size:=Qv W _ d0
 show Calls prog 70 #[.agg (Ou x p3 k3 p4 k4),Om X] W (fun e w'=>e=.returned (.bool (p x))/\Below W W w')
 generalize p x=b at HC |-
 clear d hct ht hb hx I G hev hkw
 go_enter func70,ntmps70
 go_wp2_with (go_at_call 71;refine (HC.out _ (Zb _ _)).mono ?_;rintro e w' ⟨rfl,hw⟩)
 go_ret
 exact ⟨rfl,(Zb _ _).thn hw⟩
theorem con5_any (S0 S3:Nat->Prop) (t:Tbl) (ct:List Value) (rv:Value) (rows:List Val) (p:Val->Bool) (w:World) (ht:Zg.R S0 w ct t) (hr:Sl Zc S3 w rv rows) (hkw:X7 w)
  (hev:∀ x ∈ rows,Mc t x (p x)):
  Calls prog 69 #[ct,rv] w (Gq S3 w (Ul 13 p rows)):=by
 have HU:=Qq (fun W (hb:Below w w W) (hct:∀ j u,ct[j]?=some u->W.cell? ⟨w,j,none⟩=some u) (hl:w<W.heap.size)=>B5 13 70 #[Om w] (enters_of func70 Og rfl) (fun b=>S3 b/\b<w) rv rows p W ((hr.mono (fun b hb h=>⟨h,hb⟩)).below hb)
  (fun W' x cs h1 h2 h3=>sat2_any w (fun _=>True) t ct rows p W hct hl (Zg.mono (Zg.frame ht (.of_below hb)) (fun _ _ _=>trivial)) (hkw.below hb) hev W' x cs h1 h2 (Z5.move h3 (.refl _ _) (fun _ _ _=>trivial))))
 obtain ⟨aW,aV,bB,bA,bJ,bI,k9,bK,n9,bL,bF,bC,aS,bG,bD,aT,bH,bE,aU,a9,z9,D,_⟩:=Zr ht
 simp only [tcs] at D
 subst D
 obtain ⟨rp,rc,rfl,_⟩:=hr.len
 obtain ⟨f,hf⟩:=eX (Ul 13 p rows)
 rw [hf] at HU |-
 clear ht hr hf hev hkw
 go_enter func69,ntmps69
 go_wp2_with fail
 refine (HU.out _ (Zl _ _ _) (fun j u hj=>by rw [Qk _ _ j _ _ _ (Q0 w _ _)];simpa using hj) (by simp;omega)).mono ?_
 rintro e w5 ⟨aX,rfl,T,M⟩
 obtain ⟨p3,k3,p4,k4,q3,l3,q4,l4,D,U,Y,V⟩:=Va T
 simp only [fcs] at D
 subst D
 have L:=Qq ((M.block (w+1) Od).trans (Q1 w _ _))
 have aL:=Qq ((Zl w _ _).thn M)
 obtain ⟨aO,aN,aM⟩:=Px Y V U
 have fz:=fun j=>Qg _ _ j _ _ L.out
 have rr:=fun j=>Qk _ _ j _ _ _ L.out
 obtain ⟨f0,f1,f2,f3,f4,f5,f6,f7,f8,f9,aY,aZ⟩:=P5 fz
 obtain ⟨r0,r1,r2,r3,r4,r5,r6,r7,r8,r9,aP,aQ⟩:=P5 rr
 simp only [Qa,Qb,Qc] at r0 r1 r2 r3 r4 r5 r6 r7 r8 r9 aP aQ
 clear fz rr T M Y V U
 go_wp2_with fail
 obtain ⟨W,O⟩:=eX (Y8 w5 (w+1) f.code f.table f.row.kind f.row.n f.row.s (.slice p3 f.row.names.length k3) (.slice p4 f.row.kids.length k4) f.other.kind f.other.n f.other.s (.slice q3 f.other.names.length l3) (.slice q4 f.other.kids.length l4))
 have q:∀ j,W.cell? ⟨w+1,j,none⟩=#[.int .i64 f.code,.string ⟨f.table.toArray⟩,.int .i64 f.row.kind,.int .i64 f.row.n,.string ⟨f.row.s.toArray⟩,.slice p3 f.row.names.length k3,.slice p4 f.row.kids.length k4,.int .i64 f.other.kind,.int .i64 f.other.n,.string ⟨f.other.s.toArray⟩,.slice q3 f.other.names.length l3,.slice q4 f.other.kids.length l4][j]?:=fun j=>by rw [<- O];exact Y4 L.out j
 have J:∀ b,b≠w.heap.size+1->W.heap[b]?=w5.heap[b]?:=fun b hb=>by rw [<- O];exact Y9 hb
 have I:Below w w W:=by rw [<- O];exact Yq aL.out Oa
 show bodyPost _ _ _ _ _ (Y8 w5 (w+1) f.code f.table f.row.kind f.row.n f.row.s (.slice p3 f.row.names.length k3) (.slice p4 f.row.kids.length k4) f.other.kind f.other.n f.other.s (.slice q3 f.other.names.length l3) (.slice q4 f.other.kids.length l4))
 rw [O]
 have N:=Qq I;have G:=Qq J
 obtain ⟨q0,q1,q2,aB,aC,q5,q6,q7,q8,q9,Z,aA⟩:=P5 q
 simp only [Qa,Qb,Qc] at q0 q1 q2 aB aC q5 q6 q7 q8 q9 Z aA
 clear O I q J
 refine Q2 (v:=.agg (Pz f.code f.table f.row p3 k3 p4 k4 f.other q3 l3 q4 l4)) (by simp [results,results69,go_sem,q0,q1,q2,aB,aC,q5,q6,q7,q8,q9,Z,aA]) rfl ⟨_,rfl,?_,N.out⟩
 exact ⟨_,_,rfl,aM.out,Z5.move aO.out (fun b hb _=>G.out b (by have:b<w.heap.size:=hb.2;omega)) (fun _ _ h=>h.1),Z5.move aN.out (fun b hb _=>G.out b (by have:b<w.heap.size:=hb.2;omega)) (fun _ _ h=>h.1)⟩
theorem Ee (S0 S1:Nat->Prop) (t:Tbl) (row:Val) (ct cr:List Value) (r:Except Int (Val × Nat)) (w:World) (ht0:Zg.R S0 w ct t) (hr0:Z5 S1 w cr row) (hcl:t.columns.length<=100) (hev:Un t.check (Xt row t.columns) 1048576 r):
  Calls prog 24 #[ct,cr] w fun e w'=>e=.returned (.bool (Em r))/\Below w w w':=by
 have ht:Zg.R (fun b=>b<w) w ct t:=Zg.mono ht0 (fun b hb _=>hb)
 have hr:Z5 (fun b=>b<w) w cr row:=hr0.move (.refl _ _) (fun b hb _=>hb)
 obtain ⟨eE,dK,eO,eN,eW,eV,k9,eY,n9,eZ,eS,eP,eB,eT,eQ,eC,eU,eR,eD,a9,z9,D,_,aU,_,_,bV⟩:=Zr ht
 simp only [tcs] at D
 subst D
 have HG:=Qq (fun x W (hb:Below w w W)=>rget_any _ row cr x W (hr.move (.of_below hb) P8))
 obtain ⟨p3,k3,p4,k4,D,_⟩:=Z5.cells hr
 simp only [vcs] at D
 subst D
 obtain ⟨n,hn⟩:=eX (t.columns.length)
 have eK:n<=100:=by rw [<- hn];exact hcl
 obtain ⟨HC,cV,cU⟩:=Px aU bV hev
 rw [hn] at HC |-
 have HN:=Qq hn
 obtain ⟨b,bG⟩:=eX (Em r)
 rw [bG]
 have cZ:=Qq bG
 unfold sv at HG
 clear ht ht0 hr hr0 aU bV hev hn bG hcl
 go_enter func24,ntmps24
 go_upto_region 1 with fail
 generalize aP:(w.alloc _).alloc _=w2
 have T:=eqB aP (Zl _ _ _)
 have h0:=eqH (b:=w.heap.size) aP (Q0 _ _ _)
 have h1:=eqH (b:=w.heap.size+1) aP (Q1 _ _ _)
 obtain ⟨cR,H0,H1⟩:=Px T h0 h1
 have aG:=Z3 h0;have bX:=Z3 h1
 have eL:=T.size
 clear T h0 h1 aP
 go_wp2_with fail
 go_loopw [5,6] (fun o i wr=>∃ (k m:Nat) (ap:Option Addr) (ac:Nat),k<=n/\i=.int .i64 k/\o=.slice ap m ac/\(Xt row (t.columns.take k)).length=m/\m<=k/\Below w2 w2 wr/\Sl Zs (fun _=>True) wr (.slice ap m ac) (Xt row (t.columns.take k))) (fun _ i _=>n - (intOf i).toNat)
 case atStart=>exact ⟨0,0,none,0,Q3 _,rfl,rfl,rfl,Q4 _,Qz _ _,Sl.nil _ _ _⟩
 obtain ⟨k,m,ap,ac,eI,rfl,rfl,bY,eJ,Z,hO⟩:=hrel
 obtain ⟨aZ,HO,aL⟩:=Px Z hO bY
 have dV:=Z.size
 have aN:=kE Z aG H0.out
 have bE:=kE Z bX H1.out
 have aK:=Qq (cR.out.thn Z)
 have c1:=rA1 aN
 clear Z hO bY
 by_cases aF:k<n
 ·have eG:(0:Int)<=(k:Int):=Oa
  have eH:(k:Int)<(n:Int):=Oa
  obtain ⟨y0,y1,y2,y3,y4⟩:=row5 bE
  clear aN bE
  have aQ:k<t.columns.length:=by rw [HN.out];exact aF
  obtain ⟨x,hx⟩:∃ x,t.columns[k]?=some x:=⟨_,Qx aQ⟩
  have cE:t.columns.take (k+1)=t.columns.take k++[x]:=by rw [Qs aQ];rw [Qx aQ] at hx;cases hx;rfl
  obtain ⟨kb,I,cs,dS,cJ,_,_,hr,hc⟩:=HC.out.elem hx
  subst dS
  obtain ⟨dZ,rfl,cK,dT⟩:=hr
  have V:wr.cell? ⟨kb,I+k*6,none⟩=some (.string ⟨x.name.toArray⟩):=by
   have h:=(aK.out.cell (p:=⟨kb,I+k*Yy.k+0,none⟩) cJ).trans (hc 0 _ rfl)
   simpa only [show Yy.k=6 from rfl,Nat.add_zero,sv] using h
  have aV:=Qv _ _ V
  have bR:=Qq cE;have dE:=Qq cK
  clear hx cE aQ hc dT cJ cK
  obtain ⟨kc,aE⟩:=eX (dK)
  rw [aE] at c1
  have cX:=Qq aE
  clear aE
  go_upto_region 5 with fail
  obtain ⟨u,hu⟩:=eX ((Yn row x.name).getD Val.zero)
  obtain ⟨b',hb⟩:=eX ((Yn row x.name).isSome)
  have HU:=Qq hu;have aY:=Qq hb
  refine let_mvar% ?Lq1:=fun w':World=>Oi w' w 1 (Ol kb I n kc)/\Pa w' (w+1) row.kind row.n row.s (.slice p3 row.names.length k3) (.slice p4 row.kids.length k4) (Oi w' kb (I+k*6) x.name/\Below wr wr w');?_
  have HS:∀ w',Below wr wr w'->?Lq1 w':=by
   intro w' h
   have U:∀ {b j:Nat} {u:Value},b<wr->wr.cell? ⟨b,j,none⟩=some u->w'.cell? ⟨b,j,none⟩=some u:=fun aF hc=>kD h aF hc
   exact ⟨U Oa c1,U Oa y0,U Oa y1,U Oa y2,U Oa y3,U Oa y4,U aV V,h⟩
  have L:∀ w',?Lq1 w'->Below wr wr w':=fun w' h=>h.2.2.2.2.2.2.2
  have HA:∀ w' o,?Lq1 w'->?Lq1 (w'.alloc o):=fun w' o h=>HS _ ((L w' h).alloc (L w' h).size o)
  have HP:∀ w' a b c d e,?Lq1 w'->?Lq1 (Zn w' wr a b c d e):=fun w' a b c d e h=>HS _ (Z7 (L w' h) (Q4 _))
  unfold Zn at HP
  have bM:=Qq (fun W' (h':?Lq1 W')=>(HG.out x.name W' (aK.out.thn (L _ h'))).mono (R':=fun e w2=>∃ q3 m3 q4 m4,e=.returned (.tuple #[.agg (Ou u q3 m3 q4 m4),.bool b'])/\Z5 (fun b=>b<w) w2 (vcs u q3 m3 q4 m4) u/\Below W' W' w2/\?Lq1 w2) (by
   rintro e w2 ⟨dL,rfl,h3,h4⟩
   rw [HU.out] at h3
   rw [aY.out]
   obtain ⟨q3,m3,q4,m4,D,_⟩:=Z5.cells h3
   subst D
   exact ⟨q3,m3,q4,m4,rfl,h3,h4,HS _ ((L _ h').thn h4)⟩))
  obtain ⟨aM,bQ,bN,Y,aW,bO⟩:=P0 (HS wr.drew (Qz _ _).drew) (HS wr (Qz _ _)) (fun w' (h:?Lq1 w')=>HS w'.drew (L w' h).drew) L HA HP
  have cW:=Qq V
  clear HS L HA HP c1 y0 y1 y2 y3 y4 V hu hb
  go_cut [7,8] from 12 to 39 (fun t7 t8 O=>GotMid (fun b=>b<w) wr u b' t7 t8 O)
  case first=>
   go_region_held3 ?Lq1 (first | with_reducible exact aM.out | with_reducible exact M | with_reducible exact bN.out _ (aW.out _ _ bQ.out) | with_reducible exact aW.out _ _ M | with_reducible exact bO.out _ _ _ _ _ _ M)
    (first
     | (go_at_call 55;refine (bM.out _ Oh).mono ?_;rintro e w2 ⟨q3,m3,q4,m4,rfl,cF,T,M⟩;(try (have r2:w2.heap[wr.heap.size]?=some (.cells zV 48 (0,0)):=(T.block wr Od).trans (Qw wr _);obtain ⟨y0,y1,y2,y3,y4⟩:=row5 r2;obtain ⟨g0,g1,g2,g3,g4⟩:=frz5 r2;have bP:=Qq r2;clear r2));have bS:=Qq cF;have dY:=Qq T;clear cF T))
   all_goals
    go_wp2_with fail
    go_meet
    first
     | (have h9:=bP.out;clear h9;exact ⟨wr.heap.size,q3,m3,q4,m4,rfl,rfl,Xm bP.out,Z5.move bS.out (fun b hb _=>Za (by have h:b<w.heap.size:=hb;omega)) P8,Z7 (Y.out _ M) (Q4 _),Q4 _⟩)
     | exact ⟨w2.heap.size,q3,m3,q4,m4,rfl,rfl,Qw _ _,Z5.move bS.out (.of_below (Zb _ _)) P8,(Y.out _ M).thn (Zb _ _),(Y.out _ M).size⟩
  obtain ⟨G,q3,m3,q4,m4,rfl,rfl,hG,cH,aD,eF⟩:=hcut
  obtain ⟨O,rfl⟩:∃ O,O=wc:=⟨_,rfl⟩
  obtain ⟨eA,dC,aJ⟩:=Px hG cH aD
  have aC:=Z3 hG
  have eM:=aD.size
  clear bM aM bQ bN Y aW bO
  have c1:=rA1 ((kE aD (Q5 aG dV) ((aZ.out.block _ aG).trans H0.out)))
  rw [cX.out] at c1
  have V:=kD aD aV cW.out
  obtain ⟨g0,g1,g2,g3,g4⟩:=row5 hG
  clear hG cH aD
  cases b' with
  | false=>
   have bZ:Yn row x.name=none:=by have:=aY.out;cases hq:Yn row x.name with
    | none=>rfl
    | some _=>rw [hq] at this;cases this
   have N:Xt row (t.columns.take (k+1))=Xt row (t.columns.take k):=by rw [bR.out,Jy,bZ];simp
   have J:=Qq N
   clear bZ N
   go_wp2_with fail
   go_roundw
   case measure=>simp [intOf];omega
   case rel=>exact ⟨k+1,m,ap,ac,Oa,by go_num,rfl,by rw [J.out];exact aL.out,Oa,aZ.out.thn aJ.out,by rw [J.out];exact HO.out.below aJ.out⟩
  | true=>
   have cC:Yn row x.name=some u:=by
    have h1:=aY.out;have h2:=HU.out
    cases hq:Yn row x.name with
    | none=>rw [hq] at h1;cases h1
    | some u'=>rw [hq] at h2;exact congrArg some h2
   have N:Xt row (t.columns.take (k+1))=Xt row (t.columns.take k)++[(x.name,u)]:=by rw [bR.out,Jy,cC];simp
   have J:=Qq N
   clear cC N
   have dD:=Qq (fun W (hb:Below O O W)=>Lj _ _ (.slice ap m ac) (Xt row (t.columns.take k)) m x.name u _ W ((HO.out.below aJ.out).below hb) aL.out (dC.out.move (.of_below hb) P8) Oa dE.out)
   refine let_mvar% ?Lq2:=fun w':World=>Oi w' w 1 (Ol kb I n kc)/\Oi w' kb (I+k*6) x.name/\Pa w' G u.kind u.n u.s (.slice q3 u.names.length m3) (.slice q4 u.kids.length m4) (Below O O w');?_
   have HS:∀ w',Below O O w'->?Lq2 w':=by
    intro w' h
    have U:∀ {b j:Nat} {u:Value},b<O->O.cell? ⟨b,j,none⟩=some u->w'.cell? ⟨b,j,none⟩=some u:=fun aF hc=>kD h aF hc
    exact ⟨U Oa c1,U Oa V,U aC g0,U aC g1,U aC g2,U aC g3,U aC g4,h⟩
   have aM:=Qq (HS O.drew (Qz _ _).drew);have dB:=Qq HS
   have bA:=Qq (show Below O O O.drew from (Qz _ _).drew)
   clear HS
   go_upto_region 7 with fail
   clear c1 V g0 g1 g2 g3 g4
   go_region_held3 ?Lq2 (first | with_reducible exact aM.out | with_reducible exact M)
    (first | (go_at_call 56;refine (dD.out _ bA.out).mono ?_;rintro e w7 ⟨p7,c7,rfl,cD,aA⟩;have M:=dB.out _ (bA.out.thn aA);have dA:=Qq cD;have cT:=Qq (bA.out.thn aA);clear cD aA))
   all_goals
    go_wp2_with fail
    go_roundw
    case measure=>simp [intOf];omega
    case rel=>exact ⟨k+1,m+1,p7,c7,Oa,by go_num,rfl,by rw [J.out,Qe,aL.out];rfl,Oa,aZ.out.thn (aJ.out.thn cT.out),by rw [J.out];exact dA.out⟩
 have bW:k=n:=Oa
 subst bW
 have dQ:Xt row (t.columns.take k)=Xt row t.columns:=by rw [Qp (by rw [HN.out];exact Q4 _)]
 rw [dQ] at HO aL
 have bB:=Qq (Mw (fun b=>b<w) (fun _=>True) ⟨#[]⟩ (.slice ap m ac) _ t.check (Xt row t.columns) 1048576 r wr Oa (cV.out.move (.of_below aK.out) P8) HO.out cU.out)
 rw [show ((1048576:Nat):Int)=1048576 from rfl] at bB
 obtain ⟨ru,cB⟩:=eX (Dv 1048576 r)
 obtain ⟨re,bH⟩:=eX (Kc r)
 obtain ⟨v,hv⟩:=eX (Uo r)
 have hb:=cZ.out
 unfold Em at hb
 rw [bH,hv] at hb
 rw [cB,bH,hv] at bB
 obtain ⟨c0,c1,c2,c3,c4,c5,c6,c7,c8,c9,dG,dH,dI⟩:=row13 aN
 clear bE aN c0 c2 c3 cB bH hv
 go_upto_region 9 with (go_at_call 57;refine bB.out.mono ?_;rintro e w6 ⟨dL,rfl,cG,bU⟩;obtain ⟨q3,l3,q4,l4,D,_⟩:=Z5.cells cG;simp only [vcs] at D;subst D;have cS:=Qq bU;clear cG bU)
 generalize bF:World.alloc w6 _=w7
 have aA:=eqB bF (Zb _ _)
 have cI:=eqH (b:=w6.heap.size) bF (Qw _ _)
 have aX:=Qq (aK.out.thn (cS.out.thn aA))
 obtain ⟨y0,y1⟩:=row2 cI
 clear aA cI bF c4 c5 c6 c7 c8 c9 dG dH dI
 by_cases h1:re=0
 ·have g1:(re==0)=true:=by simpa using h1
  by_cases h2:v.kind=2
  ·have g2:(v.kind==2)=true:=by simpa using h2
   obtain ⟨g3,dR⟩:=eX ((v.n==1))
   rw [g1,g2,dR] at hb
   simp only [Bool.true_and] at hb
   subst hb
   go_wp2_with fail
   go_ret
   exact ⟨rfl,aX.out⟩
  have g2:(v.kind==2)=false:=by simpa using h2
  rw [g2,Bool.and_false,Bool.false_and] at hb
  subst hb
  go_wp2_with fail
  go_ret
  exact ⟨rfl,aX.out⟩
 have g1:(re==0)=false:=by simpa using h1
 rw [g1,Bool.false_and,Bool.false_and] at hb
 subst hb
 go_wp2_with fail
 go_ret
 exact ⟨rfl,aX.out⟩
def lt9:Ex:=Gen.op [60] [Gen.var [110],Gen.int 9]
def U7 (t:Tbl) (row:Val) (few:Bool):Bool:=if few then (match Xq [110] (Xt row t.columns).reverse with
 | some v=>decide (Zt v (Yx 9)<0)
 | none=>false) else true
theorem truV_res (b:Bool) (k:Nat):Em (.ok (Yb b,k))=b:=by cases b <;> rfl
theorem evl_yes (env:List (Bs × Val)):Vx Gen.yes env 1048576 (.ok (Yb true,1048575)):=
 Da 2 [] 1 [] [] [] [] 0 0 env 1048575 _ Of Of Of Of Of Of Of (sim_yes [] [] [] [] [] 0 0 env 1048575)
theorem revl_yes (env:List (Bs × Val)):Un Gen.yes env 1048576 (.ok (Yb true,1048575)):=
 Fi 2 [] 1 [] [] [] [] 0 0 env 1048575 _ Of Of Of Of Of Of Of (rsim_yes [] [] [] [] [] 0 0 env 1048575)
theorem D9 (nm:Bs) (env:List (Bs × Val)) (l:Nat):Vx (Gen.var nm) env (l+1) (Kq nm env l):=
 Da 3 nm 0 [] [] [] [] 0 0 env l _ Of Of Of Of Of Of Of (sim_var nm 0 [] [] [] [] 0 0 env l)
theorem revl_var (nm:Bs) (env:List (Bs × Val)) (l:Nat):Un (Gen.var nm) env (l+1) (Kq nm env l):=
 Fi 3 nm 0 [] [] [] [] 0 0 env l _ Of Of Of Of Of Of Of (rsim_var nm 0 [] [] [] [] 0 0 env l)
theorem Db (n:Int) (env:List (Bs × Val)) (l:Nat):Vx (Gen.int n) env (l+1) (.ok (Yx n,l)):=
 Da 0 [] n [] [] [] [] 0 0 env l _ Of Of Of Of Of Of Of (sim_int [] n [] [] [] [] 0 0 env l)
theorem revl_int (n:Int) (env:List (Bs × Val)) (l:Nat):Un (Gen.int n) env (l+1) (.ok (Yx n,l)):=
 Fi 0 [] n [] [] [] [] 0 0 env l _ Of Of Of Of Of Of Of (rsim_int [] n [] [] [] [] 0 0 env l)
def ltR (env:List (Bs × Val)):Except Int (Val × Nat):=match Xq [110] env.reverse with
 | some v=>.ok (Yb (decide (Zt v (Yx 9)<0)),1048573)
 | none=>.error 9
theorem evl_lt (env:List (Bs × Val)):Vx lt9 env 1048576 (ltR env):=by
 have D:=D9 [110] env 1048574
 unfold Kq at D
 unfold ltR
 cases h:Xq [110] env.reverse with
 | none=>
  rw [h] at D
  exact Bn [60] 0 [] [] [] [Gen.var [110],Gen.int 9] 0 0 env 1048575 _ (op_err [60] env 1048575 _ _ 9 (.inl rfl) (.stop D))
 | some v=>
  rw [h] at D
  exact Bn [60] 0 [] [] [] [Gen.var [110],Gen.int 9] 0 0 env 1048575 _ (op_less env 1048575 1048573 _ _ v (Yx 9) (.cons D (.cons (Db 9 env 1048573) (.nil _))))
theorem revl_lt (env:List (Bs × Val)):Un lt9 env 1048576 (ltR env):=by
 have D:=revl_var [110] env 1048574
 unfold Kq at D
 unfold ltR
 cases h:Xq [110] env.reverse with
 | none=>
  rw [h] at D
  exact Ml [60] 0 [] [] [] [Gen.var [110],Gen.int 9] 0 0 env 1048575 _ (rop_err env 1048575 _ _ 9 (.stop D))
 | some v=>
  rw [h] at D
  exact Ml [60] 0 [] [] [] [Gen.var [110],Gen.int 9] 0 0 env 1048575 _ (rop_less env 1048575 _ _ 1048573 v (Yx 9) (.cons D (.cons (revl_int 9 env 1048573) (.nil _))))
theorem chk_res (t:Tbl) (row:Val) (few:Bool):Em (if few then ltR (Xt row t.columns) else .ok (Yb true,1048575))=U7 t row few:=by
 unfold U7 ltR
 cases few with
 | false=>rfl
 | true=>
  simp only [if_true]
  cases Xq [110] (Xt row t.columns).reverse with
  | none=>rfl
  | some v=>exact truV_res _ _
theorem Fh (S0 S1:Nat->Prop) (t:Tbl) (row:Val) (ct cr:List Value) (few:Bool) (w:World) (ht:Zg.R S0 w ct t) (hr:Z5 S1 w cr row) (hcl:t.columns.length<=100) (hc:t.check=if few then lt9 else Gen.yes):
  Calls prog 23 #[ct,cr] w (fun e w'=>e=.returned (.bool (U7 t row few))/\Below w w w') /\
  Calls prog 24 #[ct,cr] w (fun e w'=>e=.returned (.bool (U7 t row few))/\Below w w w'):=by
 rw [<- chk_res]
 refine ⟨Lz S0 S1 t row ct cr _ w ht hr ?_,Ee S0 S1 t row ct cr _ w ht hr hcl ?_⟩
 ·rw [hc]
  cases few with
  | false=>exact evl_yes _
  | true=>exact evl_lt _
 rw [hc]
 cases few with
 | false=>exact revl_yes _
 | true=>exact revl_lt _
namespace G15
def color:Sm:=⟨[67,111,108,111,114],[⟨[82,101,100],false,Gen.whole⟩,⟨[66,108,117,101],false,Gen.whole⟩]⟩
def size:Sm:=⟨[83,105,122,101],[⟨[83,109,97,108,108],false,Gen.whole⟩,⟨[66,105,103],true,Gen.whole⟩]⟩
def sums:List Sm:=[color,size]
def colorT:Ty:=.mk 3 [67,111,108,111,114] 0 [] []
def sizeT:Ty:=.mk 3 [83,105,122,101] 0 [] []
def idT (a:Bool):Ty:=Gen.ty (if a then 1 else 0)
def place (a b:Bool):Tbl:=⟨[112,108,97,99,101],[⟨[105,100],idT a⟩,⟨[110,97,109,101],Gen.text⟩,⟨[111,112,101,110],Gen.yesno⟩]++(if b then [⟨[99,111,108,111,114],colorT⟩] else []),[[105,100]],[],Gen.yes⟩
def item (a r c:Bool):Tbl:=⟨[105,116,101,109],[⟨[105,100],Gen.whole⟩,⟨[110],Gen.whole⟩,⟨[97,116],idT a⟩,⟨[115,105,122,101],sizeT⟩],[[105,100]],if r then [⟨[97,116],[112,108,97,99,101]⟩] else [],if c then lt9 else Gen.yes⟩
def shop (r k:Bool):Tbl:=⟨[115,104,111,112],[⟨[105,100],Gen.text⟩,⟨[115,101,108,108,115],Gen.whole⟩,⟨[111,112,101,110],Gen.yesno⟩],if k then [[105,100],[115,101,108,108,115]] else [[105,100]],if r then [⟨[115,101,108,108,115],[105,116,101,109]⟩] else [],Gen.yes⟩
end G15
def Uy (t:Tbl):Prop:=(∃ a b,t=G15.place a b)\/(∃ a r c,t=G15.item a r c)\/∃ r k,t=G15.shop r k
structure GB (g B:Nat) (w w':World):Prop where
 below:Below g w w'
 keep:∀ b,b<B->b≠g->w'.heap[b]?=w.heap[b]?
theorem GB.refl (g B:Nat) (w:World):GB g B w w:=⟨Qz _ _,fun _ _ _=>rfl⟩
theorem GB.trans {g B:Nat} {a b c:World} (h:GB g B a b) (k:GB g B b c):GB g B a c:=⟨h.below.trans k.below,fun i hi hn=>(k.keep i hi hn).trans (h.keep i hi hn)⟩
theorem GB.of_step {g B:Nat} {w w':World} (h:Z6 (fun b=>b=g) g w w') (hB:B<=w):GB g B w w':=⟨h.below,fun b hb hn=>h.keep b Oa hn⟩
theorem GB.of_below {g B:Nat} {w w':World} (h:Below B w w') (hg:g<=B):GB g B w w':=⟨h.mono hg,fun b hb _=>h.block b hb⟩
theorem esl_val1 {S:Nat->Prop} {w:World} {b:Nat} {v:Val} {p3 p4:Option Addr} {k3 k4:Nat} (hb:w.heap[b]?=some (.cells (Ou v p3 k3 p4 k4) 48 (0,0))) (hS:S b) (hv:Z5 S w (vcs v p3 k3 p4 k4) v):Sl Zc S w (.slice (some ⟨b,0,none⟩) 1 1) [v]:=
 Y2 hb hS (Cs.one (r:=Zc) (show Zc.R S w _ v from hv)) rfl rfl Od
def CompIs (S:Nat->Prop) (own:Option Nat) (g m B:Nat) (w:World) (n:Nat) (vs:List Val):Except Int (Val × Nat)->Ending->World->Prop
 | .ok (v,l)=>fun e w'=>∃ p cap css,e=.returned (.slice p (n+1) cap)/\Own Zc 48 S B w' (.slice p (n+1) cap) (vs++[v]) css/\MAt g m w' l/\GB g B w w'/\(∀ b,b<w.heap.size->b≠g->some b≠own->w'.heap[b]?=w.heap[b]?)
 | .error c=>fun e w'=>e=.panicked (Gf c)/\GB g B w w'
theorem Mx (p:Option Addr) (n cap:Nat) (hn:n<=4096) (w:World):Calls prog 215 #[.slice p n cap] w fun e w'=>e=.returned (.slice p n cap)/\w=w':=by
 have D:(n:Int)<=4096:=Oa
 have G:0<=(n:Int):=Oa
 go_enter func215,ntmps215
 go_wp2_with fail
 go_ret
 exact ⟨rfl,rfl⟩
theorem Hh (S0 S1:Nat->Prop) (g m B:Nat) (ms:ByteArray) (ev:Value) (cs:List Value) (nm:Bs) (n:Int) (s:Bs) (xn:Bs) (binds:List Bs) (body gen:Ex) (a z:Int) (env:List (Bs × Val)) (l:Nat) (r:Except Int (Val × Nat)) (op:Option Addr) (on oc:Nat) (vs:List Val) (css:List (List Value)) (w:World)
  (hx0:Yj S0 w cs (.mk 10 nm n s [xn] binds [body,gen] a z)) (he0:Sl Zs S1 w ev env) (hS0:∀ b,S0 b->b≠g/\b<B) (hS1:∀ b,S1 b->b≠g/\some b≠(Value.slice op on oc).ownBlock) (T:Nat->Prop) (hT1:∀ b,T b->b≠g) (hT2:∀ b,b≠g->(S1 b\/B<=b)->T b) (hM:MAt g m w l) (hgB:g<B) (hmB:m<B) (hBw:B<=w) (hev:Vx body env l r) (hvl:vs.length=on) (hon:on<=1000) (hO:Own Zc 48 T B w (.slice op on oc) vs css):
  Calls prog 157 #[Om g,.agg #[.string ms,ev],cs,.int .i64 1,.slice op on oc] w (CompIs T (Value.slice op on oc).ownBlock g m B w on vs r):=by
 obtain ⟨i0,j1,j2,j3,j4⟩:=Y3 (P:=prog) (t:=48) (z:=.agg zV) (n:=5) (b:=80) Og
 obtain ⟨HJ,cF,cG,cH⟩:=Py j1 j2 j3 j4
 clear j1 j2 j3 j4
 obtain ⟨nv,bv,kv,rfl,_,_,bT,bR,bC⟩:=Yz.1 hx0
 obtain ⟨np,nc,rfl,_⟩:=bT.len
 obtain ⟨bp,bc,rfl,_⟩:=bR.len
 obtain ⟨kp,kc,rfl,_⟩:=bC.len
 obtain ⟨p,cap,rfl,_⟩:=he0.len
 obtain ⟨J,D,cb,dD,dH,bV,_,hr,hc⟩:=bC.elem (i:=0) (x:=body) rfl
 obtain rfl:kp=some ⟨J,D,none⟩:=dD
 obtain ⟨ek,dB,en,dC,cY,cV,cS,cZ,cW,cT,dA,cX,cU,ea,ez,aV⟩:=Yj.cells (show Yj _ w cb body from hr)
 subst aV
 have d0:=hc 0 _ rfl;have d1:=hc 1 _ rfl;have d2:=hc 2 _ rfl;have d3:=hc 3 _ rfl;have d4:=hc 4 _ rfl;have d5:=hc 5 _ rfl;have d6:=hc 6 _ rfl;have d7:=hc 7 _ rfl;have d8:=hc 8 _ rfl
 simp only [show Vv.k=9 from rfl,Nat.add_zero,Nat.zero_mul] at d0 d1 d2 d3 d4 d5 d6 d7 d8
 have dN:=hM.lt
 obtain ⟨HX,HE,cN,bL,HM⟩:=Pw (show Yj S0 w _ body from hr) he0 hS0 hS1 hM;obtain ⟨cE,HO,cQ,cP,bO⟩:=Pw hev hO hvl hT1 hT2
 have M:=hS0 J bV
 clear hx0 he0 hS0 hS1 hM hev hO hvl hT1 hT2 bT bR bC hr hc bV
 unfold sv
 go_enter func157,ntmps157
 go_upto_region 1 with fail
 generalize aU:(w.alloc _).alloc _=w2
 have bA:=eqB aU (Zl _ _ _)
 have h0:=eqH (b:=w.heap.size) aU (Q0 _ _ _)
 have h1:=eqH (b:=w.heap.size+1) aU (Q1 _ _ _)
 have c4:=rA4 h1
 obtain ⟨H0,H1,HB⟩:=Px h0 h1 bA
 have dI:=Z3 h0;have dJ:=Z3 h1
 have dO:=bA.size
 clear h0 h1 bA aU
 go_upto_region 2 with fail
 clear c4
 refine let_mvar% ?Lq1:=fun w':World=>w'.heap[w.heap.size]?=some (.cells #[.string ms,.slice p env.length cap] 160 (0,0))/\Oi w' w 0 (.string ms)/\Oi w' w 1 (.slice p env.length cap)/\Oi w' (w+1) 6 (Ol J D 2 kc)/\Oi w' J D ek/\Oi w' J (D+1) (.string dB)/\Oi w' J (D+2) en/\Oi w' J (D+3) (.string dC)/\Oi w' J (D+4) (.slice cY cV cS)/\Oi w' J (D+5) (.slice cZ cW cT)/\Oi w' J (D+6) (.slice dA cX cU)/\Oi w' J (D+7) ea/\Oi w' J (D+8) ez;?_
 have aR:=Qq (fun w' (h0:w'.heap[w.heap.size]?=w2.heap[w.heap.size]?) (h1:w'.heap[w.heap.size+1]?=w2.heap[w.heap.size+1]?) (hx:w'.heap[J]?=w.heap[J]?)=>(show ?Lq1 w' from ⟨h0.trans H0.out,(Qk _ _ 0 _ _ _ (h0.trans H0.out)).trans rfl,(Qk _ _ 1 _ _ _ (h0.trans H0.out)).trans rfl,(Qk _ _ 6 _ _ _ (h1.trans H1.out)).trans rfl,(World.cell?_of_block hx).trans d0,(World.cell?_of_block hx).trans d1,(World.cell?_of_block hx).trans d2,(World.cell?_of_block hx).trans d3,(World.cell?_of_block hx).trans d4,(World.cell?_of_block hx).trans d5,(World.cell?_of_block hx).trans d6,(World.cell?_of_block hx).trans d7,(World.cell?_of_block hx).trans d8⟩))
 have bD:w2.heap[J]?=w.heap[J]?:=HB.out.block _ dH
 have bK:=Qq (aR.out w2.drew rfl rfl bD)
 have cJ:=Qq ((HM.out.below HB.out).below (Qz w2 w2).drew)
 have aA:Below w w w2.drew:=HB.out.drew
 have HC:=Qq (cE.out _ _ g m ms _ _ w2.drew (HX.out.move (.of_below aA) P8) (HE.out.below aA) (fun b h=>(cN.out b h).1) (fun b h=>(bL.out b h).1) cJ.out)
 have bJ:=Qq (HO.out.below aA)
 have aM:=Qq aA
 have cO:=Qq (fun p7 c7 W=>Mx p7 (on+1) c7 Oa W)
 have bP:=Qq (show w2.drew.heap.size=w2.heap.size from rfl)
 obtain ⟨aN,aO,aP⟩:=Px (show w2.drew.heap[w.heap.size]?=w2.heap[w.heap.size]? from rfl) (show w2.drew.heap[w.heap.size+1]?=w2.heap[w.heap.size+1]? from rfl) (show w2.drew.heap[J]?=w.heap[J]? from bD)
 clear aA d0 d1 d2 d3 d4 d5 d6 d7 d8 bD
 have HD:=Qq (show ∀ W,?Lq1 W->Oi W w 0 (.string ms)/\Oi W w 1 (.slice p env.length cap)/\_ from fun W h=>h.2)
 refine wp_region_held_drew (S:=?Lq1) Og bK.out (fun G=>?_)
 refine tkD (v:=?_) 0 (fun Y I=>?_) ?_;rotate_left
 ·(obtain ⟨c0,c1,c6,d0,d1,d2,d3,d4,d5,d6,d7,d8⟩:=HD.out Y I;go_simp;try with_reducible rfl)
 refine tkD (v:=?_) 1 (fun Y I=>?_) ?_;rotate_left
 ·(obtain ⟨c0,c1,c6,d0,d1,d2,d3,d4,d5,d6,d7,d8⟩:=HD.out Y I;go_simp;try with_reducible rfl)
 refine tkD (v:=?_) 2 (fun Y I=>?_) ?_;rotate_left
 ·(obtain ⟨c0,c1,c6,d0,d1,d2,d3,d4,d5,d6,d7,d8⟩:=HD.out Y I;go_simp;try with_reducible rfl)
 refine tkD (v:=?_) 3 (fun Y I=>?_) ?_;rotate_left
 ·(obtain ⟨c0,c1,c6,d0,d1,d2,d3,d4,d5,d6,d7,d8⟩:=HD.out Y I;go_simp;try with_reducible rfl)
 refine tkD (v:=?_) 4 (fun Y I=>?_) ?_;rotate_left
 ·(obtain ⟨c0,c1,c6,d0,d1,d2,d3,d4,d5,d6,d7,d8⟩:=HD.out Y I;go_simp;try with_reducible rfl)
 refine tkD (v:=?_) 5 (fun Y I=>?_) ?_;rotate_left
 ·(obtain ⟨c0,c1,c6,d0,d1,d2,d3,d4,d5,d6,d7,d8⟩:=HD.out Y I;go_simp;try with_reducible rfl)
 refine tkD (v:=?_) 6 (fun Y I=>?_) ?_;rotate_left
 ·(obtain ⟨c0,c1,c6,d0,d1,d2,d3,d4,d5,d6,d7,d8⟩:=HD.out Y I;go_simp;try with_reducible rfl)
 generalize dG:w2.drew=wd at G HC bJ aM bP aN aO aP |-
 clear dG
 refine rdD 7 (fun K U=>?_) Qh
 go_simp
 have dR:=bP.out
 cases r with
 | error c=>
  refine HC.out.mono ?_
  rintro e w5 ⟨rfl,L⟩
  exact ⟨rfl,rfl,(GB.of_below (aM.out.mono hBw) Oa).trans (GB.of_step L Oa)⟩
 | ok o=>
  obtain ⟨v,k⟩:=o
  refine HC.out.mono ?_
  rintro e w5 ⟨cu,rfl,hu,bS,L⟩
  obtain ⟨a3,dL,a4,dM,aV,_⟩:=Z5.cells hu
  simp only [vcs] at aV
  subst aV
  have dP:=L.size
  have cI:=Qq bS;have N:=Qq L
  have bI:=Qq (bJ.out.gstep L Oa cP.out)
  have HU:=Qq hu
  have bM:=Qq (aR.out w5 ((L.keep _ Oa (by show w≠g;omega)).trans aN.out) ((L.keep _ Oa (by show w+1≠g;omega)).trans aO.out) ((L.keep _ (by have:=M.2;omega) (by show J≠g;exact M.1)).trans aP.out))
  clear hu bS L
  try dsimp only
  refine U.out _ _ bM.out (fun G=>?_)
  clear U K
  refine rdD 8 (fun K U=>?_) Qh
  go_simp
  generalize aZ:World.alloc w5 _=w6
  have O:=eqB aZ (Zb _ _)
  have bE:=eqH (b:=w5.heap.size) aZ (Qw _ _)
  have bN:=Qq (aR.out w6 (kE O Oa ((N.out.keep _ Oa (by show w≠g;omega)).trans aN.out)) (kE O Oa ((N.out.keep _ Oa (by show w+1≠g;omega)).trans aO.out)) (kE O (by have:=M.2;omega) ((N.out.keep _ (by have:=M.2;omega) (by show J≠g;exact M.1)).trans aP.out)))
  have cL:=Qq (bI.out.below O)
  have cR:=Qq (esl_val1 (S:=But T (.slice op on oc)) bE ⟨bO.out _ Oa (.inr Oa),fun e=>by have:=(bI.out.row.lt _ e.symm).2;omega⟩ (HU.out.move (.of_below O) (fun b _ h=>⟨bO.out b h.1 (h.2.imp (fun h=>h) (fun h=>Oa)),fun e=>by rcases h.2 with h | h;(exact (bL.out b h).2 e);(have h1:=HO.out.row.lt _ e.symm;omega)⟩)))
  have dQ:=O.size
  have V:=Qq O
  have dK:=Qq bE
  clear O bE aZ
  try dsimp only
  refine U.out _ _ bN.out (fun G=>?_)
  clear U K
  refine rdD 9 (fun K U=>?_) Qh
  refine Xr (r:=Zc) Of Jv Oe (.tmp 19) (.tmp 27) 40 Oe 48 i0 (.agg zV) 80 underlying40 HJ.out cF.out cG.out cH.out rfl Oa T B w6 (.slice op on oc) vs css Oe cL.out (.slice (some ⟨w5,0,none⟩) 1 1) [v] Oe cR.out (on+1) (by rw [cQ.out];rfl) Oa Oa ?_
  intro p7 c7 css7 w7 bQ aT
  have aB:∀ b,w.heap.size<=b->some b≠(Value.slice op on oc).ownBlock:=fun b hb e=>by have:=(HO.out.row.lt b e.symm).2;omega
  have bB:∀ b,w.heap.size<=b->b<w6.heap.size->w7.heap[b]?=w6.heap[b]?:=fun b h1 h2=>aT.other b h2 (aB b h1)
  have bU:w7.heap[J]?=w6.heap[J]?:=aT.below.block _ M.2
  have Z:=Qq (aR.out w7 ((bB _ Oa Oa).trans (kE V.out Oa ((N.out.keep _ Oa (by show w≠g;omega)).trans aN.out))) ((bB _ Oa Oa).trans (kE V.out Oa ((N.out.keep _ Oa (by show w+1≠g;omega)).trans aO.out))) (bU.trans (kE V.out (by have:=M.2;omega) ((N.out.keep _ (by have:=M.2;omega) (by show J≠g;exact M.1)).trans aP.out))))
  have cM:=Qq bQ;have aQ:=Qq aT
  clear bQ aT bB bU aB
  try dsimp only
  refine U.out _ _ Z.out (fun G=>?_)
  clear U K
  refine rdD 10 (fun K U=>?_) Qh
  go_simp
  refine (cO.out p7 c7 w7).mono ?_
  rintro e w8 ⟨rfl,rfl⟩
  try dsimp only
  refine U.out _ _ Z.out (fun G=>?_)
  clear U K
  refine rdD 11 (fun K U=>?_) Qh
  go_simp
  try dsimp only
  refine U.out _ _ Z.out (fun G=>?_)
  clear U K
  refine wpAnyH_done Og ?_ _
  go_wp2_with fail
  go_ret
  exact ⟨p7,c7,css7,rfl,cM.out,(have aY:=cI.out.below V.out;⟨(aQ.out.below.block g hgB).trans aY.1,(aQ.out.below.block m hmB).trans aY.2.1,aY.2.2⟩),((GB.of_below (aM.out.mono hBw) Oa).trans (GB.of_step N.out Oa)).trans ((GB.of_below (V.out.mono Oa) Oa).trans (GB.of_below aQ.out.below Oa)),fun b hb hn ho=>(aQ.out.other b Oa ho).trans ((V.out.block b Oa).trans ((N.out.keep b Oa hn).trans (aM.out.block b hb)))⟩
end Go.Proofs.YtlanplhphiikjaaGreatDoor
