import Derived.Test.YtdpibdpbgokmoaaGreatDoorC24
import Derived.Test.YtdpibdpbgokmoaaGreatDoorC21
set_option maxRecDepth 100000
set_option maxHeartbeats 400000000
namespace Go.Proofs.YtdpibdpbgokmoaaGreatDoor
open Go.RowKit Go.Shelf Go.Lib Tryz
def Ti (S:Nat→Prop) (w W1:World) (r:Option Val) (t10 t11:Value) (wx:World):Prop:=
 ∃ (G:Nat) (uk un:Int) (us:ByteArray) (u3:Option Addr) (m3 l3:Nat) (u4:Option Addr) (m4 l4:Nat) (b:Bool),t10=.pointer (some ⟨G,0,none⟩)∧t11=.bool b∧wx.heap[G]?=some (.cells #[uk,un,.string us,.slice u3 m3 l3,.slice u4 m4 l4] 36 (0,0))∧Below W1 W1 wx∧W1≤G∧EvS (fun c=>(S c∧c<w)∨W1≤c) wx [uk,un,.string us,.slice u3 m3 l3,.slice u4 m4 l4] r b
def WithMid (S:Nat→Prop) (w W1:World) (r:Option Val) (i:Value) (wr:World):Prop:=(i=.int .i64 1∧W1=wr) ∨
 (i=.int .i64 2∧Below w w wr∧∃ (uk un:Int) (us:ByteArray) (u3:Option Addr) (m3 l3:Nat) (u4:Option Addr) (m4 l4:Nat),wr.heap[w.heap.size+1]?=some (.cells zV 36 (0,0))∧wr.heap[w.heap.size+1+1]?=some (.cells #[uk,un,.string us,.slice u3 m3 l3,.slice u4 m4 l4] 36 (0,0))∧∃ v,Z9 (fun c=>(S c∧c<w)∨w+3≤c) wr [uk,un,.string us,.slice u3 m3 l3,.slice u4 m4 l4] v∧Y3 v∧r=some v)
theorem Ov (nm:Bs) (n:Int) (sx:Bs) (names binds:List Bs) (kids:List Ex) (a z:Int) (S:Nat→Prop) (ce:List Value) (vv:Value) (vals:List Val) (w:World) (he:Yv S w ce (.mk 7 nm n sx names binds kids a z)) (hv0:Sl Ze S w vv vals) (hb:∀ v ∈ vals,Y3 v) (x1:Bs) (hnames:names=[x1]) (v0 v1:Val) (hvals:vals=[v0,v1]):Calls prog 148 #[ce,vv] w (X6 S w (Vq 7 nm names vals)):=by
 subst hnames;subst hvals
 have hv:Sl Ze (fun b=>S b∧b<w) w vv [v0,v1]:=hv0.mono (fun b hb h=>⟨h,hb⟩)
 obtain ⟨vp,vc,rfl,dR⟩:=hv.len
 obtain ⟨nv,bv,kv,rfl,dP,dQ,hn,cC,hk⟩:=Yx.1 he
 obtain ⟨p1,c1,rfl,_⟩:=hn.len
 obtain ⟨p2,c2,rfl,_⟩:=cC.len
 obtain ⟨p3,c3,rfl,_⟩:=hk.len
 obtain ⟨HV,bC,bE⟩:=Qqo hv hb hn
 clear he hv0 hv hn cC hk hb
 unfold sv
 simp only [List.length_cons,List.length_nil,Nat.zero_add,Nat.reduceAdd] at HV bE ⊢
 have mixed:prog.follows .mixedOrders=true:=Qqy
 obtain ⟨vb,A,q3,e3,q4,e4,dF,aF,aE,d0,d1,d2,d3,d4⟩:=HV.out.val (i:=0) (x:=v0) rfl
 obtain ⟨dI,aX,r3,f3,r4,f4,cF,_,aL,g0,g1,g2,g3,g4⟩:=HV.out.val (i:=1) (x:=v1) rfl
 subst dF
 obtain ⟨rfl,rfl⟩:vb=dI∧A=aX:=by simpa using cF
 obtain ⟨nb,aN,dC,aI,_⟩:=bE.out.str (i:=0) (x:=x1) rfl
 subst dC
 have dB:=Qv _ _ aI
 simp only [Nat.zero_mul,Nat.one_mul,Nat.add_zero] at d0 d1 d2 d3 d4 g0 g1 g2 g3 g4 aI
 have cO:=Qq (bC.out v0 Qqk);have bA:=Qq (bC.out v1 Qqk)
 have HW:=Qq (fun W (hb:Below w w W)=>Cb (fun b=>S b∧b<w) v0 v1 x1 (Qqg v0 q3 e3 q4 e4) (Qqg v1 r3 f3 r4 f4) W (Z9.move aE (.of_below hb) Qzx) (Z9.move aL (.of_below hb) Qzx) cO.out bA.out)
 unfold sv at HW
 have dL:=Qq aE
 have GG:=Qq (Qe g0 (Qe g1 (Qe g2 (Qe g3 (Qe g4 aI)))))
 clear aE aL cF g0 g1 g2 g3 g4 aI
 go_enter func148,ntmps148
 go_upto_region 13 with fail
 generalize aD:((w.alloc _).alloc _).alloc _=I
 have cB:=eqB aD (Xm _ _ _ _)
 have bY:=eqH (b:=w.heap.size) aD (Zp _ _ _ _)
 have cA:=eqH (b:=w.heap.size+1) aD (Zo _ _ _ _)
 have aR:=eqH (b:=w.heap.size+1+1) aD (Zi _ _ _ _)
 obtain ⟨N,cW,bJ,cR⟩:=Qqp cB cA aR bY
 have cG:=Z8 aR
 clear aD cB cA bY aR d0 d1 d2 d3 d4
 go_wp2_with fail
 go_loopw [9,10,11,12] (fun i _ _ _ wr=>WithMid S w I (Dz v0 x1 v1) i wr) (fun i _ _ _ _=>2 - (intOf i).toNat)
 case atStart=>exact .inl ⟨rfl,rfl⟩
 rcases hrel with ⟨rfl,rfl⟩ | ⟨rfl,cE,J,un,us,Z,V,T,u4,Y,U,hZ,hX,v,hv,cD,aU⟩
 ·obtain ⟨bN,bP,bR,bT,bV,aK⟩:=GG.out
  refine let_mvar% ?Lq1:=fun w':World=>(Qzw w' (w+1+1) v0.kind v0.n v0.s (.slice q3 v0.names.length e3) (.slice q4 v0.kids.length e4) (Qqa w' w 4 (Qqb nb aN 1 c1)∧Qqa w' nb aN x1∧Qqa w' vb (A+5) v1.kind∧Qqa w' vb (A+5+1) v1.n∧Qqa w' vb (A+5+2) v1.s∧Qqa w' vb (A+5+3) (.slice r3 v1.names.length f3)∧Qqa w' vb (A+5+4) (.slice r4 v1.kids.length f4)∧Below I I w'):Prop);?_
  have HS:∀ w',Below I I w'→?Lq1 w':=by
   intro w' h
   have hh:∀ {b j:Nat} {u:Value},b<w→w.cell? ⟨b,j,none⟩=some u→w'.cell? ⟨b,j,none⟩=some u:=fun {b j u} hlt2 hc=>(h.cell (p:=⟨b,j,none⟩) (Qa hlt2 N.out.size)).trans (kD N.out hlt2 hc)
   have hV:=kE h cG bJ.out
   have hE:=kB h cR.out
   exact ⟨Qk _ _ 0 _ _ _ hV,Qk _ _ 1 _ _ _ hV,Qk _ _ 2 _ _ _ hV,Qk _ _ 3 _ _ _ hV,Qk _ _ 4 _ _ _ hV,Qk _ _ 4 _ _ _ hE,hh dB aK,hh aF bN,hh aF bP,hh aF bR,hh aF bT,hh aF bV,h⟩
  have D:∀ w',?Lq1 w'→Below I I w':=fun w' h=>h.2.2.2.2.2.2.2.2.2.2.2.2
  have HA:∀ w' o,?Lq1 w'→?Lq1 (w'.alloc o):=fun w' o h=>HS _ ((D w' h).alloc (D w' h).size o)
  have HP:∀ w' a b c d e,?Lq1 w'→?Lq1 (Zl w' I a b c d e):=fun w' a b c d e h=>HS _ (Zc (D w' h) (Q9 _))
  unfold Zl at HP
  have HC:=Qq (fun W' (h':?Lq1 W')=>(HW.out W' (N.out.thn (D _ h'))).mono (R':=fun e w2=>∃ (J un:Int) (us:ByteArray) (Z:Option Addr) (V T:Nat) (u4:Option Addr) (Y U:Nat) (b:Bool),e=.returned (.tuple #[.agg #[J,un,.string us,.slice Z V T,.slice u4 Y U],.bool b])∧EvS (fun c=>(S c∧c<w)∨W'≤c) w2 [J,un,.string us,.slice Z V T,.slice u4 Y U] (Dz v0 x1 v1) b∧Below W' W' w2∧I≤W'.heap.size∧?Lq1 w2) (by
   rintro e w2 ⟨J,un,us,Z,V,T,u4,Y,U,b,rfl,h3,h4⟩
   exact ⟨J,un,us,Z,V,T,u4,Y,U,b,rfl,h3,h4,(D _ h').size,HS _ ((D _ h').thn h4)⟩))
  obtain ⟨bH,bI,bD,M,aO,bF⟩:=Qqs (HS I.drew (Qz _ _).drew) (HS I (Qz _ _)) (fun w' (h:?Lq1 w')=>HS w'.drew (D w' h).drew) D HA HP
  clear HS D HA HP bN bP bR bT bV aK
  have dS:IntKind.i64.wrap 0=0:=Qqx
  go_upto_region 16 with fail
  go_cut [10,11] from 55 to 100 (fun dG aW wx=>Ti S w I (Dz v0 x1 v1) dG aW wx)
  case first=>
   go_region_held3 ?Lq1 (first | with_reducible exact bH.out | with_reducible exact O | with_reducible exact bD.out _ (aO.out _ _ bI.out) | with_reducible exact aO.out _ _ O | with_reducible exact bF.out _ _ _ _ _ _ O)
    (first
     | (go_at_call 171;refine (HC.out _ Qqw).mono ?_;rintro e w2 ⟨J,un,us,Z,V,T,u4,Y,U,b,rfl,aJ,aS,dJ,O⟩;(try (have r2:w2.heap[I.heap.size]?=some (.cells zV 36 (0,0)):=(aS.block I Qqk).trans (Qw I _);obtain ⟨y0,y1,y2,y3,y4⟩:=row5 r2;obtain ⟨g0,g1,g2,g3,g4⟩:=frz5 r2;have cT:=Qq r2;clear r2));have bK:=Qq aJ;have dK:=Qq aS;clear aJ aS))
   all_goals
    go_wp2_with fail
    go_meet
   ·exact ⟨w2.heap.size,J,un,us,Z,V,T,u4,Y,U,b,rfl,rfl,Qw _ _,(M.out _ O).thn (Zg _ _),(M.out _ O).size,bK.out.map fun v h1=>h1.move (.of_below (Zg _ _)) (fun c _ h=>by rcases h with h | h;exact .inl h;exact .inr (by simpa using h))⟩
   show Ti S w I _ _ _ (Zl w2 I _ _ _ _ _)
   exact ⟨I.heap.size,J,un,us,Z,V,T,u4,Y,U,b,rfl,rfl,Yd cT.out,Zc (M.out _ O) (Q9 _),Q9 _,bK.out.map fun v h1=>h1.move (S':=fun c=>(S c∧c<w)∨I<c) (.refl _ _) (fun c _ h=>by rcases h with h | h;exact .inl h;exact .inr (by have h':=h;simp at h';omega)) |>.move (fun c hc _=>Zf (by rcases hc with h | h;exact (by have:=h.2;have:=N.out.size;omega);omega)) (fun c _ h=>by rcases h with h | h;exact .inl h;exact .inr Qqj)⟩
  obtain ⟨G,J,un,us,Z,V,T,u4,Y,U,b,rfl,rfl,hG,aH,dM,aM⟩:=hcut
  obtain ⟨HG,bB,bL⟩:=Qqo hG aH aM
  have dN:=Z8 hG
  have aQ:=Qq (kE aH cG bJ.out);have aG:=Qq (kB aH cW.out)
  clear HC bH bI bD M aO bF hG aH aM
  go_wp2_with fail
  go_loopw [11,12] (fun aW dH wr=>aW=.bool b∧dH=.int .i64 0∧wc=wr) (fun _ _ _=>0)
  case atStart=>exact ⟨rfl,rfl,rfl⟩
  obtain ⟨rfl,rfl,rfl⟩:=hrel
  obtain ⟨c0,c1,c2,c3,c4⟩:=row5 aQ.out
  obtain ⟨f0,f1,f2,f3,f4⟩:=frz5 aQ.out
  obtain ⟨g0,g1,g2,g3,g4⟩:=row5 HG.out
  obtain ⟨z0,z1,z2,z3,z4⟩:=row5 aG.out
  obtain ⟨h0,h1,h2,h3,h4⟩:=frz5 aG.out
  cases b with
  | false=>
   go_wp2_with fail
   show bodyPost _ _ _ _ _ (Qqm wc (w+1) v0 q3 e3 q4 e4)
   refine Q7 (v:=.tuple #[.agg (Qqg v0 q3 e3 q4 e4),.bool false]) (by simp [results,results148,go_sem,Zd aG.out]) rfl ⟨_,_,_,_,_,_,_,_,_,false,rfl,.no (by unfold Vq;rw [if_neg Qqx,if_neg Qqx,if_neg Qqx,if_neg Qqx,if_pos rfl];exact bL.out.2 rfl),Zc (N.out.thn bB.out) Qqj⟩
  | true=>
   go_wp2_with fail
   go_roundw
   case measure=>simp [intOf]
   case rel=>
    obtain ⟨v,dD,aJ,dE⟩:=bL.out.1 rfl
    refine .inr ⟨rfl,?_,J,un,us,Z,V,T,u4,Y,U,?_,?_,v,?_,aJ,dE⟩
    ·exact Zc (N.out.thn bB.out) Qqj
    ·show (Zl wc (w+1+1) J un (.string us) (.slice Z V T) (.slice u4 Y U)).heap[_]?=_
     rw [Zf Qqj];exact aG.out
    ·exact Yd aQ.out
    exact (dD.move (S':=fun c=>(S c∧c<w)∨w+3≤c) (.refl _ _) (fun c _ h=>by rcases h with h | h;exact .inl h;exact .inr Qqj)).move (fun c hc _=>Zf (by rcases hc with h | h;exact (by have:=h.2;omega);omega)) Qzx
 have bG:=Qq (show J=4∧Vq 7 nm [x1] [v0,v1]=some v from ⟨(Z9.head hv).1.symm.trans (Pi aU),by unfold Vq;rw [if_neg Qqx,if_neg Qqx,if_neg Qqx,if_neg Qqx,if_pos rfl];exact aU⟩)
 clear aU
 obtain ⟨cQ,HZ,HX,cV,cP⟩:=Qqr cE hZ hX hv cD
 obtain ⟨c0,c1,c2,c3,c4⟩:=row5 hX
 obtain ⟨z0,z1,z2,z3,z4⟩:=row5 hZ
 obtain ⟨h0,h1,h2,h3,h4⟩:=frz5 hZ
 clear cE hZ hX hv cD
 have dO:=Z8 HZ.out
 go_upto_region 24 with fail
 go_region_with fail
 all_goals
  go_wp2_with fail
  show bodyPost _ _ _ _ _ (Zl wr (w+1) J un (.string us) (.slice Z V T) (.slice u4 Y U)).drew
  refine Q7 (v:=.tuple #[.agg #[J,un,.string us,.slice Z V T,.slice u4 Y U],.bool (J==4)]) (by simp [results,results148,go_sem,Zd HZ.out]) rfl ⟨_,_,_,_,_,_,_,_,_,_,rfl,⟨fun _=>⟨v,?_,cP.out,bG.out.2⟩,fun hf=>absurd hf (by rw [bG.out.1];simp)⟩,(Zc cQ.out Qqj).drew⟩
  exact cV.out.move (fun c hc _=>by rw [show ∀ W:World,W.drew.heap=W.heap from fun _=>rfl];exact Zf (by rcases hc with h | h;exact (by have:=h.2;omega);omega)) (fun c _ h=>by rcases h with h | h;exact .inl h.1;exact .inr Qqj)
def IsAr (o:Bs) (f:Int→Int→Int):Prop:=(o=[43]∧f=fun a b=>IntKind.i64.wrap (a+b))∨(o=[45]∧f=fun a b=>IntKind.i64.wrap (a - b))∨(o=[42]∧f=fun a b=>IntKind.i64.wrap (a*b))
theorem of_eq (k n:Int) (s:ByteArray) (p3 p4:Option Addr) (n3 k3 n4 k4:Nat) (w:World):Calls prog 131 #[k,.agg #[k,n,.string s,.slice p3 n3 k3,.slice p4 n4 k4]] w fun e w'=>e=.returned (.agg #[k,n,.string s,.slice p3 n3 k3,.slice p4 n4 k4])∧Below w w w':=by
 have HM:=Qq X8
 go_enter func131,ntmps131
 go_wp2_with (go_at_call 134;refine (HM.out _).mono ?_;rintro e w' ⟨rfl,rfl⟩)
 generalize hW:(w.alloc _).alloc _=W
 have hb:=eqB hW (Zt _ _ _)
 have hR:=eqH (b:=w.heap.size+1) hW (Q6 _ _ _)
 refine Q7 (v:=.agg #[k,n,.string s,.slice p3 n3 k3,.slice p4 n4 k4]) (by simp [results,results131,go_sem,Qk _ _ _ _ _ _ hR]) rfl ⟨rfl,hb⟩
theorem of_ne (k k' n:Int) (hk:k'≠k) (s:ByteArray) (p3 p4:Option Addr) (n3 k3 n4 k4:Nat) (w:World):Calls prog 131 #[k,.agg #[k',n,.string s,.slice p3 n3 k3,.slice p4 n4 k4]] w (Bd w):=by
 have HM:=Qq Fu
 have hq:(k'==k)=false:=by rw [beq_eq_false_iff_ne];exact hk
 clear hk
 go_enter func131,ntmps131
 go_wp2_with (go_at_call 134;refine (HM.out _).mono ?_;rintro e w' ⟨rfl,rfl⟩)
 exact ⟨rfl,rfl,Zt _ _ _⟩
theorem R1 (n:Int) (S:Nat→Prop) (w:World):Calls prog 170 #[n] w (G6 S w (.mk 0 n [] [] [])):=by
 go_enter func170,ntmps170
 go_wp2_with fail
 generalize hW:w.alloc _=W
 have hb:=eqB hW (Zg _ _)
 have hR:=eqH (b:=w.heap.size) hW (Qw _ _)
 refine Q7 (v:=.agg #[Qqd,n,Qqe,Qqf,Qqf]) (by simp [results,results170,go_sem,Qk _ _ _ _ _ _ hR]) rfl ⟨_,rfl,Y8 (s:=[]) Qqk (Sl.nil _ _ _) (Sl.nil _ _ _),hb⟩
theorem op_ar (g:Nat) (lb:Array Value) (eg:∀ args w,(callFunc g args).run prog w=.ok (.enter g args) w) (S0:Nat→Prop) (o:Bs) (f:Int→Int→Int) (u v:Val) (w:World) (hS0:∀ b,S0 b→b≠w.heap.size) (ho:IsAr o f) (hku:u.kind=0) (hkv:v.kind=0)
  (h0:∀ W,Below w w W→w<W.heap.size→Calls prog g (#[.int .i64 0]++lb) W (Xy S0 W (some u))) (h1:∀ W,Below w w W→w<W.heap.size→Calls prog g (#[.int .i64 1]++lb) W (Xy S0 W (some v))):
  Calls prog 140 #[o,.func (.func g) #[] lb,.int .i64 2] w (Xy S0 w (some (.mk 0 (f u.n v.n) [] [] []))):=by
 obtain ⟨H0,H1,HM,bA⟩:=Qqp h0 h1 X8 hS0
 have aL:=Qq (R1 (f u.n v.n) S0)
 obtain ⟨r,hr⟩:=eX (Val.mk 0 (f u.n v.n) [] [] [])
 rw [hr] at aL ⊢
 have aV:=Qq (fun (n:Int) (s:ByteArray) (p3 p4:Option Addr) (n3 k3 n4 k4:Nat) W=>of_eq 0 n s p3 p4 n3 k3 n4 k4 W)
 have bN:=fun (n:Int) (s:ByteArray) (p3 p4:Option Addr) (n3 k3 n4 k4:Nat) W=>fld1 (.int .i64 0) (.int .i64 n) (.string s) (.slice p3 n3 k3) (.slice p4 n4 k4) W
 have aT:=Qq hku;have aU:=Qq hkv
 clear h0 h1 hr hS0 hku hkv
 rcases ho with ⟨rfl,rfl⟩ | ⟨rfl,rfl⟩ | ⟨rfl,rfl⟩
 all_goals
  go_enter func140,ntmps140
  go_wp2_with (go_at_call 134;refine (HM.out _).mono ?_;rintro e w' ⟨rfl,rfl⟩)
  refine (H0.out _ (Zg _ _) Qqk).mono ?_
  rintro e w1 ⟨cu,rfl,hu,aE⟩
  obtain ⟨a3,I,a4,J,O,_⟩:=Z9.cells hu
  simp only [vcs] at O
  subst O
  obtain ⟨aC,aI,HU⟩:=Qqo ((aE.block w Qqk).trans (Qw w _)) ((Zg w _).thn aE) hu
  clear hu aE
  go_wp2_with fail
  refine (H1.out _ aI.out (Z8 aC.out)).mono ?_
  rintro e w2 ⟨cv,rfl,hv,Y⟩
  obtain ⟨b3,M,b4,N,O,_⟩:=Z9.cells hv
  simp only [vcs] at O
  subst O
  have aD:=Qq ((Y.block w (Z8 aC.out)).trans aC.out);have aQ:=Qq (aI.out.thn Y)
  have bB:=Qq (Z9.move HU.out (.of_below Y) Qzx);have bC:=Qq hv
  clear hv Y
  have bO:w.heap.size<w2.heap.size:=Z8 aD.out
  go_upto_region 10 with fail
  generalize V:(w2.alloc _).alloc _=w4
  have U:=eqB V (Zt _ _ _)
  have g1:=eqH (b:=w2.heap.size) V (Q5 _ _ _)
  have g2:=eqH (b:=w2.heap.size+1) V (Q6 _ _ _)
  have aY:=Qq ((U.block w (Z8 aD.out)).trans aD.out);have aR:=Qq (aQ.out.thn U)
  have bL:=Qq (Z9.move bB.out (.of_below U) Qzx);have bM:=Qq (Z9.move bC.out (.of_below U) Qzx)
  have x0:=rA0 g1;have A:=rA0 g2;have x1:=rA1 g1;have y1:=rA1 g2;have x2:=rA2 g1;have y2:=rA2 g2;have x3:=rA3 g1;have y3:=rA3 g2;have x4:=rA4 g1;have D:=rA4 g2
  clear U g1 g2 V
  rw [aT.out] at x0
  rw [aU.out] at A
  have HX:∀ w' Z,(fun w'=>(Qzw w' w2 Qqd u.n u.s (.slice a3 u.names.length I) (.slice a4 u.kids.length J) ((Qzw w' (w2+1) Qqd v.n v.s (.slice b3 v.names.length M) (.slice b4 v.kids.length N) ((∃ A y1 y2 y3 D,w'.heap[w.heap.size]?=some (.cells #[A,y1,y2,y3,D] 36 (0,0)))∧Below w w w'):Prop)):Prop)) w'→Below w' w' Z→(fun w'=>(Qzw w' w2 Qqd u.n u.s (.slice a3 u.names.length I) (.slice a4 u.kids.length J) ((Qzw w' (w2+1) Qqd v.n v.s (.slice b3 v.names.length M) (.slice b4 v.kids.length N) ((∃ A y1 y2 y3 D,w'.heap[w.heap.size]?=some (.cells #[A,y1,y2,y3,D] 36 (0,0)))∧Below w w w'):Prop)):Prop)) Z:=fun w' Z h h2=>by
   have G:∀ {b j:Nat} {u:Value},w'.cell? ⟨b,j,none⟩=some u→Z.cell? ⟨b,j,none⟩=some u:=fun hc=>kC h2 hc
   obtain ⟨A,y1,y2,y3,D,hy⟩:=h.2.2.2.2.2.2.2.2.2.2.1
   exact ⟨G h.1,G h.2.1,G h.2.2.1,G h.2.2.2.1,G h.2.2.2.2.1,G h.2.2.2.2.2.1,G h.2.2.2.2.2.2.1,G h.2.2.2.2.2.2.2.1,G h.2.2.2.2.2.2.2.2.1,G h.2.2.2.2.2.2.2.2.2.1,⟨A,y1,y2,y3,D,kB h2 hy⟩,h.2.2.2.2.2.2.2.2.2.2.2.thn h2⟩
  have HY:∀ w',(fun w'=>(Qzw w' w2 Qqd u.n u.s (.slice a3 u.names.length I) (.slice a4 u.kids.length J) ((Qzw w' (w2+1) Qqd v.n v.s (.slice b3 v.names.length M) (.slice b4 v.kids.length N) ((∃ A y1 y2 y3 D,w'.heap[w.heap.size]?=some (.cells #[A,y1,y2,y3,D] 36 (0,0)))∧Below w w w'):Prop)):Prop)) w'→(∃ A y1 y2 y3 D,w'.heap[w.heap.size]?=some (.cells #[A,y1,y2,y3,D] 36 (0,0))):=fun w' h=>h.2.2.2.2.2.2.2.2.2.2.1
  have aJ:∀ w',(fun w'=>(Qzw w' w2 Qqd u.n u.s (.slice a3 u.names.length I) (.slice a4 u.kids.length J) ((Qzw w' (w2+1) Qqd v.n v.s (.slice b3 v.names.length M) (.slice b4 v.kids.length N) ((∃ A y1 y2 y3 D,w'.heap[w.heap.size]?=some (.cells #[A,y1,y2,y3,D] 36 (0,0)))∧Below w w w'):Prop)):Prop)) w'→Below w w w':=fun w' h=>h.2.2.2.2.2.2.2.2.2.2.2
  have HP:∀ w' a b c d e,(fun w'=>(Qzw w' w2 Qqd u.n u.s (.slice a3 u.names.length I) (.slice a4 u.kids.length J) ((Qzw w' (w2+1) Qqd v.n v.s (.slice b3 v.names.length M) (.slice b4 v.kids.length N) ((∃ A y1 y2 y3 D,w'.heap[w.heap.size]?=some (.cells #[A,y1,y2,y3,D] 36 (0,0)))∧Below w w w'):Prop)):Prop)) w'→(fun w'=>(Qzw w' w2 Qqd u.n u.s (.slice a3 u.names.length I) (.slice a4 u.kids.length J) ((Qzw w' (w2+1) Qqd v.n v.s (.slice b3 v.names.length M) (.slice b4 v.kids.length N) ((∃ A y1 y2 y3 D,w'.heap[w.heap.size]?=some (.cells #[A,y1,y2,y3,D] 36 (0,0)))∧Below w w w'):Prop)):Prop)) (Zl w' w a b c d e):=fun w' a b c d e h=>by
   have G:∀ {g j:Nat} {u:Value},g≠w→w'.cell? ⟨g,j,none⟩=some u→(Zl w' w a b c d e).cell? ⟨g,j,none⟩=some u:=fun bH hc=>(World.cell?_of_block (Zf bH)).trans hc
   obtain ⟨A,y1,y2,y3,D,hy⟩:=h.2.2.2.2.2.2.2.2.2.2.1
   exact ⟨G Qqj h.1,G Qqj h.2.1,G Qqj h.2.2.1,G Qqj h.2.2.2.1,G Qqj h.2.2.2.2.1,G Qqj h.2.2.2.2.2.1,G Qqj h.2.2.2.2.2.2.1,G Qqj h.2.2.2.2.2.2.2.1,G Qqj h.2.2.2.2.2.2.2.2.1,G Qqj h.2.2.2.2.2.2.2.2.2.1,⟨a,b,c,d,e,Yd hy⟩,Zc (h.2.2.2.2.2.2.2.2.2.2.2) (Q9 _)⟩
  unfold Zl at HP
  have aM:=Qq (show (fun w'=>(Qzw w' w2 Qqd u.n u.s (.slice a3 u.names.length I) (.slice a4 u.kids.length J) ((Qzw w' (w2+1) Qqd v.n v.s (.slice b3 v.names.length M) (.slice b4 v.kids.length N) ((∃ A y1 y2 y3 D,w'.heap[w.heap.size]?=some (.cells #[A,y1,y2,y3,D] 36 (0,0)))∧Below w w w'):Prop)):Prop)) w4.drew from ⟨x0,x1,x2,x3,x4,A,y1,y2,y3,D,⟨_,_,_,_,_,aY.out⟩,aR.out.drew⟩)
  obtain ⟨aN,bE,aK,aX⟩:=Qqp HX HY aJ HP
  clear HX HY aJ HP x0 x1 x2 x3 x4 A y1 y2 y3 D
  go_wp2_with fail
  go_region_held3 (fun w'=>(Qzw w' w2 Qqd u.n u.s (.slice a3 u.names.length I) (.slice a4 u.kids.length J) ((Qzw w' (w2+1) Qqd v.n v.s (.slice b3 v.names.length M) (.slice b4 v.kids.length N) ((∃ A y1 y2 y3 D,w'.heap[w.heap.size]?=some (.cells #[A,y1,y2,y3,D] 36 (0,0)))∧Below w w w'):Prop)):Prop)) (first | with_reducible exact aM.out | with_reducible exact T | with_reducible exact aX.out _ _ _ _ _ _ T)
   (first
    | (go_at_call 170;refine (aL.out _).mono ?_;rintro e w6 ⟨cr,rfl,aF,aO⟩;obtain ⟨q3,l3,q4,l4,O,_⟩:=Z9.cells aF;simp only [vcs] at O;subst O;have T:=aN.out _ _ Qqw aO;have bD:=Qq aF;obtain ⟨z0,z1,z2,z3,z4,r2⟩:=bE.out _ T;obtain ⟨f0,f1,f2,f3,f4⟩:=frz5 r2;obtain ⟨r0,r1,bP,r3,r4⟩:=row5 r2;have aZ:=Qq r2;clear r2;have aS:=Qq (aK.out _ T);clear aF aO)
    | (go_at_call 131;refine (aV.out _ _ _ _ _ _ _ _ _).mono ?_;rintro e w5 ⟨rfl,hb⟩;have T:=aN.out _ _ Qqw hb;clear hb))
  all_goals
   go_wp2_with fail
   show bodyPost _ _ _ _ _ (Qqm w6 w r q3 l3 q4 l4)
   refine Q7 (v:=.agg (Qqg r q3 l3 q4 l4)) (by simp [results,results140,go_sem,Zd aZ.out]) rfl ⟨_,rfl,?_,Zc aS.out (Q9 _)⟩
   exact Z9.move bD.out (fun b hb _=>Zf (by have:=bA.out b hb;omega)) Qzx
theorem Py (nm:Bs) (n:Int) (s:Bs) (names binds:List Bs) (x:Ex) (a z:Int) (env:List (Bs × Val)) (u v:Val) (hx:EvO x env (some u)) (hk4:u.kind=4) (hgv:Ys u nm=some v):EvO (.mk 8 nm n s names binds [x] a z) env (some v):=by
 have bU:=Qq hk4;have bI:=Qq hgv
 clear hk4 hgv
 intro S0 S' cs p w bX cG cF cE
 have cN:=Qq cG
 clear cG
 have he:Xv (fun b=>S0 b∧b<w) w p env:=cE.move (.refl _ _) (fun b hb h=>⟨h,hb⟩)
 obtain ⟨nv,bv,kv,rfl,dC,dL,hn,hb,hk⟩:=Yx.1 cF
 obtain ⟨np,nc,rfl,_⟩:=hn.len
 obtain ⟨bp,bc,rfl,_⟩:=hb.len
 obtain ⟨kp,kc,rfl,dA⟩:=hk.len
 obtain ⟨q,rfl⟩:=he.ptr
 obtain ⟨HE,HK,cO,cL⟩:=Qqp he hk hn hb
 obtain ⟨kl,aU⟩:=eX ([x].length)
 rw [aU] at HK dA
 have bV:=Qq aU
 clear cF he cE hn hb hk
 unfold sv
 rw [aU]
 clear aU
 go_enter func91,ntmps91
 go_upto_region 3 with fail
 generalize bD:((w.alloc _).alloc _).alloc _=w3
 have aW:=eqB bD (Xm _ _ _ _)
 have h0:=eqH (b:=w.heap.size) bD (Zp _ _ _ _)
 have h1:=eqH (b:=w.heap.size+1) bD (Zo _ _ _ _)
 have h2:=eqH (b:=w.heap.size+1+1) bD (Zi _ _ _ _)
 have dM:w.heap.size+1+1<w3.heap.size:=Z8 h2
 have c0:=rA0 h0;have c1:=rA1 h0;have c2:=rA2 h0;have c3:=rA3 h0;have c4:=rA4 h0;have c5:=rA5 h0;have c6:=rA6 h0
 obtain ⟨H0,H1,H2,cD⟩:=Qqp h0 h1 h2 aW
 have bN:=Qq (fun (k:Nat) e9 r9 (hke:[x][k]?=some e9) (hev:EvO e9 env r9) W (hbw:Below w3 w3 W) (x9:Nat) (hxl:w≤x9) (hxW:x9<W)=>Kl w (w+1) k (fun b=>S0 b∧b≠w+1+1∧b≠x9) S' kp kc [x] e9 (.pointer q) env r9 W
  (by rw [bV.out];exact (Qk _ _ 6 _ _ _ (kB hbw h0)).trans rfl) (by rw [bV.out];exact (HK.out.below aW).below hbw) ((Qk _ _ 0 _ _ _ (kB hbw h1)).trans rfl) (fun b hb=>⟨bX b (Qqz aW.size hbw.size),by have:=hbw.size;omega,Qqj⟩) (cN.out.below (aW.thn hbw)) ((HE.out.move (.of_below aW) Qzx).move (.of_below hbw) (fun b _ h=>⟨h.1,by have:=h.2;omega,by have:=h.2;omega⟩)) hke hev)
 have bJ:Hid (∀ W,Below w3 w3 W→Calls prog 132 #[Qqd,Qqc w,Qqc (w+1)] W (Xy (fun b=>S0 b∧b≠w+1+1∧b≠w+1+1) W (some u))):=Qq (fun W hW=>bN.out 0 x (some u) rfl hx W hW (w+1+1) Qqj (Qqq hW.size))
 have cZ:kl=1:=bV.out.symm
 subst cZ
 have cP:=Qq bX;have dI:=Qq dC
 have dK:w.heap.size<w3.heap.size:=Qqj
 clear h0 h1 h2 aW bD HE HK bN hx c2 c3 c4 c5 cO cL bX
 go_wp2_with fail
 go_cut [15,16] (fun dG dH wx=>R3 w3 v (.bool true) dG dH wx)
 case first=>
  clear c0 c1 c6
  have HD:=Qq (show ∀ W,(fun W=>W.heap[w.heap.size]?=some (.cells #[.int .i64 8,nm,n,s,.slice np names.length nc,.slice bp binds.length bc,.slice kp 1 kc,a,z] 46 (0,0))∧Below w w W) W→Qqa W w 1 nm∧True from fun W h=>⟨(Qk _ _ 1 _ _ _ h.1).trans rfl,trivial⟩)
  have O:=Qq (show ∀ W,Below w3 w3 W→(fun W=>W.heap[w.heap.size]?=some (.cells #[.int .i64 8,nm,n,s,.slice np names.length nc,.slice bp binds.length bc,.slice kp 1 kc,a,z] 46 (0,0))∧Below w w W) W from fun W hb=>⟨kB hb H0.out,cD.out.thn hb⟩)
  refine wp_region_held_drew (S:=fun W=>W.heap[w.heap.size]?=some (.cells #[.int .i64 8,nm,n,s,.slice np names.length nc,.slice bp binds.length bc,.slice kp 1 kc,a,z] 46 (0,0))∧Below w w W) Qqy (O.out _ (Qz _ _).drew) (fun A=>?_)
  refine tkD (v:=?_) 0 (fun T D=>?_) ?_;rotate_left
  ·(obtain ⟨c1,_⟩:=HD.out T D;go_simp;try with_reducible rfl)
  refine tkD (v:=?_) 3 (fun T D=>?_) ?_;rotate_left
  ·(obtain ⟨c1,_⟩:=HD.out T D;go_simp;try with_reducible rfl)
  refine tkD (v:=?_) 4 (fun T D=>?_) ?_;rotate_left
  ·(obtain ⟨c1,_⟩:=HD.out T D;go_simp;try with_reducible rfl)
  have aV:Hid (Below w3 w3 w3.drew):=Qq (Qz _ _).drew
  have dD:=aV.out.size
  generalize w3.drew=wd at A aV dD ⊢
  refine rsD [1,9] ?_
  refine rcD (fun K J=>?_) ?_
  ·go_simp
   refine (bJ.out _ aV.out).mono ?_
   rintro e w5 ⟨cu,rfl,hu,hb⟩
   obtain ⟨a3,cS,a4,cT,Y,_⟩:=Z9.cells hu
   simp only [vcs] at Y
   subst Y
   have HU:=Qq hu
   clear hu bJ
   have aJ:=Qq (aV.out.thn hb)
   have cH:=aJ.out.size
   clear hb
   try dsimp only
   refine J.out _ _ (O.out _ aJ.out) (fun A=>?_)
   clear J K
   refine rsD [2,9] ?_
   refine rcD (fun K J=>?_) ?_
   ·go_simp
    refine (Hc 4 _ u _ _ HU.out bU.out).mono ?_
    rintro e w6 ⟨rfl,hb⟩
    have M:=Qq (aJ.out.thn hb)
    have bT:=M.out.size
    replace HU:=Qq (Z9.move HU.out (.of_below hb) Qzx)
    clear hb
    try dsimp only
    refine J.out _ _ (O.out _ M.out) (fun A=>?_)
    clear J K
    refine rsD [5,9] ?_
    refine rcD (fun K J=>?_) ?_
    ·go_simp
     have HG:=Qq (Dn _ u _ nm w6 HU.out)
     unfold Oz at HG
     rw [bI.out] at HG
     unfold sv at HG
     refine HG.out.mono ?_
     rintro e w7 ⟨bW,rfl,aD,hb⟩
     obtain ⟨q3,l3,q4,l4,Y,_⟩:=Z9.cells aD
     simp only [vcs,Option.getD_some] at Y
     subst Y
     have HV:Hid (Z9 (fun b=>w6≤b∧b<w7) w7 (vcs v q3 l3 q4 l4) v):=Qq (Z9.move aD (.refl _ _) (fun b hb h=>⟨h,hb⟩))
     clear aD
     clear HG HU
     have I:=Qq (M.out.thn hb)
     have bG:=I.out.size
     clear hb
     try dsimp only
     refine J.out _ _ (O.out _ I.out) (fun A=>?_)
     clear J K
     refine tkD (v:=?_) 6 (fun T D=>?_) ?_;rotate_left
     ·(obtain ⟨c1,_⟩:=HD.out T D;go_simp;try with_reducible rfl)
     refine tkD (v:=?_) 7 (fun T D=>?_) ?_;rotate_left
     ·(obtain ⟨c1,_⟩:=HD.out T D;go_simp;try with_reducible rfl)
     refine tkD (v:=?_) 8 (fun T D=>?_) ?_;rotate_left
     ·(obtain ⟨c1,_⟩:=HD.out T D;go_simp;try with_reducible rfl)
     refine rdD 9 (fun K J=>?_) Qo
     go_simp
     generalize Z:World.alloc w7 _=wb
     have aK:=eqB Z (Zg _ _)
     have U:=Qq (I.out.thn aK)
     have bZ:=I.out.size
     have cB:=U.out.size
     have V:Hid (wb.heap[w7.heap.size]?=some (.cells zV 36 (0,0))):=Qq (by rw [← Z];exact Qw _ _)
     clear Z
     replace HV:=Qq (Z9.move HV.out (.of_below aK) Qzx)
     clear aK
     try dsimp only
     refine J.out _ _ (O.out _ U.out) (fun A=>?_)
     clear J K
     have aA:=V.out
     have fz:=fun j=>Qn _ _ j _ _ aA
     obtain ⟨f0,f1,f2,f3,f4⟩:=Qzj fz
     have rr:=fun j=>Qk _ _ j _ _ _ aA
     obtain ⟨r0,r1,r2,r3,r4⟩:=Qzj rr
     simp only [Qf,Qg,Qh] at r0 r1 r2 r3 r4
     clear fz rr
     refine rdD 10 (fun K J=>?_) Qo
     go_simp
     have cA:=U.out.size
     have N:Below w3 w3 (Qqm wb w7 v q3 l3 q4 l4):=Zc U.out Qqj
     have aB:(Zl wb w7 v.kind v.n v.s (.slice q3 v.names.length l3) (.slice q4 v.kids.length l4)).heap[w7.heap.size]?=some (.cells (Qqg v q3 l3 q4 l4) 36 (0,0)):=Yd V.out
     have aC:∀ k,k≠w7.heap.size→(Zl wb w7 v.kind v.n v.s (.slice q3 v.names.length l3) (.slice q4 v.kids.length l4)).heap[k]?=wb.heap[k]?:=fun k hk=>Zf hk
     unfold Zl at N aB aC
     refine J.out _ _ (O.out _ N) (fun A=>?_)
     refine tkD (v:=?_) 11 (fun T D=>?_) ?_;rotate_left
     ·(obtain ⟨c1,_⟩:=HD.out T D;go_simp;try with_reducible rfl)
     refine wpAnyH_done Qqy ?_ _
     clear J K A f0 f1 f2 f3 f4 r0 r1 r2 r3 r4 aA
     generalize World.setCell _ _ _=w9 at N aB aC ⊢
     go_wp2_with fail
     go_meet
     exact ⟨w7.heap.size,q3,l3,q4,l4,rfl,rfl,aB,Z9.move HV.out (fun b hb _=>aC b (by have:=hb.1;have:=hb.2;omega)) (fun b _ hb=>⟨by have:=hb.1;omega,by have:=hb.1;have:=hb.2;omega⟩),N,Qqj⟩
    refine rcD (fun K J=>?_) ?_
    ·go_simp
     generalize Z:World.alloc w6 _=wb
     have aK:=eqB Z (Zg _ _)
     have U:=Qq (M.out.thn aK)
     have bZ:=M.out.size
     have cB:=U.out.size
     have aL:Hid (wb.heap[w6.heap.size]?=some (.cells zV 36 (0,0))):=Qq (by rw [← Z];exact Qw _ _)
     clear Z
     replace HU:=Qq (Z9.move HU.out (.of_below aK) Qzx)
     clear aK
     try dsimp only
     refine J.out _ _ (O.out _ U.out) (fun A=>?_)
     clear J K
     refine rdD 5 (fun K J=>?_) ?_
     ·go_simp
      have HG:=Qq (Dn _ u _ nm wb HU.out)
      unfold Oz at HG
      rw [bI.out] at HG
      unfold sv at HG
      refine HG.out.mono ?_
      rintro e w7 ⟨bW,rfl,aD,hb⟩
      obtain ⟨q3,l3,q4,l4,Y,_⟩:=Z9.cells aD
      simp only [vcs,Option.getD_some] at Y
      subst Y
      have HV:Hid (Z9 (fun b=>wb≤b∧b<w7) w7 (vcs v q3 l3 q4 l4) v):=Qq (Z9.move aD (.refl _ _) (fun b hb h=>⟨h,hb⟩))
      clear aD
      clear HG HU
      have I:=Qq (U.out.thn hb)
      have bG:=I.out.size
      have V:=Qq (kB hb aL.out)
      have bF:=Z8 aL.out
      clear hb
      try dsimp only
      refine J.out _ _ (O.out _ I.out) (fun A=>?_)
      clear J K
      refine tkD (v:=?_) 6 (fun T D=>?_) ?_;rotate_left
      ·(obtain ⟨c1,_⟩:=HD.out T D;go_simp;try with_reducible rfl)
      refine tkD (v:=?_) 7 (fun T D=>?_) ?_;rotate_left
      ·(obtain ⟨c1,_⟩:=HD.out T D;go_simp;try with_reducible rfl)
      refine tkD (v:=?_) 8 (fun T D=>?_) ?_;rotate_left
      ·(obtain ⟨c1,_⟩:=HD.out T D;go_simp;try with_reducible rfl)
      have aA:=V.out
      have fz:=fun j=>Qn _ _ j _ _ aA
      obtain ⟨f0,f1,f2,f3,f4⟩:=Qzj fz
      have rr:=fun j=>Qk _ _ j _ _ _ aA
      obtain ⟨r0,r1,r2,r3,r4⟩:=Qzj rr
      simp only [Qf,Qg,Qh] at r0 r1 r2 r3 r4
      clear fz rr
      refine rdD 10 (fun K J=>?_) Qo
      go_simp
      have cA:=I.out.size
      have N:Below w3 w3 (Qqm w7 w6 v q3 l3 q4 l4):=Zc I.out Qqj
      have aB:(Zl w7 w6 v.kind v.n v.s (.slice q3 v.names.length l3) (.slice q4 v.kids.length l4)).heap[w6.heap.size]?=some (.cells (Qqg v q3 l3 q4 l4) 36 (0,0)):=Yd V.out
      have aC:∀ k,k≠w6.heap.size→(Zl w7 w6 v.kind v.n v.s (.slice q3 v.names.length l3) (.slice q4 v.kids.length l4)).heap[k]?=w7.heap[k]?:=fun k hk=>Zf hk
      unfold Zl at N aB aC
      refine J.out _ _ (O.out _ N) (fun A=>?_)
      refine tkD (v:=?_) 11 (fun T D=>?_) ?_;rotate_left
      ·(obtain ⟨c1,_⟩:=HD.out T D;go_simp;try with_reducible rfl)
      refine wpAnyH_done Qqy ?_ _
      clear J K A f0 f1 f2 f3 f4 r0 r1 r2 r3 r4 aA
      generalize World.setCell _ _ _=w9 at N aB aC ⊢
      go_wp2_with fail
      go_meet
      exact ⟨w6.heap.size,q3,l3,q4,l4,rfl,rfl,aB,Z9.move HV.out (fun b hb _=>aC b (by have:=hb.1;have:=hb.2;omega)) (fun b _ hb=>⟨by have:=hb.1;omega,by have:=hb.1;have:=hb.2;omega⟩),N,Qqj⟩
     exact Qo
    exact Qo
   refine rcD (fun K J=>?_) ?_
   ·go_simp
    generalize Z:World.alloc w5 _=wb
    have aK:=eqB Z (Zg _ _)
    have U:=Qq (aJ.out.thn aK)
    have bZ:=aJ.out.size
    have cB:=U.out.size
    have aQ:Hid (wb.heap[w5.heap.size]?=some (.cells zV 36 (0,0))):=Qq (by rw [← Z];exact Qw _ _)
    clear Z
    replace HU:=Qq (Z9.move HU.out (.of_below aK) Qzx)
    clear aK
    try dsimp only
    refine J.out _ _ (O.out _ U.out) (fun A=>?_)
    clear J K
    refine rdD 2 (fun K J=>?_) ?_
    ·go_simp
     refine (Hc 4 _ u _ _ HU.out bU.out).mono ?_
     rintro e w6 ⟨rfl,hb⟩
     have M:=Qq (U.out.thn hb)
     have bT:=M.out.size
     have aL:=Qq (kB hb aQ.out)
     have bF:=Z8 aQ.out
     replace HU:=Qq (Z9.move HU.out (.of_below hb) Qzx)
     clear hb
     try dsimp only
     refine J.out _ _ (O.out _ M.out) (fun A=>?_)
     clear J K
     refine rdD 5 (fun K J=>?_) ?_
     ·go_simp
      have HG:=Qq (Dn _ u _ nm w6 HU.out)
      unfold Oz at HG
      rw [bI.out] at HG
      unfold sv at HG
      refine HG.out.mono ?_
      rintro e w7 ⟨bW,rfl,aD,hb⟩
      obtain ⟨q3,l3,q4,l4,Y,_⟩:=Z9.cells aD
      simp only [vcs,Option.getD_some] at Y
      subst Y
      have HV:Hid (Z9 (fun b=>w6≤b∧b<w7) w7 (vcs v q3 l3 q4 l4) v):=Qq (Z9.move aD (.refl _ _) (fun b hb h=>⟨h,hb⟩))
      clear aD
      clear HG HU
      have I:=Qq (M.out.thn hb)
      have bG:=I.out.size
      have V:=Qq (kB hb aL.out)
      have bF:=Z8 aL.out
      clear hb
      try dsimp only
      refine J.out _ _ (O.out _ I.out) (fun A=>?_)
      clear J K
      refine tkD (v:=?_) 6 (fun T D=>?_) ?_;rotate_left
      ·(obtain ⟨c1,_⟩:=HD.out T D;go_simp;try with_reducible rfl)
      refine tkD (v:=?_) 7 (fun T D=>?_) ?_;rotate_left
      ·(obtain ⟨c1,_⟩:=HD.out T D;go_simp;try with_reducible rfl)
      refine tkD (v:=?_) 8 (fun T D=>?_) ?_;rotate_left
      ·(obtain ⟨c1,_⟩:=HD.out T D;go_simp;try with_reducible rfl)
      have aA:=V.out
      have fz:=fun j=>Qn _ _ j _ _ aA
      obtain ⟨f0,f1,f2,f3,f4⟩:=Qzj fz
      have rr:=fun j=>Qk _ _ j _ _ _ aA
      obtain ⟨r0,r1,r2,r3,r4⟩:=Qzj rr
      simp only [Qf,Qg,Qh] at r0 r1 r2 r3 r4
      clear fz rr
      refine rdD 10 (fun K J=>?_) Qo
      go_simp
      have cA:=I.out.size
      have N:Below w3 w3 (Qqm w7 w5 v q3 l3 q4 l4):=Zc I.out Qqj
      have aB:(Zl w7 w5 v.kind v.n v.s (.slice q3 v.names.length l3) (.slice q4 v.kids.length l4)).heap[w5.heap.size]?=some (.cells (Qqg v q3 l3 q4 l4) 36 (0,0)):=Yd V.out
      have aC:∀ k,k≠w5.heap.size→(Zl w7 w5 v.kind v.n v.s (.slice q3 v.names.length l3) (.slice q4 v.kids.length l4)).heap[k]?=w7.heap[k]?:=fun k hk=>Zf hk
      unfold Zl at N aB aC
      refine J.out _ _ (O.out _ N) (fun A=>?_)
      refine tkD (v:=?_) 11 (fun T D=>?_) ?_;rotate_left
      ·(obtain ⟨c1,_⟩:=HD.out T D;go_simp;try with_reducible rfl)
      refine wpAnyH_done Qqy ?_ _
      clear J K A f0 f1 f2 f3 f4 r0 r1 r2 r3 r4 aA
      generalize World.setCell _ _ _=w9 at N aB aC ⊢
      go_wp2_with fail
      go_meet
      exact ⟨w5.heap.size,q3,l3,q4,l4,rfl,rfl,aB,Z9.move HV.out (fun b hb _=>aC b (by have:=hb.1;have:=hb.2;omega)) (fun b _ hb=>⟨by have:=hb.1;omega,by have:=hb.1;have:=hb.2;omega⟩),N,Qqj⟩
     exact Qo
    exact Qo
   exact Qo
  refine rcD (fun K J=>?_) ?_
  ·go_simp
   generalize Z:World.alloc wd _=wb
   have aK:=eqB Z (Zg _ _)
   have U:=Qq (aV.out.thn aK)
   have bZ:=aV.out.size
   have cB:=U.out.size
   have bO:Hid (wb.heap[wd.heap.size]?=some (.cells zV 36 (0,0))):=Qq (by rw [← Z];exact Qw _ _)
   clear Z
   clear aK
   try dsimp only
   refine J.out _ _ (O.out _ U.out) (fun A=>?_)
   clear J K
   refine rdD 1 (fun K J=>?_) ?_
   ·go_simp
    refine (bJ.out _ U.out).mono ?_
    rintro e w5 ⟨cu,rfl,hu,hb⟩
    obtain ⟨a3,cS,a4,cT,Y,_⟩:=Z9.cells hu
    simp only [vcs] at Y
    subst Y
    have HU:=Qq hu
    clear hu bJ
    have aJ:=Qq (U.out.thn hb)
    have cH:=aJ.out.size
    have aQ:=Qq (kB hb bO.out)
    have bF:=Z8 bO.out
    clear hb
    try dsimp only
    refine J.out _ _ (O.out _ aJ.out) (fun A=>?_)
    clear J K
    refine rdD 2 (fun K J=>?_) ?_
    ·go_simp
     refine (Hc 4 _ u _ _ HU.out bU.out).mono ?_
     rintro e w6 ⟨rfl,hb⟩
     have M:=Qq (aJ.out.thn hb)
     have bT:=M.out.size
     have aL:=Qq (kB hb aQ.out)
     have bF:=Z8 aQ.out
     replace HU:=Qq (Z9.move HU.out (.of_below hb) Qzx)
     clear hb
     try dsimp only
     refine J.out _ _ (O.out _ M.out) (fun A=>?_)
     clear J K
     refine rdD 5 (fun K J=>?_) ?_
     ·go_simp
      have HG:=Qq (Dn _ u _ nm w6 HU.out)
      unfold Oz at HG
      rw [bI.out] at HG
      unfold sv at HG
      refine HG.out.mono ?_
      rintro e w7 ⟨bW,rfl,aD,hb⟩
      obtain ⟨q3,l3,q4,l4,Y,_⟩:=Z9.cells aD
      simp only [vcs,Option.getD_some] at Y
      subst Y
      have HV:Hid (Z9 (fun b=>w6≤b∧b<w7) w7 (vcs v q3 l3 q4 l4) v):=Qq (Z9.move aD (.refl _ _) (fun b hb h=>⟨h,hb⟩))
      clear aD
      clear HG HU
      have I:=Qq (M.out.thn hb)
      have bG:=I.out.size
      have V:=Qq (kB hb aL.out)
      have bF:=Z8 aL.out
      clear hb
      try dsimp only
      refine J.out _ _ (O.out _ I.out) (fun A=>?_)
      clear J K
      refine tkD (v:=?_) 6 (fun T D=>?_) ?_;rotate_left
      ·(obtain ⟨c1,_⟩:=HD.out T D;go_simp;try with_reducible rfl)
      refine tkD (v:=?_) 7 (fun T D=>?_) ?_;rotate_left
      ·(obtain ⟨c1,_⟩:=HD.out T D;go_simp;try with_reducible rfl)
      refine tkD (v:=?_) 8 (fun T D=>?_) ?_;rotate_left
      ·(obtain ⟨c1,_⟩:=HD.out T D;go_simp;try with_reducible rfl)
      have aA:=V.out
      have fz:=fun j=>Qn _ _ j _ _ aA
      obtain ⟨f0,f1,f2,f3,f4⟩:=Qzj fz
      have rr:=fun j=>Qk _ _ j _ _ _ aA
      obtain ⟨r0,r1,r2,r3,r4⟩:=Qzj rr
      simp only [Qf,Qg,Qh] at r0 r1 r2 r3 r4
      clear fz rr
      refine rdD 10 (fun K J=>?_) Qo
      go_simp
      have cA:=I.out.size
      have N:Below w3 w3 (Qqm w7 wd v q3 l3 q4 l4):=Zc I.out Qqj
      have aB:(Zl w7 wd v.kind v.n v.s (.slice q3 v.names.length l3) (.slice q4 v.kids.length l4)).heap[wd.heap.size]?=some (.cells (Qqg v q3 l3 q4 l4) 36 (0,0)):=Yd V.out
      have aC:∀ k,k≠wd.heap.size→(Zl w7 wd v.kind v.n v.s (.slice q3 v.names.length l3) (.slice q4 v.kids.length l4)).heap[k]?=w7.heap[k]?:=fun k hk=>Zf hk
      unfold Zl at N aB aC
      refine J.out _ _ (O.out _ N) (fun A=>?_)
      refine tkD (v:=?_) 11 (fun T D=>?_) ?_;rotate_left
      ·(obtain ⟨c1,_⟩:=HD.out T D;go_simp;try with_reducible rfl)
      refine wpAnyH_done Qqy ?_ _
      clear J K A f0 f1 f2 f3 f4 r0 r1 r2 r3 r4 aA
      generalize World.setCell _ _ _=w9 at N aB aC ⊢
      go_wp2_with fail
      go_meet
      exact ⟨wd.heap.size,q3,l3,q4,l4,rfl,rfl,aB,Z9.move HV.out (fun b hb _=>aC b (by have:=hb.1;have:=hb.2;omega)) (fun b _ hb=>⟨by have:=hb.1;omega,by have:=hb.1;have:=hb.2;omega⟩),N,Qqj⟩
     exact Qo
    exact Qo
   exact Qo
  exact Qo
 obtain ⟨G,q3,l3,q4,l4,rfl,rfl,hG,hV,hb,dJ⟩:=hcut
 obtain ⟨w9,rfl⟩:∃ w9,w9=wc:=⟨_,rfl⟩
 have cQ:=Qq hV;have cK:=Qq (cD.out.thn hb)
 have bL:=kB hb H2.out
 have HR:=Qq bL
 have fz:=fun j=>Qn _ _ j _ _ bL
 obtain ⟨f0,f1,f2,f3,f4⟩:=Qzj fz
 have rr:=fun j=>Qk _ _ j _ _ _ bL
 obtain ⟨r0,r1,r2,r3,r4⟩:=Qzj rr
 simp only [Qf,Qg,Qh] at r0 r1 r2 r3 r4
 clear fz rr
 have fz:=fun j=>Qn _ _ j _ _ hG
 obtain ⟨g0,g1,g2,g3,g4⟩:=Qzj fz
 have rr:=fun j=>Qk _ _ j _ _ _ hG
 obtain ⟨y0,y1,y2,y3,y4⟩:=Qzj rr
 simp only [Qf,Qg,Qh] at y0 y1 y2 y3 y4
 clear fz rr
 clear bL hG hV hb
 have HM:=Qq X8
 go_wp2_with (go_at_call 134;refine (HM.out _).mono ?_;rintro e w' ⟨rfl,rfl⟩)
 show bodyPost _ _ _ _ _ (Qqm w9 (w+1+1) v q3 l3 q4 l4)
 refine Q7 (v:=.agg (Qqg v q3 l3 q4 l4)) (by simp [results,results91,go_sem,Zd HR.out]) rfl ⟨_,rfl,?_,Zc cK.out Qqj⟩
 exact Z9.move cQ.out (fun b hb _=>Zf (by have:=hb.1;omega)) (fun b _ h=>cP.out b (by have:=h.1;omega))
end Go.Proofs.YtdpibdpbgokmoaaGreatDoor
