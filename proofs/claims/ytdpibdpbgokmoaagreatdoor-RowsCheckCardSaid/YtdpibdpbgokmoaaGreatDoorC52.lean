/- RowsCheck returns true for every input, and each argument reads afterwards as it read before. Condition: when the call begins, the listed package variables hold what the program's own text lays there (tied to that text). -/
import Derived.Test.YtdpibdpbgokmoaaGreatDoorC41
import Derived.Test.YtdpibdpbgokmoaaGreatDoorC42
import Derived.Test.YtdpibdpbgokmoaaGreatDoorC51
import Derived.Test.YtdpibdpbgokmoaaGreatDoorRows
import Derived.Test.YtdpibdpbgokmoaaGreatDoorCards
import Derived.Test.YtdpibdpbgokmoaaGreatDoorTie
set_option maxRecDepth 100000
set_option maxHeartbeats 400000000
namespace Go.Proofs.YtdpibdpbgokmoaaGreatDoor
open Go.RowKit Go.Shelf Go.Lib _root_.Go.Proofs.Tryz
theorem Hy (c:UInt8) (h1:F5 c=true) (h2:tk Fy [c]=1) (h3:Bo [c]=false):Va [c]:=
 ⟨Qqk,Qqk,by intro d hd;simp at hd;subst hd;exact h1,h2,h3⟩
theorem hue_gen:J0 [Gen.hue]:=by
 intro u hu c A
 obtain rfl:=Z5.1 hu
 rcases Z3.1 A with rfl | A
 ·exact ⟨.inl rfl,⟨Qqx,Qqx,by intro c A;simp at A;subst A;decide,Qqx⟩⟩
 obtain rfl:=Z5.1 A
 exact ⟨.inl rfl,⟨Qqx,Qqx,by intro c A;simp at A;subst A;decide,Qqx⟩⟩
theorem t_gen (key:List Bs) (refs:List Rf) (x:Ex) (hr:refs.length≤1000):Df ⟨[116],[⟨[97],Gen.whole⟩,⟨[98],Gen.whole⟩,⟨[99],Gen.text⟩,⟨[100],Gen.yesno⟩,⟨[101],Gen.hueT⟩],key,refs,x⟩ where
 few:=Qqk
 refs:=hr
 words:=by
  intro c A
  simp only [Z3,Z2,or_false] at A
  rcases A with rfl | rfl | rfl | rfl | rfl
  all_goals exact Hy _ Qqx Qqx Qqx
 once:=Qqk
 types:=by
  intro c A
  simp only [Z3,Z2,or_false] at A
  rcases A with rfl | rfl | rfl | rfl | rfl
  ·exact .inl (.inl rfl)
  ·exact .inl (.inl rfl)
  ·exact .inl (.inr (.inl rfl))
  ·exact .inl (.inr (.inr rfl))
  exact .inr rfl
theorem u_gen:Df ⟨[117],[⟨[107],Gen.whole⟩,⟨[110],Gen.text⟩],[[107]],[],Gen.yes⟩ where
 few:=Qqk
 refs:=Qqk
 words:=by
  intro c A
  simp only [Z3,Z2,or_false] at A
  rcases A with rfl | rfl
  all_goals exact Hy _ Qqx Qqx Qqx
 once:=Qqk
 types:=by
  intro c A
  simp only [Z3,Z2,or_false] at A
  rcases A with rfl | rfl
  ·exact .inl (.inl rfl)
  exact .inl (.inr (.inl rfl))
theorem v_gen:Df ⟨[118],[⟨[120],Gen.whole⟩,⟨[121],Gen.whole⟩],[[120]],[⟨[121],[118]⟩,⟨[120],[117]⟩],Gen.yes⟩ where
 few:=Qqk
 refs:=Qqk
 words:=by
  intro c A
  simp only [Z3,Z2,or_false] at A
  rcases A with rfl | rfl
  all_goals exact Hy _ Qqx Qqx Qqx
 once:=Qqk
 types:=by
  intro c A
  simp only [Z3,Z2,or_false] at A
  rcases A with rfl | rfl
  all_goals exact .inl (.inl rfl)
theorem Hl {k:Nat} {two ref third:Bool} {t:Tbl} (h:t ∈ (Gen.schema k two ref third).tables):Df t∧t.key.length≤2∧(t.check=Gen.check k∨t.check=Gen.yes):=by
 unfold Gen.schema at h
 rcases Z4.1 h with h | h
 ·rcases Z3.1 h with rfl | h
  ·refine ⟨t_gen _ _ _ (by cases ref <;> simp),?_,.inl rfl⟩
   cases two <;> simp
  obtain rfl:=Z5.1 h
  exact ⟨u_gen,Qqk,.inr rfl⟩
 cases third with
 | false=>simp at h
 | true=>
  obtain rfl:=Z5.1 h
  exact ⟨v_gen,Qqk,.inr rfl⟩
theorem Fo (k:Nat) (two ref third:Bool):Oy (Gen.schema k two ref third) where
 sums:=hue_gen
 gen:=fun t D=>(Hl D).1
 ok:=fun t D=>by
  obtain ⟨h1,h2,A⟩:=Hl D
  refine ⟨Qqj,by have:=h1.few;omega,h1.types,?_⟩
  rcases A with A | A
  ·rw [A];exact Ow k
  rw [A];exact Qjb
 few:=by cases third <;> simp [Gen.schema]
 once:=by cases third <;> simp [Gen.schema]
theorem Di {k:Nat} {two ref third:Bool} {t:Tbl} (h:t ∈ (Gen.schema k two ref third).tables):Ar (Gen.schema k two ref third) t:=by
 have hu:(Y0 (Gen.schema k two ref third).tables [117]).isSome=true:=by cases third <;> rfl
 unfold Gen.schema at h
 rcases Z4.1 h with h | h
 ·rcases Z3.1 h with rfl | h
  ·refine ⟨Eg (by simp only [List.pairwise_cons];decide),Qqk,Qqk,?_,by cases two <;> simp,by cases two <;> simp,?_⟩
   ·intro q D
    have G:q=[98]∨q=[97]:=by cases two <;> simp at D <;> simp [D]
    rcases G with rfl | rfl
    ·exact ⟨1,_,rfl,rfl,rfl⟩
    exact ⟨0,_,rfl,rfl,rfl⟩
   intro r A
   have I:r.table=[117]:=by cases ref <;> simp at A <;> simp [A]
   rw [I];exact hu
  obtain rfl:=Z5.1 h
  refine ⟨Eg Qqx,Qqk,Qqk,?_,Qqk,Qqk,fun r A=>by simp at A⟩
  intro q D
  obtain rfl:=Z5.1 D
  exact ⟨0,_,rfl,rfl,rfl⟩
 cases third with
 | false=>simp at h
 | true=>
  obtain rfl:=Z5.1 h
  refine ⟨Eg Qqx,Qqk,Qqk,?_,Qqk,Qqk,?_⟩
  ·intro q D
   obtain rfl:=Z5.1 D
   exact ⟨0,_,rfl,rfl,rfl⟩
  intro r A
  rcases Z3.1 A with rfl | A
  ·rfl
  obtain rfl:=Z5.1 A
  rfl
theorem Se {k:Nat} {two ref third:Bool} {t:Tbl} (h:t ∈ (Gen.schema k two ref third).tables) {v:Val} (hv:Y2 v) (hty:J9 [Gen.hue] t v=true):Bm t v (Vt 8 t v):=by
 unfold Gen.schema at h
 rcases Z4.1 h with h | h
 ·rcases Z3.1 h with rfl | h
  ·exact sat_t rfl rfl hv hty
  obtain rfl:=Z5.1 h
  exact Wb rfl hv
 cases third with
 | false=>simp at h
 | true=>
  obtain rfl:=Z5.1 h
  exact Wb rfl hv
def cfP (s:Sc) (l:List Rel):Nat→Nat→Ft:=cfOf s l (fun i=>J9 s.sums (s.tables.getD i Tbl.zero)) (fun i=>Vt 8 (s.tables.getD i Tbl.zero)) (fun i=>N2 (s.tables.getD i Tbl.zero))
theorem genCheck {k:Nat} {two ref third:Bool} (S0 S1:Nat→Prop) (cs:List Value) (lv:Value) (l:List Rel) (w:World) (hs:Xu S0 w cs (Gen.schema k two ref third)) (hl:Sl Y7 S1 w lv l) (hkw:Xl w) (hg:∀ r ∈ l,(∀ v ∈ r.rows,Vp v)∧r.rows.length≤8):
  Calls prog 9 #[cs,lv] w (Xt w (Gen.schema k two ref third) l (cfP (Gen.schema k two ref third) l)):=by
 have hG:=Fo k two ref third
 have I:∀ t ∈ (Gen.schema k two ref third).tables,Ar (Gen.schema k two ref third) t:=fun t J=>Di J
 have G:∀ t ∈ (Gen.schema k two ref third).tables,∀ v,Y2 v→J9 (Gen.schema k two ref third).sums t v=true→Bm t v (Vt 8 t v):=fun t J v U h=>Se J U h
 generalize Gen.schema k two ref third=s at hs hG I G ⊢
 have T:Ko s.sums:=fun u hu c O=>(hG.sums u hu c O).1
 refine To S0 S1 s cs lv l (fun i=>J9 s.sums (s.tables.getD i Tbl.zero)) (fun i=>Vt 8 (s.tables.getD i Tbl.zero)) (fun i=>N2 (s.tables.getD i Tbl.zero)) w hs hl hkw (fun t J=>(hG.ok t J).key) (fun i t r J hr=>?_)
 have e2:s.tables.getD i Tbl.zero=t:=by rw [Qs,J];rfl
 have D:=Qy J
 have A:=hg r (Qy hr)
 have M:=I t D
 simp only [e2]
 exact ⟨M.srt,M.few,M.some,fun x N=>⟨(A.1 x N).good,Sp s.sums x [] _ _ (Mh s.sums) (fun u _ y hy=>by
  obtain ⟨c,O,rfl⟩:=List.mem_map.1 hy
  exact hasP_at s.sums T u c.type ((hG.ok t D).types c O))⟩,fun h=>Rx M (fun v U=>(A.1 v U).good) h,by have:=A.2;omega,(hG.ok t D).key,fun h x N=>G t D x (A.1 x N).good (h x N)⟩
theorem eqL_dec {a b:List Bs}:eqL (fun x y=>decide (x=y)) a b=decide (a=b):=by
 by_cases h:a=b
 ·subst h
  rw [decide_eq_true rfl]
  exact Nk (fun x=>Qqk) a
 rw [decide_eq_false h]
 cases e:eqL (fun x y=>decide (x=y)) a b with
 | false=>rfl
 | true=>exact absurd (T1 e) h
theorem Cg {us:List Sm} {t:Tbl} (h:Jt t.columns=(t.columns.map Col.name,t.columns.map Col.type)):J9 us t=D9 us t:=by
 funext v
 unfold J9 A9 D9
 rw [h,eqL_dec]
theorem B7 {k:Nat} {two ref third:Bool} {t:Tbl} (h:t ∈ (Gen.schema k two ref third).tables):Jt t.columns=(t.columns.map Col.name,t.columns.map Col.type):=by
 unfold Gen.schema at h
 rcases Z4.1 h with h | h
 ·rcases Z3.1 h with rfl | h
  ·rfl
  obtain rfl:=Z5.1 h;rfl
 cases third with
 | false=>simp at h
 | true=>obtain rfl:=Z5.1 h;rfl
theorem Wz {s:Sc} {l:List Rel} (hS:∀ t ∈ s.tables,Ar s t) (hR:∀ t ∈ s.tables,Jt t.columns=(t.columns.map Col.name,t.columns.map Col.type)) (hg:∀ r ∈ l,∀ v ∈ r.rows,Y2 v) (hlen:l.length=s.tables.length) (c i:Nat) (hc:c<5) (hi:i<s.tables.length) (hz:∀ c' i',i'<s.tables.length→c'<c→(cfP s l c' i').code=0):cfP s l c i=cfR s l c i:=by
 obtain ⟨t,ht⟩:∃ t,s.tables[i]?=some t:=⟨_,Qx hi⟩
 obtain ⟨r,hr⟩:∃ r,l[i]?=some r:=⟨_,Qx Qqj⟩
 have e1:(l.getD i ⟨[],[]⟩).rows=r.rows:=by rw [Qs,hr];rfl
 have e2:s.tables.getD i Tbl.zero=t:=by rw [Qs,ht];rfl
 have D:=Qy ht
 match c,hc with
 | 0,_=>rfl
 | 1,_=>
  show Xi 9 (J9 s.sums (s.tables.getD i Tbl.zero)) _=Xi 9 (D9 s.sums (s.tables.getD i Tbl.zero)) _
  rw [e2,Cg (hR t D)]
 | 2,_=>
  have h1:(Xi 9 (J9 s.sums (s.tables.getD i Tbl.zero)) (l.getD i ⟨[],[]⟩).rows).code=0:=hz 1 i hi Qqj
  show Uo (l.getD i ⟨[],[]⟩).rows (ust (l.getD i ⟨[],[]⟩).rows.length ((l.getD i ⟨[],[]⟩).rows.map fun x=>kb (N2 (s.tables.getD i Tbl.zero) x)) (l.getD i ⟨[],[]⟩).rows.length)=Ju (Jb (s.tables.getD i Tbl.zero)) (l.getD i ⟨[],[]⟩).rows
  rw [e1,e2] at h1 ⊢
  have G:=Np Qqx h1
  have hk:=fun x (A:x ∈ r.rows)=>Ez (hS t D) (hg r (Qy hr) x A) (G x A)
  exact Ce (m:=t.key.length) (fun x A=>by unfold Jb;rw [(hk x A).1];rfl) (fun x A=>(hk x A).2.1)
 | 3,_=>rfl
 | 4,_=>rfl
theorem Pl {k:Nat} {two ref third:Bool} {l:List Rel} {w w2:World} {e e2:Ending} {W W2:World} (hg:∀ r ∈ l,∀ v ∈ r.rows,Y2 v) (h:Xt w (Gen.schema k two ref third) l (cfP (Gen.schema k two ref third) l) e W) (h2:Xt w2 (Gen.schema k two ref third) l (cfR (Gen.schema k two ref third) l) e2 W2):
  ∃ f,Dq (fun b=>b<w) w f e W∧Dq (fun b=>b<w2) w2 f e2 W2∧RF (Gen.schema k two ref third) l f:=by
 obtain ⟨f,h1,h3,hf⟩:=h
 obtain ⟨f',A,D,G⟩:=h2
 have e:f=f':=by
  cases hn:Uy (Gen.schema k two ref third) l with
  | false=>rw [h3 hn,D hn]
  | true=>exact Hq (h1 hn) (A hn) (Wz (fun t I=>Di I) (fun t I=>B7 I) hg (Kq hn).1.symm)
 subst e
 exact ⟨f,hf,G,A,D⟩
theorem ok_same {k:Nat} {two ref third:Bool} {l:List Rel} {w W:World} {e:Ending} (hg:∀ r ∈ l,∀ v ∈ r.rows,Y2 v) (hok:Ox (Gen.schema k two ref third) l) (h:Xt w (Gen.schema k two ref third) l (cfP (Gen.schema k two ref third) l) e W):
  (∃ x1 x2 x3 x4 x5 x6 x7 x8 x9 x10 x11:Value,e=.returned (.agg #[Qqd,x1,x2,x3,x4,x5,x6,x7,x8,x9,x10,x11]))∧Below w w W:=by
 obtain ⟨f,h1,_,D,rfl,hf,hb⟩:=h
 have hn:=hok.1
 have e:f=Ft.zero:=Hq (h1 hn) (.inl ⟨rfl,hok.2⟩) (Wz (fun t A=>Di A) (fun t A=>B7 A) hg (Kq hn).1.symm)
 subst e
 obtain ⟨p3,k3,p4,k4,q3,l3,q4,l4,rfl,_⟩:=Vc hf
 exact ⟨⟨_,_,_,_,_,_,_,_,_,_,_,rfl⟩,hb⟩
theorem ft_of {S:Nat→Prop} {w W:World} {f:Ft} {cs:List Value} (h:Dq S w f (.returned (.agg cs.toArray)) W):Fj S W cs f:=by
 obtain ⟨A,he,hf,_⟩:=h
 obtain rfl:cs=A:=by simpa using he
 exact hf
theorem L9 (HCk:Kx) (S1 S2 S3:Nat→Prop) (lv nv mv:Value) (ls ns ms:List Int) (w:World) (hl0:Xc S1 w lv ls) (hn0:Xc S2 w nv ns) (hm0:Xc S3 w mv ms) (hi1:Ub ls) (hi2:Ub ns) (hi3:Ub ms) (hkw:Xl w):
  Calls prog 3 #[lv,nv,mv] w fun e w'=>e=.returned (.bool true)∧Below w w w':=by
 obtain ⟨s,V⟩:=eX (Gen.schema (Yp ls 0 13).toNat (Yp ls 1 3==0) (decide (0<Yp ls 2 3)) (Yp ls 3 2==0))
 have hG:Oy s:=by rw [← V];exact Fo _ _ _ _
 have cU:0<s.tables.length:=by rw [← V];simp [Gen.schema]
 have bE:∀ (S0 S1:Nat→Prop) (cs:List Value) (lv:Value) (l:List Rel) (w:World),Xu S0 w cs s→Sl Y7 S1 w lv l→Xl w→(∀ r ∈ l,(∀ v ∈ r.rows,Vp v)∧r.rows.length≤8)→Calls prog 9 #[cs,lv] w (Xt w s l (cfP s l)):=by
  rw [← V]
  exact fun S0 S1 cs lv l w U h2 h3 h4=>genCheck S0 S1 cs lv l w U h2 h3 h4
 have aM:∀ (l:List Rel) (w w2:World) (cs bO:List Value) (W W2:World),(∀ r ∈ l,∀ v ∈ r.rows,Y2 v)→Xt w s l (cfP s l) (.returned (.agg cs.toArray)) W→Xt w2 s l (cfR s l) (.returned (.agg bO.toArray)) W2→∃ f,Fj (fun b=>b<w) W cs f∧Fj (fun b=>b<w2) W2 bO f:=by
  rw [← V]
  intro l w w2 cs bO W W2 U h2 h3
  obtain ⟨f,h4,h5,_⟩:=Pl U h2 h3
  exact ⟨f,ft_of h4,ft_of h5⟩
 have bF:∀ (l:List Rel) (w:World) (e:Ending) (W:World),(∀ r ∈ l,∀ v ∈ r.rows,Y2 v)→Ox s l→Xt w s l (cfP s l) e W→(∃ x1 x2 x3 x4 x5 x6 x7 x8 x9 bR bS:Value,e=.returned (.agg #[Qqd,x1,x2,x3,x4,x5,x6,x7,x8,x9,bR,bS]))∧Below w w W:=by
  rw [← V]
  exact fun l w e W U h2 h3=>ok_same U h2 h3
 have bB:=Qq ((O5 S1 lv ls (Yp ls 0 13).toNat _ _ _ w hl0 hi1 (fun W hW=>O8 S1 lv ls W (hl0.below hW) hi1) rfl rfl rfl).mono (R':=fun e w'=>∃ up m1 uc tp m2 tc,e=.returned (.agg #[.slice up m1 uc,.slice tp m2 tc])∧Xu (fun _=>True) w' [.slice up m1 uc,.slice tp m2 tc] s∧Below w w w') (by
  rintro e w' ⟨cs,rfl,U,h2⟩
  rw [V] at U
  obtain ⟨uv,tv,rfl,hu,ht⟩:=U
  obtain ⟨up,uc,rfl,_⟩:=hu.len
  obtain ⟨tp,tc,rfl,_⟩:=ht.len
  exact ⟨_,_,_,_,_,_,rfl,⟨_,_,rfl,hu.mono (fun _ _ _=>trivial),ht.mono (fun _ _ _=>trivial)⟩,h2⟩))
 obtain ⟨J,dC,cZ,cF,dB⟩:=Qqr hG cU hkw hn0 hm0;obtain ⟨cE,cY,aJ,aL,cG⟩:=Qqr hi2 hi3 bE aM bF
 obtain ⟨lp,lc,rfl,_⟩:=hl0.len
 obtain ⟨np,nc,rfl,_⟩:=hn0.len
 obtain ⟨mp,mc,rfl,_⟩:=hm0.len
 clear V hG cU hkw hn0 hm0 hl0 hi1 hi2 hi3 bE aM bF
 go_enter func3,ntmps3
 go_upto_region 2 with (go_at_call 5;refine bB.out.mono ?_;rintro e w1 ⟨up,m1,uc,tp,m2,tc,rfl,bG,cM⟩;have aY:=Qq bG;have cX:=Qq cM;clear bG cM)
 generalize bP:w1.alloc _=W2
 have bQ:=eqB bP (Zg _ _)
 have aQ:=eqH (b:=w1.heap.size) bP (Qw _ _)
 obtain ⟨aZ,bU,dH⟩:=Qqo (aY.out.below bQ) (cX.out.thn bQ) aQ
 obtain ⟨c0,c1⟩:=row2 aQ
 have cS:=Z8 aQ
 clear bP bQ aQ aY
 have cJ:=Qq (Lt HCk s J.out _ S2 _ (.slice np ns.length nc) ns W2 aZ.out (cF.out.below bU.out) cE.out)
 go_upto_region 3 with (go_at_call 6;refine cJ.out.mono ?_;rintro e w3 ⟨a,ap,ac,css,rfl,cV,cR,hO,cN⟩;obtain ⟨dD,bM,HO,bK⟩:=Qqp cV cR hO cN;clear cV cR hO cN)
 have bJ:=Qq (show ∀ r ∈ a,(∀ v ∈ r.rows,Vp v)∧r.rows.length≤8 from fun r hr=>⟨bM.out.rows r hr,Qc (bM.out.few r hr) Qqj⟩)
 have dM:a.length≤1000:=by have U:=bM.out.len;have h2:=J.out.few;omega
 have cI:=Qq ((HO.out.sl (S':=fun b=>W2≤b) Qqj (fun _ h=>h) Qzx).rel)
 obtain ⟨an,cL⟩:=eX (a.length)
 rw [cL] at cI ⊢
 have aR:=kE bK.out cS dH.out
 obtain ⟨dI,bA,aF⟩:=Qqo aR (aZ.out.below bK.out) (bU.out.thn bK.out)
 have cT:=Z8 aR
 clear c0 c1 cJ bB HO
 obtain ⟨c0,c1⟩:=row2 aR
 clear aR
 have bY:=Qq (Pr HCk s J.out dC.out _ S2 S3 _ (.slice np ns.length nc) (.slice mp ms.length mc) ns ms w3 bA.out (cF.out.below aF.out) (dB.out.below aF.out) cE.out cY.out)
 go_upto_region 4 with (go_at_call 7;refine bY.out.mono ?_;rintro e O ⟨b,bp,bc,rfl,cP,dN,-,cK,cO⟩;obtain ⟨bL,bN,aO⟩:=Qqo cP cK.rel cO;clear cP dN cK cO)
 obtain ⟨bn,cQ⟩:=eX (b.length)
 rw [cQ] at bN ⊢
 have aX:=Qq (cI.out.below aO.out)
 obtain ⟨dJ,aD,aV⟩:=Qqo (kE aO.out cT dI.out) (bA.out.below aO.out) (aF.out.thn aO.out)
 have aK:=Qq (cZ.out.below aV.out)
 have aW:=Qq (show ∀ r ∈ a,∀ v ∈ r.rows,Y2 v from fun r hr v hv=>((bJ.out r hr).1 v hv).good)
 have cD:=Qq (show ∀ r ∈ b,∀ v ∈ r.rows,Y2 v from fun r hr v hv=>((bL.out r hr).1 v hv).good)
 have cH:=Qq (fun W (h:Below O O W)=>aJ.out _ _ [.slice up m1 uc,.slice tp m2 tc] (.slice ap an ac) a W (aD.out.below h) (aX.out.below h) (aK.out.below h) bJ.out)
 have dF:=Qq (fun W (h:Below O O W)=>Es HCk _ _ s [.slice up m1 uc,.slice tp m2 tc] (.slice ap an ac) a W (aD.out.below h) (aX.out.below h) J.out.sums.ok J.out.ok (fun r hr=>(bJ.out r hr).1))
 have dE:=Qq (fun W (h:Below O O W)=>aJ.out _ _ [.slice up m1 uc,.slice tp m2 tc] (.slice bp bn bc) b W (aD.out.below h) (bN.out.below h) (aK.out.below h) bL.out)
 have dG:=Qq (fun W (h:Below O O W)=>Es HCk _ _ s [.slice up m1 uc,.slice tp m2 tc] (.slice bp bn bc) b W (aD.out.below h) (bN.out.below h) J.out.sums.ok J.out.ok (fun r hr=>(bL.out r hr).1))
 have dA:=Qq (fun W (h:Below O O W)=>A8 W (aK.out.below h))
 clear c0 c1 bY aJ cL cQ dM
 have HD:=Qq (show ∀ W,(Below O O W)→Qqa W w1 0 (.slice up m1 uc)∧Qqa W w1 1 (.slice tp m2 tc) from fun W h=>by
  have h3:=kB h dJ.out
  exact ⟨(Qk _ _ 0 _ _ _ h3).trans rfl,(Qk _ _ 1 _ _ _ h3).trans rfl⟩)
 have T:=Qq (show ∀ W,Below O O W→((fun W=>Below O O W) W) from fun W h=>h)
 refine wp_region_held_drew (S:=fun W=>Below O O W) Qqy (T.out _ (Qz _ _).drew) (fun D=>?_)
 refine tkD (v:=?_) 0 (fun N A=>?_) ?_;rotate_left
 ·(obtain ⟨c0,c1⟩:=HD.out N A;go_simp;try with_reducible rfl)
 refine tkD (v:=?_) 1 (fun N A=>?_) ?_;rotate_left
 ·(go_simp;try with_reducible rfl)
 refine tkD (v:=?_) 3 (fun N A=>?_) ?_;rotate_left
 ·(obtain ⟨c0,c1⟩:=HD.out N A;go_simp;try with_reducible rfl)
 refine tkD (v:=?_) 4 (fun N A=>?_) ?_;rotate_left
 ·(go_simp;try with_reducible rfl)
 have aP:Hid (Below O O O.drew):=Qq (Qz _ _).drew
 have dP:=aP.out.size
 generalize O.drew=wd at D aP dP ⊢
 refine rdD 2 (fun K M=>?_) ?_
 ·go_simp
  refine (cH.out wd aP.out).mono ?_
  rintro e wa I
  have G:=I
  obtain ⟨_,_,_,k1,rfl,_,hb⟩:=I
  have bV:=Qq G
  clear G
  have Y:=Qq (aP.out.thn hb)
  have dZ:=Y.out.size
  clear hb
  try dsimp only
  refine M.out _ _ (T.out _ Y.out) (fun D=>?_)
  clear M K
  refine rdD 5 (fun K M=>?_) ?_
  ·go_simp
   refine (dF.out wa Y.out).mono ?_
   rintro e wb I
   have G:=I
   obtain ⟨_,_,_,k2,rfl,_,hb⟩:=I
   obtain ⟨fa,U,h2⟩:=aL.out a _ _ k1 k2 _ _ aW.out bV.out G
   have bZ:=Qq (U.move (.of_below hb) Qzx);have cA:=Qq h2
   clear G U h2 bV
   have aG:=Qq (Y.out.thn hb)
   have eA:=aG.out.size
   clear hb
   try dsimp only
   refine M.out _ _ (T.out _ aG.out) (fun D=>?_)
   clear M K
   refine rdD 6 (fun K M=>?_) ?_
   ·go_simp
    refine (Dh _ _ fa _ _ wb bZ.out cA.out).mono ?_
    rintro e wc ⟨rfl,hb⟩
    clear bZ cA
    have Z:=Qq (aG.out.thn hb)
    have eB:=Z.out.size
    clear hb
    try dsimp only
    refine M.out _ _ (T.out _ Z.out) (fun D=>?_)
    clear M K
    refine tkD (v:=?_) 7 (fun N A=>?_) ?_;rotate_left
    ·(go_simp;try with_reducible rfl)
    refine tkD (v:=?_) 8 (fun N A=>?_) ?_;rotate_left
    ·(obtain ⟨c0,c1⟩:=HD.out N A;go_simp;try with_reducible rfl)
    refine tkD (v:=?_) 9 (fun N A=>?_) ?_;rotate_left
    ·(go_simp;try with_reducible rfl)
    refine tkD (v:=?_) 11 (fun N A=>?_) ?_;rotate_left
    ·(obtain ⟨c0,c1⟩:=HD.out N A;go_simp;try with_reducible rfl)
    refine tkD (v:=?_) 12 (fun N A=>?_) ?_;rotate_left
    ·(go_simp;try with_reducible rfl)
    refine rdD 10 (fun K M=>?_) ?_
    ·go_simp
     refine (dE.out wc Z.out).mono ?_
     rintro e we I
     have G:=I
     obtain ⟨_,_,_,k3,rfl,_,hb⟩:=I
     have bW:=Qq G
     clear G
     have aA:=Qq (Z.out.thn hb)
     have eC:=aA.out.size
     clear hb
     try dsimp only
     refine M.out _ _ (T.out _ aA.out) (fun D=>?_)
     clear M K
     refine rdD 13 (fun K M=>?_) ?_
     ·go_simp
      refine (dG.out we aA.out).mono ?_
      rintro e wf I
      have G:=I
      obtain ⟨_,_,_,k4,rfl,_,hb⟩:=I
      obtain ⟨fb,U,h2⟩:=aL.out b _ _ k3 k4 _ _ cD.out bW.out G
      have cB:=Qq (U.move (.of_below hb) Qzx);have cC:=Qq h2
      clear G U h2 bW
      have aH:=Qq (aA.out.thn hb)
      have eD:=aH.out.size
      clear hb
      try dsimp only
      refine M.out _ _ (T.out _ aH.out) (fun D=>?_)
      clear M K
      refine rdD 14 (fun K M=>?_) ?_
      ·go_simp
       refine (Dh _ _ fb _ _ wf cB.out cC.out).mono ?_
       rintro e wg ⟨rfl,hb⟩
       clear cB cC
       have aB:=Qq (aH.out.thn hb)
       have eE:=aB.out.size
       clear hb
       try dsimp only
       refine M.out _ _ (T.out _ aB.out) (fun D=>?_)
       clear M K
       refine tkD (v:=?_) 15 (fun N A=>?_) ?_;rotate_left
       ·(go_simp;try with_reducible rfl)
       refine tkD (v:=?_) 16 (fun N A=>?_) ?_;rotate_left
       ·(go_simp;try with_reducible rfl)
       refine tkD (v:=?_) 17 (fun N A=>?_) ?_;rotate_left
       ·(obtain ⟨c0,c1⟩:=HD.out N A;go_simp;try with_reducible rfl)
       refine tkD (v:=?_) 18 (fun N A=>?_) ?_;rotate_left
       ·(go_simp;try with_reducible rfl)
       refine rdD 19 (fun K M=>?_) ?_
       ·go_simp
        refine (cH.out wg aB.out).mono ?_
        rintro e wh I
        obtain ⟨⟨x1,x2,x3,x4,x5,x6,x7,x8,x9,bR,bS,rfl⟩,hb⟩:=cG.out a _ _ _ aW.out dD.out I
        clear I
        have eH:∀ W,(Instr.field 38 (.agg #[Qqd,x1,x2,x3,x4,x5,x6,x7,x8,x9,bR,bS]) 0).run prog W=.ok (.int .i64 0) W:=(fun W=>by simp [Instr.field,go_sem,part,asAgg])
        have aC:=Qq (aB.out.thn hb)
        have eF:=aC.out.size
        clear hb
        try dsimp only
        refine M.out _ _ (T.out _ aC.out) (fun D=>?_)
        clear M K
        refine tkD (v:=?_) 20 (fun N A=>?_) ?_;rotate_left
        ·(go_simp;try with_reducible rfl)
        refine tkD (v:=?_) 21 (fun N A=>?_) ?_;rotate_left
        ·(go_simp;try with_reducible rfl)
        refine tkD (v:=?_) 22 (fun N A=>?_) ?_;rotate_left
        ·(go_simp;try with_reducible rfl)
        refine tkD (v:=?_) 23 (fun N A=>?_) ?_;rotate_left
        ·(go_simp;try with_reducible rfl)
        refine rdD 24 (fun K M=>?_) ?_
        ·go_simp
         refine (dA.out wh aC.out).mono ?_
         rintro e wi ⟨rfl,hb⟩
         have aI:=Qq (aC.out.thn hb)
         have eG:=aI.out.size
         clear hb
         try dsimp only
         refine M.out _ _ (T.out _ aI.out) (fun D=>?_)
         clear M K
         refine tkD (v:=?_) 25 (fun N A=>?_) ?_;rotate_left
         ·(go_simp;try with_reducible rfl)
         refine tkD (v:=?_) 26 (fun N A=>?_) ?_;rotate_left
         ·(go_simp;try with_reducible rfl)
         refine wpAnyH_done Qqy ?_ _
         clear D
         go_wp2_with fail
         go_ret
         exact ⟨rfl,aV.out.thn aI.out⟩
        exact Qo
       exact Qo
      exact Qo
     exact Qo
    exact Qo
   exact Qo
  exact Qo
 exact Qo
open Go.ChangeShapes Go.WideShapes Go.ChangeAt Go.RowKit
open Go.ChangeMaps (open_string shut_string)
theorem own:ownKnob Tryz.prog.godebug=none:=Qqy
theorem Mf:laidOutB Tryz.prog=true:=Qqy
theorem L4 {P:Program} {w:World} {nm:String} {ls:List Bs} {g:Nat} {t e:TypeId} (h:Lib.VarReads P w nm (.agg (ls.map fun l=>.lit (.string l))))
  (hg:P.globalNamed nm=some g) (ht:(P.globals[g]?).map (·.type)=some t) (hu:P.underlying t=some (.array ls.length e)) (he:P.underlying e=some .string) (hc:P.cellsOf e=1):
  w.rangeAt g 0 (svs ls):=by
 obtain ⟨g',t',cs,M,p,G,J,hv,hd⟩:=h
 obtain rfl:=Qb (hg.symm.trans G)
 obtain rfl:=Qb (ht.symm.trans J)
 intro j v hj
 rw [Nat.zero_add,World.var?_cell hg hv j]
 obtain ⟨l,hl,rfl⟩:∃ l,ls[j]?=some l∧v=sv l:=by
  simp only [svs,List.getElem?_map,Option.map_eq_some_iff] at hj
  obtain ⟨l,h1,h2⟩:=hj
  exact ⟨l,h1,h2.symm⟩
 have I:j<ls.length:=(Qj hl).1
 obtain ⟨f',d,q,A,D⟩:=Lib.array_elem hu hd j I
 rw [hc,Nat.mul_one] at D
 obtain ⟨s,hs,hx,_⟩:=DataW.trod_string he D
 simp only [List.getElem?_map,hl,Option.map_some,Zv] at A
 simp only [Prod.mk.injEq] at hx
 obtain ⟨rfl,_⟩:=hx
 simp only [DataW.lit.injEq,Lit.string.injEq] at A
 subst A
 have h0:((cs.toList.drop j).take 1)[0]?=some (.string s):=by rw [hs];rfl
 rw [List.getElem?_take_of_lt Qqj,List.getElem?_drop,Nat.add_zero,Array.getElem?_toList] at h0
 rw [h0]
 rfl
theorem gKws : Tryz.prog.globalNamed "schemalens/lexer.keywords"=some 5:=Qqy
theorem tKws:(Tryz.prog.globals[5]?).map (·.type)=some 238:=Qqy
set_option maxRecDepth 100000
theorem Rr {w:World} (h:laidMetH Tryz.prog Rows.rowsCheckRow.laid w):Xl w:=by
 rw [MakeChecks.laidMetH_plain _ _ _ Qqy] at h
 have h1:Lib.VarReads Tryz.prog w "schemalens/lexer.keywords" Rows.laid_schemalens_lexer_keywords:=Lib.laidMet.reads h (.tail _ (.tail _ (.tail _ (.tail _ (.tail _ (.tail _ (.head _)))))))
 exact L4 (ls:=kws) h1 gKws tKws Tryz.underlying238 Tryz.underlying9 Qqy
theorem Km {H:Type} {enc:TypeId × Value→H} {W:World} {base:Nat} {v:Value} {d:DataW H} {p:List MemPlace} (hv:Value.okWide Tryz.prog W .any base 22 v)
  (h:DataW.Trod enc Tryz.prog W 0 (fun _=>true) true 22 v d p):∃ zs,Xc (fun _=>True) W v zs∧Ub zs:=by
 obtain ⟨a,len,cap,rfl⟩:=okWide_slice Tryz.underlying22 hv
 obtain ⟨aC,hf⟩:=h
 rcases open_ints Tryz.underlying22 Tryz.underlying3 Qqy hf with ⟨G,_⟩ | ⟨x,l,c,zs,G,_,hl,hm,Z,_,D,Y⟩
 ·simp [Value.cells] at G
  obtain ⟨rfl,rfl,rfl⟩:=G
  exact ⟨[],⟨none,0,rfl,Qqk,fun h=>absurd rfl h⟩,fun z Z=>by cases Z⟩
 simp [Value.cells] at G
 obtain ⟨rfl,rfl,rfl⟩:=G
 simp only [if_true] at Z
 have A:(zs.take len).length=len:=by simp;omega
 refine ⟨zs.take len,⟨_,cap,by rw [A],by rw [A];unfold maxLen at hm;omega,fun V=>?_⟩,fun z aB=>?_⟩
 ·have N:0<len:=by
   rw [← A]
   exact List.length_pos_iff.2 V
  obtain ⟨b,I,O⟩:=x
  have J:O=none:=by simpa [Addr.add] using World.cell?_spot (D 0 Qqj)
  subst J
  have M:∀ i z,(zs.take len)[i]?=some z→W.cell? ⟨b,I+i,none⟩=some (.int .i64 z):=fun i z T=>by
   have U:i<len:=by have:=(Qj T).1;omega
   rw [List.getElem?_take_of_lt U] at T
   have:=D i Qqj
   rw [Qs,T] at this
   rwa [show ((⟨b,I,none⟩:Addr).add i)=⟨b,I+i,none⟩ by unfold Addr.add;split <;> simp_all,Option.getD_some] at this
  obtain ⟨z0,aA⟩:∃ z,(zs.take len)[0]?=some z:=⟨_,Qx (by rw [A];exact N)⟩
  exact ⟨b,I,rfl,trivial,Qv _ _ (M 0 z0 aA),M⟩
 have:=Y z (List.mem_of_mem_take aB)
 simpa [Lit.wf,IntKind.min,IntKind.max,IntKind.signed,IntKind.bits] using this
theorem Qjq:Kx:=fun S0 S1 s cs lv l w h1 h2 h3 h4 h5 h6=>Rn S0 S1 s cs lv l w h1 h2 h3 h4 h5 h6
theorem Gf (os:Os) (started:os.Started) (H:Type) (enc:TypeId × Value→H):
  ReturnsInHanded {} Tryz.checked os 3 .any (fun w args=>(Rows.rowsCheckSpec.pre enc Tryz.prog Tryz.f3 Rows.rowsCheckRow.domain false w args∧laidMetH Tryz.prog Rows.rowsCheckRow.laid w)∧sizedMet enc Tryz.prog Tryz.f3 (OpenSpec.ofChange Rows.rowsCheckSpec) false w args)
   (Rows.rowsCheckSpec.post enc Tryz.prog Tryz.f3 false true false false):=by
 refine returnsInHanded_of_change_and (C:=Tryz.checked) (X:=fun w _=>laidMetH Tryz.prog Rows.rowsCheckRow.laid w) (fun _ _ _ hh h=>h.of_heap hh) own started Qqy Tryz.func3
  (ChangeSpec.witness_shaped (enc:=enc) (C:=Tryz.checked) (os:=os) (X:=fun w _=>laidMetH Tryz.prog Rows.rowsCheckRow.laid w) false (World.laidAll Tryz.prog os Rows.rowsCheckRow.laid) #[Qqf,Qqf,Qqf] 8 (World.laidAll_os _ _ _)
   (World.shaped_of_ZipB Qqy Qqy) Qqy Qqy Qqy
   (by rw [MakeChecks.laidMetH_plain _ _ _ Qqy];exact laidMet_laidAll _ Qqy Qqy)) ?_
 intro W G args ds gs M D hW _ _ hL _
 have A:∀ (j:Nat) t v,Tryz.f3.params[j]?=some t→args[j]?=some v→Value.okWide Tryz.prog W .any G t v:=D
 have N:=hW
 obtain ⟨p,q,I,hV,rfl,_,_⟩:=hW
 have hA:DataW.TrodAll enc Tryz.prog W 0 (fun _=>true) true Tryz.f3.params.toList args.toList ds p:=I
 rw [Tryz.params3] at hA A
 obtain ⟨v0,aJ,d0,aG,p0,q0,O,rfl,rfl,h0,r0⟩:=trodAll_cons hA
 obtain ⟨v1,aK,d1,aH,p1,q1,rfl,rfl,rfl,h1,r1⟩:=trodAll_cons r0
 obtain ⟨v2,aL,d2,aI,p2,q2,rfl,rfl,rfl,h2,r2⟩:=trodAll_cons r1
 obtain ⟨rfl,rfl,rfl⟩:=trodAll_nil r2
 obtain rfl:args=#[v0,v1,v2]:=by cases args;simp_all
 obtain ⟨rfl,rfl⟩:=trodVars_none hV
 have k0:=h0
 have aB:∀ x ∈ p0,x.block<W.heap.size:=by obtain ⟨m,J⟩:=k0;exact DataW.trod_lt m _ _ _ J
 obtain ⟨z0,Y,T⟩:=Km (A 0 22 v0 rfl rfl) h0
 have k1:=h1
 have aC:∀ x ∈ p1,x.block<W.heap.size:=by obtain ⟨m,J⟩:=k1;exact DataW.trod_lt m _ _ _ J
 obtain ⟨z1,Z,U⟩:=Km (A 1 22 v1 rfl rfl) h1
 have k2:=h2
 have aD:∀ x ∈ p2,x.block<W.heap.size:=by obtain ⟨m,J⟩:=k2;exact DataW.trod_lt m _ _ _ J
 obtain ⟨z2,aA,V⟩:=Km (A 2 22 v2 rfl rfl) h2
 clear I D
 refine (L9 Qjq _ _ _ v0 v1 v2 z0 z1 z2 W Y Z aA T U V (Rr hL)).mono fun e W' ⟨he,bel⟩=>?_
 subst he
 exact ⟨_,rfl,_,_,_,[],_,[],N,trodAll_mk1 (shut_bool Tryz.underlying4 _),(trodAll_cons_mk (Below.trod Mf Qqy (of_decide_eq_true Qqy) k0 bel aB) (trodAll_cons_mk (Below.trod Mf Qqy (of_decide_eq_true Qqy) k1 bel aC) (trodAll_cons_mk (Below.trod Mf Qqy (of_decide_eq_true Qqy) k2 bel aD) trodAll_mk0))),rfl,bel.frame _,fun h=>by cases h⟩
theorem L5:Rows.RowsCheckSaid:=
 OpenClaim.holds_of_wide 3 Tryz.f3 rfl rfl rfl rfl rfl rfl rfl ⟨rfl,rfl,rfl,rfl,rfl⟩ rfl rfl rfl rfl rfl Qqy Tryz.func3 Qqy
  (of_decide_eq_true Qqy) (by unfold Func.isWrapper;first | (rw [if_pos (by decide +kernel)];kernel_rfl) | (rw [if_neg (by decide +kernel)];exact ⟨rfl,rfl⟩))
  (fun os A H enc _=>Gf os A H enc)
theorem rowsCheck_proved:Rows.RowsCheckCardSaid:=
 Claim7.holds_tied_plain_at .later [] [.data,.data,.data,.data,.sentinel,.sentinel,.widerDeep,.data,.pinned] true (true, "e5c056ba93fd9b3a514cbad9ae21f6c2ba113af3755b07dc8a7323f0c854d977") true L5 (fun _ h=>by cases h) Qqy (fun _ h=>by cases h) rowsCheck_row_tie rfl ⟨rfl,rfl⟩ Qqy rfl
  (fun f fn hf D=>by
   obtain rfl:f=3:=Qb ((show Tryz.prog.funcNamed "schemalens/schemalenslaw17.RowsCheck"=some 3 by kernel_rfl).symm.trans hf) |>.symm
   obtain rfl:fn=Tryz.f3:=(Qb (Tryz.func3.symm.trans D)).symm
   exact ⟨Qqy,fun j t ht=>by
    rw [Tryz.params3] at ht
    have hm:t ∈ [22,22,22]:=by simpa using Array.mem_of_getElem? ht
    have A:([22,22,22].all fun u=>!Tryz.prog.wantsStandIn u)=true:=Qqy
    exact (show Tryz.prog.wantsStandIn t=false by simpa using List.all_eq_true.1 A t hm)⟩)
  Qqy
end Go.Proofs.YtdpibdpbgokmoaaGreatDoor
