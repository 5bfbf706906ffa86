import Derived.Test.YtdpibdpbgokmoaaGreatDoorA36
set_option maxRecDepth 100000
set_option maxHeartbeats 400000000
namespace Go.Proofs.YtdpibdpbgokmoaaGreatDoor
open Go.RowKit Go.Shelf Go.Lib Tryz
structure ScGen (s:Sc):Prop where
 sums:Kw s.sums
 gen:∀ t ∈ s.tables,Gq t
 ok:∀ t ∈ s.tables,Pq t
 few:s.tables.length<=20
 once:(s.tables.map Tbl.name).Nodup
structure J6 (s:Sc) (c:Nat) (l:List Rel):Prop where
 tabs:l.map Rel.table=s.tables.map Tbl.name
 rows:∀ r ∈ l,∀ v ∈ r.rows,Kb v
 few:∀ r ∈ l,r.rows.length<=c
 up:∀ r ∈ l,UpV r.rows
theorem J6.len {s:Sc} {c:Nat} {l:List Rel} (h:J6 s c l):l.length=s.tables.length:=by have:=congrArg List.length h.tabs;simpa using this
theorem J6.mono {s:Sc} {c d:Nat} {l:List Rel} (h:J6 s c l) (hc:c<=d):J6 s d l:=⟨h.tabs,h.rows,λr hr=>Qc (h.few r hr) hc,h.up⟩
theorem Tt (s:Sc):J6 s 5 (Xe s):=by
 refine ⟨by simp [Xe,Function.comp_def],λr A=>?_,λr A=>?_,λr A=>?_⟩
 all_goals
  unfold Xe at A
  obtain ⟨t,_,rfl⟩:=List.mem_map.1 A
  simp [UpV]
theorem Nd {l:List Val} {x y:Val} (h:y ∈ Uk l x):y ∈ l\/y=x:=by
 unfold Uk at h
 split at h
 ·exact .inl h
 rcases Z4.1 h with h | h
 ·exact .inl (List.mem_of_mem_take h)
 rcases Z3.1 h with h | h
 ·exact .inr h
 exact .inl (Zw h)
theorem Sv (l:List Val) (x:Val):(Uk l x).length<=l.length+1:=by
 unfold Uk
 split
 ·omega
 rw [Ql,List.length_cons,Qm,Zq];omega
theorem J6.ins {s:Sc} {c:Nat} {l:List Rel} (h:J6 s c l) (x:Bs) (v:Val) (hv:Kb v) (hc:∀ i r,Yr l x=some i->l[i]?=some r->r.rows.length<c):J6 s c (Xn l x v):=by
 cases ha:Yr l x with
 | none=>rw [Bp ha];exact h
 | some i=>
  obtain ⟨r,G⟩:∃ r,l[i]?=some r:=by
   unfold Yr at ha
   have:=(List.findIdx?_eq_some_iff_getElem.1 ha).1
   exact ⟨_,Qx this⟩
  rw [Ey ha G]
  have hm:=Qy G
  have hi:=hc i r ha G
  have D:∀ q ∈ l.set i ⟨r.table,Uk r.rows v⟩,q ∈ l\/q=⟨r.table,Uk r.rows v⟩:=λq A=>List.mem_or_eq_of_mem_set A
  refine ⟨?_,λq A u I=>?_,λq A=>?_,λq A=>?_⟩
  ·rw [<- h.tabs,List.map_set]
   obtain ⟨h1,rfl⟩:=Qj G
   apply List.ext_getElem?
   intro j
   rw [List.getElem?_set]
   split
   ·rename_i e
    subst e
    simp [h1]
   rfl
  ·rcases D q A with A | rfl
   ·exact h.rows q A u I
   rcases Nd I with I | rfl
   ·exact h.rows r hm u I
   exact hv
  ·rcases D q A with A | rfl
   ·exact h.few q A
   have:=Sv r.rows v
   show (Uk r.rows v).length<=c
   omega
  rcases D q A with A | rfl
  ·exact h.up q A
  exact Av (h.up r hm) v
theorem J6.at_ {s:Sc} {c:Nat} {l:List Rel} (h:J6 s c l) (hd:(s.tables.map Tbl.name).Nodup) {i:Nat} {t:Tbl} (ht:s.tables[i]?=some t):Yr l t.name=some i:=by
 have I:i<l.length:=by rw [h.len];exact (Qj ht).1
 have hn:∀ j (A:j<l.length),(l[j]).table=(s.tables.map Tbl.name)[j]'(by rw [<- h.tabs];simpa using A):=λj A=>by
  have:(l.map Rel.table)[j]'(by simpa using A)=(l[j]).table:=Ib
  rw [<- this]
  simp only [h.tabs]
 have G:(s.tables.map Tbl.name)[i]'(by rw [<- h.tabs];simpa using I)=t.name:=by
  obtain ⟨h1,rfl⟩:=Qj ht
  simp
 unfold Yr
 refine List.findIdx?_eq_some_iff_getElem.2 ⟨I,by simp [hn i I,G],λj A=>?_⟩
 have D:j<l.length:=Ia
 have:(l[j]).table≠t.name:=by
  rw [hn j D,<- G]
  intro e
  exact (List.pairwise_iff_getElem.1 hd) j i (by rw [<- h.tabs];simpa using D) (by rw [<- h.tabs];simpa using I) A e
 simpa using this
def Pv (s:Sc) (l:List Rel):Prop:=U3 s l=true/\∀ c i,c<5->i<s.tables.length->(cfR s l c i).code=0
theorem badF_nil {code:Int} {p:Val->Bool}:X9 code p []=Ft.zero:=rfl
theorem C0 (s:Sc):Pv s (Xe s):=by
 have A:∀ i,((Xe s).getD i ⟨[],[]⟩).rows=[]:=λi=>by
  rw [Qs]
  unfold Xe
  rw [List.getElem?_map]
  cases s.tables[i]? <;> rfl
 refine ⟨?_,λc i hc _=>?_⟩
 ·have h:∀ a:List Tbl,Iu (λ(t:Tbl) (r:Rel)=>Ua r.rows&&decide (t.name=r.table)) a (a.map λt=>⟨t.name,[]⟩)=true:=by
   intro a
   induction a with
   | nil=>rfl
   | cons x a ih=>simp only [List.map_cons,Iu,Ua,Bool.true_and,decide_true,ih]
  exact h s.tables
 have D:∀ rs:List Rf,Yf s (Xe s) [] rs=Ft.zero:=by
  intro rs
  induction rs with
  | nil=>rfl
  | cons r rs ih=>rw [Yf,badF_nil,if_pos (show Ft.zero.code=0 from rfl),ih]
 match c,hc with
 | 0,_=>unfold cfR;rw [A];rfl
 | 1,_=>unfold cfR;rw [A];rfl
 | 2,_=>unfold cfR;rw [A];rfl
 | 3,_=>unfold cfR;rw [A,D];rfl
 | 4,_=>unfold cfR;rw [A];rfl
theorem rf_code {s:Sc} {l:List Rel} {f:Ft} (h:RF s l f) (h0:f.code=0):Pv s l:=by
 cases hn:U3 s l with
 | false=>rw [h.2 hn] at h0;cases h0
 | true=>
  rcases h.1 hn with ⟨_,hz⟩ | ⟨c,i,_,_,A,rfl,_⟩
  ·exact ⟨hn,hz⟩
  exact absurd h0 A
theorem Sw {s:Sc} {l:List Rel} {w w':World} {e:Ending} (h:Jq w s l (cfR s l) e w'):(∃ (c:Int) (x1 x2 x3 x4 x5 x6 x7 x8 x9 x10 x11:Value),e=.returned (.agg #[c,x1,x2,x3,x4,x5,x6,x7,x8,x9,x10,x11])/\(c=0->Pv s l))/\Below w w w':=by
 obtain ⟨f,h1,h2,A,rfl,hf,hb⟩:=h
 obtain ⟨p3,k3,p4,k4,q3,l3,q4,l4,rfl,_⟩:=Ue hf
 exact ⟨⟨f.code,_,_,_,_,_,_,_,_,_,_,_,rfl,λh0=>rf_code ⟨h1,h2⟩ h0⟩,hb⟩
def Kx (s:Sc) (c:Nat) (W0 wr:World) (v:Value) (n:Nat):Prop:=∃ l css,(J6 s c l/\Pv s l)/\l.length=n/\Own Xz 70 (λb=>W0<=b) W0 wr v l css
def StateOk (s:Sc) (c:Nat) (w:World) (e:Ending) (w':World):Prop:=∃ l p cap css,e=.returned (.slice p l.length cap)/\Pv s l/\J6 s c l/\Own Xz 70 (λb=>w<=b) w w' (.slice p l.length cap) l css/\Below w w w'
theorem Kw.ok {us:List Sm} (h:Kw us):Dd us:=λu hu c hc=>(h u hu c hc).1
theorem Kx.grow {s:Sc} {c:Nat} {W0 wr wr':World} {v:Value} {n:Nat} (h:Kx s c W0 wr v n) (hb:Below wr wr wr'):Kx s c W0 wr' v n:=by
 obtain ⟨l,css,h1,h2,h3⟩:=h
 exact ⟨l,css,h1,h2,h3.below hb⟩
theorem Qja (HCk:L6) (s:Sc) (hS:ScGen s) (S0 S3:Nat->Prop) (cs:List Value) (nv:Value) (ns:List Int) (w:World) (hs:Ve S0 w cs s) (hn0:V5 S3 w nv ns) (hi:Kz ns):
  Calls prog 6 #[cs,nv] w (StateOk s 5 w):=by
 have Y:=Qq (λW (hW:Below w w W)=>Sb S0 s cs W (hs.below hW) (Ix hS.few))
 obtain ⟨aY,eC,D⟩:=Im hs hn0 hS
 have bT:=Qq (λ(k:Nat) W (hW:Below w w W)=>Ys S3 nv ns (k+1) 5 W (hn0.below hW) hi Ia Ia)
 obtain ⟨uv,tv,rfl,hu,ht⟩:=hs
 obtain ⟨up,uc,rfl,_⟩:=hu.len
 obtain ⟨tp,tc,rfl,_⟩:=ht.len
 obtain ⟨np,nc,rfl,_⟩:=hn0.len
 obtain ⟨n,hn⟩:=eX (s.tables.length)
 have gD:n<=20:=Ix hS.few
 have he:(Xe s).length=n:=by rw [<- hn];simp [Xe]
 unfold BL at Y
 rw [hn] at ht aY Y |-
 rw [he] at Y
 obtain ⟨HT,HN,HI⟩:=Im ht hn hi
 clear hu ht hn0 hn he hS hi
 simp only [Int.natCast_add,Int.cast_ofNat_Int] at bT
 go_enter func6,ntmps6
 go_upto_region 1 with fail
 generalize bF:w.alloc _=W1
 have cQ:=Iq bF (Zg _ _)
 have bG:=Ik (b:=w.heap.size) bF (Qw _ _)
 have aV:=Qq cQ;have aJ:=Qq bG
 obtain ⟨c0,c1⟩:=AF bG
 clear bF cQ bG
 have aE:=Z8 aJ.o
 go_upto_region 2 with (go_at_call 19;refine (Y.o _ aV.o).mono ?_;rintro e w2 ⟨p2,cF,cJ,rfl,cL,cR⟩;have eD:=Qq cL;have dX:=Qq (show Below W1 W1 w2 from cR);clear cL cR)
 have cZ:Kx s 5 w w2 (.slice p2 n cF) n:=⟨Xe s,cJ,⟨Tt s,C0 s⟩,by rw [<- HN.o];simp [Xe],eD.o.weak Ia (λb _ h=>by rcases h with h | h;exact h.elim;exact Ia)⟩
 have eI:=Qq cZ
 clear cZ Y c0 c1
 go_wp2_with fail
 go_loopw [5,6,7,8,9,10] (λt5 t6 _ _ _ _ wr=>∃ (k:Nat) (p:Option Addr) (cap:Nat),k<=3/\t5=.slice p n cap/\t6=.int .i64 k/\Aside (Kx s 5 w wr (.slice p n cap) n/\Below W1 W1 wr)) (λ_ t6 _ _ _ _ _=>3 - (intOf t6).toNat)
 case atStart=>exact ⟨0,_,_,Q8 _,rfl,rfl,⟨eI.o,dX.o⟩⟩
 obtain ⟨ps,pa,cG,fU,rfl,rfl,hA⟩:=hrel
 have aN:=Qq hA.o.1;have bQ:=Qq hA.o.2
 clear hA
 by_cases hps:ps<3
 ·have g1:(ps:Int)<3:=Ia
  go_upto_region 6 with fail
  go_loopw [5,7,8,9,10] (λt5 t7 _ _ _ wr=>∃ (k:Nat) (p:Option Addr) (cap:Nat),k<=n/\t5=.slice p n cap/\t7=.int .i64 k/\Aside (Kx s 5 w wr (.slice p n cap) n/\Below W1 W1 wr)) (λ_ t7 _ _ _ _=>n - (intOf t7).toNat)
  case atStart=>exact ⟨0,_,_,Q8 _,rfl,rfl,⟨aN.o,bQ.o⟩⟩
  obtain ⟨i,pb,fT,fX,rfl,rfl,hA⟩:=hrel
  have aO:=Qq hA.o.1;have aW:=Qq hA.o.2
  clear hA
  have cP:=kE aW.o aE aJ.o
  have c1:=AA cP
  clear cP
  by_cases hin:i<n
  ·have g2:(i:Int)<(n:Int):=Ia
   have g3:(0:Int)<=(i:Int):=Ia
   go_upto_region 9 with fail
   clear c1
   go_loopw [5,8,9,10] (λt5 t8 _ _ wr=>∃ (k:Nat) (p:Option Addr) (cap:Nat),k<=3/\t5=.slice p n cap/\t8=.int .i64 k/\Aside (Kx s 5 w wr (.slice p n cap) n/\Below W1 W1 wr)) (λ_ t8 _ _ _=>3 - (intOf t8).toNat)
   case atStart=>exact ⟨0,_,_,Q8 _,rfl,rfl,⟨aO.o,aW.o⟩⟩
   obtain ⟨k,pc,aA,fY,rfl,rfl,hA⟩:=hrel
   have I:=Qq hA.o.1;have U:=Qq hA.o.2
   clear hA
   have J:=Qq (aV.o.n U.o)
   by_cases hk:k<3
   ·have g4:(k:Int)<3:=Ia
    obtain ⟨l,css,⟨hg,-⟩,cV,hO⟩:=I.o
    have bD:Sl Xz (λb=>w<=b) wr (.slice pc n aA) l:=by
     have:=hO.sl (S':=λb=>w<=b) Ia (λ_ h=>h) Ij
     exact this
    obtain ⟨r,hr⟩:∃ r,l[i]?=some r:=⟨_,Qx Ia⟩
    obtain ⟨lb,aT,gF,fA,gC,gB,_,⟨rv,cX,fE,fF,fD⟩,cY⟩:=bD.elem hr
    subst fA;subst cX
    obtain ⟨q,m,aS,_⟩:=fD
    obtain ⟨mr,bH⟩:=eX (r.rows.length)
    rw [bH] at aS
    subst aS
    have e1:=cY 1 _ rfl
    rw [show Xz.k=2 from rfl] at e1
    obtain ⟨aH,bV,HR,eA⟩:=It hg bD hr bH
    clear hg hO bD hr cY fE fF bH css
    by_cases hm5:mr<5
    ·have g5:(mr:Int)<5:=Ia
     obtain ⟨a,ha⟩:∃ a:Nat,11*(ps:Int)+5*(i:Int)+3*(k:Int)=(a:Int):=⟨11*ps+5*i+3*k,Ia⟩
     have eW:a<=1000:=Ia
     have aX:=Qq (bT.o a)
     obtain ⟨z,hz⟩:=eX (Xk ns (a+1) 5)
     rw [hz] at aX
     clear hz
     go_upto_region 12 with fail
     by_cases hz0:z=0
     ·subst hz0
      go_wp2_with (go_at_call 18;refine (aX.o _ J.o).mono ?_;rintro e w' ⟨rfl,rfl⟩)
      go_roundw
      case measure=>simp [intOf];omega
      case rel=>exact ⟨k+1,_,_,Ia,rfl,by go_num,I.o,U.o⟩
     have hq:(z==0)=false:=by rw [<- Qt,beq_iff_eq];exact hz0
     obtain ⟨t,ht⟩:∃ t,s.tables[i]?=some t:=⟨_,Qx (by rw [HN.o];exact hin)⟩
     obtain ⟨tb,T,fV,fH,gE,_,_,bE,A⟩:=(HT.o.below J.o).elem ht
     subst fH
     obtain ⟨cI,cH,dD,dC,dM,dL,k9,dN,n9,dO,dH,dE,cC,dI,dF,cD,dJ,dG,cE,a9,z9,cT,_⟩:=Yq bE
     simp only [AL] at cT
     subst cT
     have aD:=kE U.o aE aJ.o
     obtain ⟨c0,c1⟩:=AF aD
     have d0:=A 0 _ rfl;have d1:=A 1 _ rfl;have d2:=A 2 _ rfl;have d3:=A 3 _ rfl;have d4:=A 4 _ rfl;have d5:=A 5 _ rfl;have d6:=A 6 _ rfl;have d7:=A 7 _ rfl;have d8:=A 8 _ rfl;have d9:=A 9 _ rfl;have aZ:=A 10 _ rfl;have bA:=A 11 _ rfl;have bB:=A 12 _ rfl
     rw [show Zn.k=13 from rfl] at d0 d1 d2 d3 d4 d5 d6 d7 d8 d9 aZ bA bB
     rw [Nat.add_zero] at d0
     try unfold sv at d0
     obtain ⟨eJ,bZ,eK⟩:=Im bE (Qy ht) ht
     clear aD A bE ht e1
     go_upto_region 13 with (go_at_call 18;refine (aX.o _ J.o).mono ?_;rintro e w' ⟨rfl,rfl⟩)
     refine let_mvar% ?Lq1:=λw':World=>Ii w' w 0 (.slice up s.sums.length uc)/\Ii w' w 1 (Io tb T n tc)/\Qve w' tb (T+i*13) t.name (.slice cI t.columns.length cH) (.slice dD t.key.length dC) (.slice dM t.refs.length dL) k9 (.string dN) n9 (.string dO) (.slice dH dE cC) (.slice dI dF cD) (.slice dJ dG cE) a9 z9 (Below wr wr w');?_
     have HS:∀ w',Below wr wr w'->?Lq1 w':=by
      intro w' h
      have N:∀ {b j:Nat} {u:Value},wr.cell? ⟨b,j,none⟩=some u->w'.cell? ⟨b,j,none⟩=some u:=λhc=>kC h hc
      exact ⟨N c0,N c1,N d0,N d1,N d2,N d3,N d4,N d5,N d6,N d7,N d8,N d9,N aZ,N bA,N bB,h⟩
     obtain ⟨bU,eH,dY,G,dW,aI⟩:=Jg HS (λw' h=>h.2.2.2.2.2.2.2.2.2.2.2.2.2.2.2)
     have HP:=λw' x0 x1 x2 x3 x4 h=>aI.o (Zl w' wr x0 x1 x2 x3 x4) (Zd (G.o w' h) (Q9 _))
     unfold Zl at HP
     have eG:=Qq HP
     clear HS HP c0 c1 d0 d1 d2 d3 d4 d5 d6 d7 d8 d9 aZ bA bB
     have aM:=Qq (λW' (h':Below wr wr W')=>(rrow_any S0 (λb=>w<=b) _ S3 s [.slice up s.sums.length uc,Io tb T n tc] (.slice (some ⟨lb,aT,none⟩) n aA) l t (AR t cI cH dD dC dM dL k9 dN n9 dO dH dE cC dI dF cD dJ dG cE a9 z9) (.slice np ns.length nc) ns a W' (aY.o.below (J.o.n h')) ((bV.o.below h').rel) (Zn.frame eJ.o (.f h')) (eC.o.below (J.o.n h')) HI.o eW (D.o.gen t bZ.o) D.o.sums (λt ht=>(D.o.ok t ht).key) (λr hr v hv=>(aH.o.rows r hr v hv).good)).mono (R':=λe w2=>∃ v q3 m3 q4 m4,e=.returned (.agg (Is v q3 m3 q4 m4))/\Kb v/\Z9 (λb=>w<=b) w2 (Il v q3 m3 q4 m4) v/\Below wr wr w2) (by
      rintro e w2 ⟨v,q3,m3,q4,m4,rfl,x1,x2,x3,x4⟩
      have fG:=h'.size
      have fJ:=J.o.size
      have fZ:=(D.o.gen t bZ.o).few
      exact ⟨v,q3,m3,q4,m4,rfl,⟨x1,Ia⟩,x3.move (.refl _ _) (λb _ h=>h.elim id (λh=>by show w<=b;omega)),h'.n x4⟩))
     have Z:=Qq (λW' v q3 m3 q4 m4 (h':Below wr wr W') (hv:Z9 (λb=>w<=b) W' (Il v q3 m3 q4 m4) v)=>(R0 (λb=>w<=b) (.slice (some ⟨lb,aT,none⟩) n aA) l t.name v _ W' (bV.o.below h') hv Ia (λr hr=>by have:=aH.o.few r hr;omega)).mono (R':=λe w2=>∃ p cap css,e=.returned (.slice p n cap)/\Own Xz 70 (λb=>w<=b) w w2 (.slice p n cap) (Xn l t.name v) css/\Below wr wr w2) (by
      rintro e w2 ⟨p,cap,css,rfl,x1,x2⟩
      have fG:=h'.size
      have fJ:=J.o.size
      rw [My,cV] at x1 |-
      exact ⟨p,cap,css,rfl,x1.weak Ia (λb _ h=>h.elim id (λh=>by show w<=b;omega)),h'.n x2⟩))
     unfold sv Il at Z
     go_cut [10] from 24 to 73 (λfL wx=>∃ p cap v css,fL=.slice p n cap/\Kb v/\Own Xz 70 (λb=>w<=b) w wx (.slice p n cap) (Xn l t.name v) css/\Below wr wr wx)
     case first=>
      go_region_held3 ?Lq1 (first | with_reducible exact bU.o | with_reducible exact cO | with_reducible exact cN)
       (first
        | (go_at_call 20;refine (Z.o _ _ _ _ _ _ (G.o _ cN) eL.o).mono ?_;rintro e w3 ⟨p9,M,aB,rfl,cM,fC⟩;have cO:=aI.o _ fC;have eE:=Qq cM;clear cM)
        | (go_at_call 21;refine (aM.o _ (G.o _ AN)).mono ?_;rintro e w2 ⟨v,q3,m3,q4,m4,rfl,cU,dA,fB⟩;have cN:=aI.o _ fB;have dZ:=Qq cU;have eL:=Qq dA;clear cU dA))
      all_goals
       go_wp2_with fail
       go_meet
       exact ⟨p9,M,v,aB,rfl,dZ.o,eE.o,G.o _ cO⟩
     obtain ⟨p9,M,v,aB,rfl,dB,bC,aK⟩:=hcut
     have aL:J6 s 5 (Xn l t.name v):=aH.o.ins t.name v dB (λi' r' h1 h2=>by
      rw [aH.o.at_ D.o.once eK.o] at h1
      cases h1
      rw [HR.o] at h2
      cases h2
      rw [eA.o];exact hm5)
     have O:(Xn l t.name v).length=n:=by rw [My,cV]
     obtain ⟨fW,V,cA⟩:=Im aL (U.o.n aK) (J.o.n aK)
     have bY:=Qq (show Pv s (Xn l t.name v)->Kx s 5 w wc (.slice p9 n M) n from λbI=>⟨_,aB,⟨aL,bI⟩,O,bC⟩)
     have aQ:Sl Xz (λb=>w<=b) wc (.slice p9 n M) (Xn l t.name v):=by
      have:=bC.sl (S':=(λb=>w<=b)) Ia (λ_ h=>h) Ij
      exact this
     have bR:=Qq ((HCk S0 (λb=>w<=b) s [.slice up s.sums.length uc,Io tb T n tc] (.slice p9 n M) (Xn l t.name v) wc (aY.o.below cA.o) aQ.rel (by rw [O,HN.o]) D.o.sums.ok D.o.ok aL.rows).mono λe w' h=>Sw h)
     have aD:=kE V.o aE aJ.o
     obtain ⟨c0,c1⟩:=AF aD
     have bW:=Qq (I.o.grow aK)
     clear dB bC aL O aQ aD aM Z aK
     clear bU eH dY G dW eG aI
     go_upto_region 15 with (go_at_call 10;refine bR.o.mono ?_;rintro e w4 ⟨⟨fc,x1,x2,x3,x4,x5,x6,x7,x8,x9,fR,fS,rfl,aR⟩,cS⟩;have bS:=Qq aR;clear aR;have gA:∀ W,(Instr.field 38 (.agg #[fc,x1,x2,x3,x4,x5,x6,x7,x8,x9,fR,fS]) 0).run prog W=.ok (.int .i64 fc) W:=(λW=>by simp [Instr.field,go_sem,part,asAgg]);have aG:=Qq cS;clear cS)
     focus
      have eY:fc=0:=by first | assumption | (simp_all;done) | omega
      have bX:=Qq (bY.o (bS.o eY))
      go_wp2_with fail
      go_roundw
      case measure=>simp [intOf];omega
      case rel=>exact ⟨k+1,_,_,Ia,rfl,by go_num,bX.o.grow aG.o,V.o.n aG.o⟩
     focus
      exact ⟨⟨k+1,_,_,Ia,rfl,by go_num,bW.o.grow (by have h:=aG.o;exact h),V.o.n aG.o⟩,by simp [intOf];omega⟩
    have g5:¬ (mr:Int)<5:=Ia
    go_wp2_with fail
    go_roundw
    case measure=>simp [intOf];omega
    case rel=>exact ⟨i+1,_,_,Ia,rfl,by go_num,I.o,U.o⟩
   have eZ:k=3:=Ia
   subst eZ
   go_wp2_with fail
   go_roundw
   case measure=>simp [intOf];omega
   case rel=>exact ⟨i+1,_,_,Ia,rfl,by go_num,I.o,U.o⟩
  have g2:¬ (i:Int)<(n:Int):=Ia
  go_wp2_with fail
  go_roundw
  case measure=>simp [intOf];omega
  case rel=>exact ⟨ps+1,_,_,Ia,rfl,by go_num,aO.o,aW.o⟩
 have cW:ps=3:=Ia
 subst cW
 go_wp2_with fail
 go_ret
 obtain ⟨l,css,⟨hg,bI⟩,hl,hO⟩:=aN.o
 subst hl
 exact ⟨l,pa,cG,css,rfl,bI,hg,hO,aV.o.n bQ.o⟩
theorem Ce (S:Nat->Prop) (v:Value) (l:List Int) (w:World) (hs:V5 S w v l) (hi:Kz l) (hk:Xk l 0 13=8):
  Calls prog 17 #[v,Ic] w (J7 w (Gen.check 8)):=by
 have HP:=Qq (λW (hb:Below w w W)=>Ys S v l 0 13 W (hs.below hb) hi Ia Ia)
 rw [hk] at HP
 obtain ⟨p,cap,rfl,_⟩:=hs.len
 clear hs hi hk
 go_enter func17,ntmps17
 go_upto_region 8 with fail
 generalize aJ:(((((((w.alloc _).alloc _).alloc _).alloc _).alloc _).alloc _).alloc _).alloc _=W8
 have aZ:=Iq aJ (Yj (Yj (Yj (Yj (Yj (Yj (Yj (Zg w _) _) _) _) _) _) _) _)
 have cK:W8=w.heap.size+8:=by rw [<- aJ];simp
 have r8:=Ik (b:=w.heap.size) aJ (Zb (Zb (Zb (Zb (Zb (Zb (Zb (Y6 rfl _) _) _) _) _) _) _) _)
 have G:=((((Yu.row (show W8.heap[w.heap.size+1]?=some (.cells #[.int .i64 3,.string ⟨#[97]⟩,Ic,Ig,Ie,Ie,Ie,Ic,Ic] 46 (0,0)) from by rw [<- aJ];exact Zb (Zb (Zb (Zb (Zb (Zb (Y6 Ib _) _) _) _) _) _) _)).app (Yu.row (show W8.heap[w.heap.size+1+1]?=some (.cells #[.int .i64 3,.string ⟨#[98]⟩,Ic,Ig,Ie,Ie,Ie,Ic,Ic] 46 (0,0)) from by rw [<- aJ];exact Zb (Zb (Zb (Zb (Zb (Y6 Ib _) _) _) _) _) _))).app (Yu.row (show W8.heap[w.heap.size+1+1+1+1+1+1]?=some (.cells #[Ic,Ig,.int .i64 1,Ig,Ie,Ie,Ie,Ic,Ic] 46 (0,0)) from by rw [<- aJ];exact Zb (Y6 Ib _) _))).app (Yu.row (show W8.heap[w.heap.size+1+1+1+1]?=some (.cells zQ 46 (0,0)) from by rw [<- aJ];exact Zb (Zb (Zb (Y6 Ib _) _) _) _)))
 have hG:=(Ul (Ul (Ul (Xc (show w<w.heap.size+1 by omega) (.int .i64 3) (.string ⟨#[97]⟩) (.int .i64 0) (.string ⟨#[]⟩) (.slice none 0 0) (.slice none 0 0) (.slice none 0 0) (.int .i64 0) (.int .i64 0)) (Xc (show w<w.heap.size+1+1 by omega) (.int .i64 3) (.string ⟨#[98]⟩) (.int .i64 0) (.string ⟨#[]⟩) (.slice none 0 0) (.slice none 0 0) (.slice none 0 0) (.int .i64 0) (.int .i64 0))) (Xc (show w<w.heap.size+1+1+1+1+1+1 by omega) (.int .i64 0) (.string ⟨#[]⟩) (.int .i64 1) (.string ⟨#[]⟩) (.slice none 0 0) (.slice none 0 0) (.slice none 0 0) (.int .i64 0) (.int .i64 0))) (Xc (show w<w.heap.size+1+1+1+1 by omega) (.int .i64 3) (.string ⟨#[100]⟩) (.int .i64 0) (.string ⟨#[]⟩) (.slice none 0 0) (.slice none 0 0) (.slice none 0 0) (.int .i64 0) (.int .i64 0)))
 have aW:=Qq aZ;have HR:=Qq r8
 clear aJ aZ r8 cK
 go_upto_region 26 with (go_at_call 18;refine (HP.o _ aW.o).mono ?_;rintro e w' ⟨rfl,rfl⟩)
 refine let_mvar% ?Lq1:=λw':World=>(BA w' (w+1) (.int .i64 3) (.string ⟨#[97]⟩) Ic Ig Ie Ie Ie Ic Ic ((BA w' (w+1+1) (.int .i64 3) (.string ⟨#[98]⟩) Ic Ig Ie Ie Ie Ic Ic ((BA w' (w+1+1+1+1+1+1) Ic Ig (.int .i64 1) Ig Ie Ie Ie Ic Ic ((BI w' (w+1+1+1+1) (.int .i64 3) (.string ⟨#[100]⟩) Ic Ig Ie Ie Ie Ic Ic:Prop)):Prop)):Prop)):Prop);?_
 have HS:=Qq (λw' (h:Yu (Jr (w+1) (.int .i64 3) (.string ⟨#[97]⟩) (.int .i64 0) (.string ⟨#[]⟩) (.slice none 0 0) (.slice none 0 0) (.slice none 0 0) (.int .i64 0) (.int .i64 0)++Jr (w+1+1) (.int .i64 3) (.string ⟨#[98]⟩) (.int .i64 0) (.string ⟨#[]⟩) (.slice none 0 0) (.slice none 0 0) (.slice none 0 0) (.int .i64 0) (.int .i64 0)++Jr (w+1+1+1+1+1+1) (.int .i64 0) (.string ⟨#[]⟩) (.int .i64 1) (.string ⟨#[]⟩) (.slice none 0 0) (.slice none 0 0) (.slice none 0 0) (.int .i64 0) (.int .i64 0)++Jr (w+1+1+1+1) (.int .i64 3) (.string ⟨#[100]⟩) (.int .i64 0) (.string ⟨#[]⟩) (.slice none 0 0) (.slice none 0 0) (.slice none 0 0) (.int .i64 0) (.int .i64 0)) w')=>(show ?Lq1 w' from Yu.spread h))
 have HG:=Qq hG
 have aX:=Qq (λw' z0 z1 z2 z3 z4 z5 z6 z7 z8 (h:Yu _ w')=>HS.o _ (h.put9 HG.o z0 z1 z2 z3 z4 z5 z6 z7 z8))
 unfold put9 at aX
 have J:=aW
 clear hG
 obtain ⟨aN,aO,aP,aB,aQ,aR⟩:=BE True.intro True.intro True.intro True.intro True.intro True.intro
 go_region_held3 ?Lq1 (first | with_reducible exact HS.o _ G | with_reducible exact HS.o _ G.drew | with_reducible exact HS.o _ (G.alloc _) | with_reducible exact HS.o _ (G.alloc _).drew | with_reducible exact HS.o _ ((G.alloc _).alloc _) | with_reducible exact HS.o _ ((G.alloc _).alloc _).drew | with_reducible exact HS.o _ (((G.alloc _).alloc _).alloc _) | with_reducible exact aX.o _ _ _ _ _ _ _ _ _ _ G)
  (first
   | (have hn:=M.o;clear hn;(repeat (first
      | (have hk:=aB.o;clear aB hk;generalize aA:World.alloc _ (Obj.cells zQ 46 _)=WD;have D:=Vm aA;have aG:=Jp aA;have aH:=Fk aA HR.o;have Y:=G.later D;clear G;have G:=Y;clear Y;have T:=Qq (Ym D HR.o);clear HR;have HR:=T;clear T;have N:=Qq (J.o.n D);clear J;have J:=N;clear N;(try (have A:=Qq (Ym D O.o);clear O;have O:=A;clear A));(try (have A:=Qq (U.o.move (.f D) Ij);clear U;have U:=A;clear A));(try (have A:=Qq (V.o.move (.f D) Ij);clear V;have V:=A;clear A));(try (have A:=Qq (M.o.move (.f D) Ij);clear M;have M:=A;clear A));(try (have A:=Qq (I.o.move (.f D) Ij);clear I;have I:=A;clear A));have Z:=Qq aG;have aL:=Qq aH;clear aA D aG aH;have hN:=(show Yx (λb=>w<b) WD [.int .i64 14,.string ⟨#[110,111,116]⟩,Ic,Ig,Ie,Ie,Io _ 0 1 1,Ic,Ic] (Gen.op [110,111,116] [Gen.d]) from (Xv (nm:=[110,111,116]) (s:=[]) Ib Ib (Sl.nil _ _ _) (Sl.nil _ _ _) (Y4 (xs:=[Gen.d]) Z.o aL.o (Cs.one (r:=Vz) (Yv 3 [100] 0 [] Ib Ib)) rfl rfl Ib)));have I:=Qq hN;clear hN)
      | (have hn:=M.o;clear hn;have hk:=aQ.o;clear aQ hk;generalize aS:World.alloc _ (Obj.cells #[bO,.string bS,bQ,.string bU,.slice bG bY cE,.slice bI cA cG,.slice bK cC cI,bM,bW,bP,.string bT,bR,.string bV,.slice bH bZ cF,.slice bJ cB cH,.slice bL cD cJ,bN,bX] 46 _)=WK;have aI:=Vm aS;have bA:=Jp aS;have bB:=Fk aS HR.o;have Y:=G.later aI;clear G;have G:=Y;clear Y;have T:=Qq (Ym aI HR.o);clear HR;have HR:=T;clear T;have N:=Qq (J.o.n aI);clear J;have J:=N;clear N;(try (have A:=Qq (Ym aI Z.o);clear Z;have Z:=A;clear A));(try (have A:=Qq (U.o.move (.f aI) Ij);clear U;have U:=A;clear A));(try (have A:=Qq (V.o.move (.f aI) Ij);clear V;have V:=A;clear A));(try (have A:=Qq (M.o.move (.f aI) Ij);clear M;have M:=A;clear A));(try (have A:=Qq (I.o.move (.f aI) Ij);clear I;have I:=A;clear A));have O:=Qq bA;have bF:=Qq bB;clear aS aI bA bB)
      | fail));have hn:=O.o;clear hn;have hk:=aR.o;clear aR hk;obtain ⟨⟨f0,f1,f2,f3,f4,f5,f6,f7,f8⟩,y0,y1,y2,y3,y4,y5,y6,y7,y8⟩:=BM HR.o;go_simp)
   | (have hk:=aN.o;go_at_call 63;(repeat (first
      | (have hk:=aB.o;clear aB hk;generalize aA:World.alloc _ (Obj.cells zQ 46 _)=WD;have D:=Vm aA;have aG:=Jp aA;have aH:=Fk aA HR.o;have Y:=G.later D;clear G;have G:=Y;clear Y;have T:=Qq (Ym D HR.o);clear HR;have HR:=T;clear T;have N:=Qq (J.o.n D);clear J;have J:=N;clear N;(try (have A:=Qq (Ym D O.o);clear O;have O:=A;clear A));(try (have A:=Qq (U.o.move (.f D) Ij);clear U;have U:=A;clear A));(try (have A:=Qq (V.o.move (.f D) Ij);clear V;have V:=A;clear A));(try (have A:=Qq (M.o.move (.f D) Ij);clear M;have M:=A;clear A));(try (have A:=Qq (I.o.move (.f D) Ij);clear I;have I:=A;clear A));have Z:=Qq aG;have aL:=Qq aH;clear aA D aG aH;have hN:=(show Yx (λb=>w<b) WD [.int .i64 14,.string ⟨#[110,111,116]⟩,Ic,Ig,Ie,Ie,Io _ 0 1 1,Ic,Ic] (Gen.op [110,111,116] [Gen.d]) from (Xv (nm:=[110,111,116]) (s:=[]) Ib Ib (Sl.nil _ _ _) (Sl.nil _ _ _) (Y4 (xs:=[Gen.d]) Z.o aL.o (Cs.one (r:=Vz) (Yv 3 [100] 0 [] Ib Ib)) rfl rfl Ib)));have I:=Qq hN;clear hN)
      | fail));refine (Vo w [45] _ _ _ _ _ Ib (by exact (Yv 3 [97] 0 [] Ib Ib)) (by exact (Yv 3 [98] 0 [] Ib Ib)) (by exact Z8 HR.o)).mono ?_;rintro e W1 ⟨bO,bS,bQ,bU,bG,bY,cE,bI,cA,cG,bK,cC,cI,bM,bW,rfl,bC,aD⟩;clear aN hk;(try (have aK:=Uz aD;clear aD;have aD:=aK;clear aK));have Y:=G.later aD;clear G;have G:=Y;clear Y;have T:=Qq (Ym aD HR.o);clear HR;have HR:=T;clear T;have N:=Qq (J.o.n aD);clear J;have J:=N;clear N;(try (have A:=Qq (Ym aD Z.o);clear Z;have Z:=A;clear A));(try (have A:=Qq (Ym aD O.o);clear O;have O:=A;clear A));(try (have A:=Qq (V.o.move (.f aD) Ij);clear V;have V:=A;clear A));(try (have A:=Qq (M.o.move (.f aD) Ij);clear M;have M:=A;clear A));(try (have A:=Qq (I.o.move (.f aD) Ij);clear I;have I:=A;clear A));have U:=Qq bC;clear bC aD)
   | (have hn:=U.o;clear hn;have hk:=aO.o;go_at_call 63;(repeat (first
      | (have hk:=aB.o;clear aB hk;generalize aA:World.alloc _ (Obj.cells zQ 46 _)=WD;have D:=Vm aA;have aG:=Jp aA;have aH:=Fk aA HR.o;have Y:=G.later D;clear G;have G:=Y;clear Y;have T:=Qq (Ym D HR.o);clear HR;have HR:=T;clear T;have N:=Qq (J.o.n D);clear J;have J:=N;clear N;(try (have A:=Qq (Ym D O.o);clear O;have O:=A;clear A));(try (have A:=Qq (U.o.move (.f D) Ij);clear U;have U:=A;clear A));(try (have A:=Qq (V.o.move (.f D) Ij);clear V;have V:=A;clear A));(try (have A:=Qq (M.o.move (.f D) Ij);clear M;have M:=A;clear A));(try (have A:=Qq (I.o.move (.f D) Ij);clear I;have I:=A;clear A));have Z:=Qq aG;have aL:=Qq aH;clear aA D aG aH;have hN:=(show Yx (λb=>w<b) WD [.int .i64 14,.string ⟨#[110,111,116]⟩,Ic,Ig,Ie,Ie,Io _ 0 1 1,Ic,Ic] (Gen.op [110,111,116] [Gen.d]) from (Xv (nm:=[110,111,116]) (s:=[]) Ib Ib (Sl.nil _ _ _) (Sl.nil _ _ _) (Y4 (xs:=[Gen.d]) Z.o aL.o (Cs.one (r:=Vz) (Yv 3 [100] 0 [] Ib Ib)) rfl rfl Ib)));have I:=Qq hN;clear hN)
      | fail));refine (Vo w [60] _ _ _ _ _ Ib (by exact (Yv 3 [97] 0 [] Ib Ib)) (by exact (Yv 0 [] 1 [] Ib Ib)) (by exact Z8 HR.o)).mono ?_;rintro e W2 ⟨cP,cR,cQ,cS,cL,cU,cX,cM,cV,cY,cN,cW,cZ,cO,cT,rfl,bD,aE⟩;clear aO hk;(try (have aK:=Uz aE;clear aE;have aE:=aK;clear aK));have Y:=G.later aE;clear G;have G:=Y;clear Y;have T:=Qq (Ym aE HR.o);clear HR;have HR:=T;clear T;have N:=Qq (J.o.n aE);clear J;have J:=N;clear N;(try (have A:=Qq (Ym aE Z.o);clear Z;have Z:=A;clear A));(try (have A:=Qq (Ym aE O.o);clear O;have O:=A;clear A));(try (have A:=Qq (U.o.move (.f aE) Ij);clear U;have U:=A;clear A));(try (have A:=Qq (M.o.move (.f aE) Ij);clear M;have M:=A;clear A));(try (have A:=Qq (I.o.move (.f aE) Ij);clear I;have I:=A;clear A));have V:=Qq bD;clear bD aE)
   | (have hn:=V.o;clear hn;have hk:=aP.o;go_at_call 63;(repeat (first
      | (have hk:=aB.o;clear aB hk;generalize aA:World.alloc _ (Obj.cells zQ 46 _)=WD;have D:=Vm aA;have aG:=Jp aA;have aH:=Fk aA HR.o;have Y:=G.later D;clear G;have G:=Y;clear Y;have T:=Qq (Ym D HR.o);clear HR;have HR:=T;clear T;have N:=Qq (J.o.n D);clear J;have J:=N;clear N;(try (have A:=Qq (Ym D O.o);clear O;have O:=A;clear A));(try (have A:=Qq (U.o.move (.f D) Ij);clear U;have U:=A;clear A));(try (have A:=Qq (V.o.move (.f D) Ij);clear V;have V:=A;clear A));(try (have A:=Qq (M.o.move (.f D) Ij);clear M;have M:=A;clear A));(try (have A:=Qq (I.o.move (.f D) Ij);clear I;have I:=A;clear A));have Z:=Qq aG;have aL:=Qq aH;clear aA D aG aH;have hN:=(show Yx (λb=>w<b) WD [.int .i64 14,.string ⟨#[110,111,116]⟩,Ic,Ig,Ie,Ie,Io _ 0 1 1,Ic,Ic] (Gen.op [110,111,116] [Gen.d]) from (Xv (nm:=[110,111,116]) (s:=[]) Ib Ib (Sl.nil _ _ _) (Sl.nil _ _ _) (Y4 (xs:=[Gen.d]) Z.o aL.o (Cs.one (r:=Vz) (Yv 3 [100] 0 [] Ib Ib)) rfl rfl Ib)));have I:=Qq hN;clear hN)
      | fail));refine (Vo w [97,110,100] _ _ _ _ _ Ib (by exact V.o) (by exact I.o) (by exact Z8 HR.o)).mono ?_;rintro e W3 ⟨bP,bT,bR,bV,bH,bZ,cF,bJ,cB,cH,bL,cD,cJ,bN,bX,rfl,bE,aF⟩;clear aP hk;(try (have aK:=Uz aF;clear aF;have aF:=aK;clear aK));have Y:=G.later aF;clear G;have G:=Y;clear Y;have T:=Qq (Ym aF HR.o);clear HR;have HR:=T;clear T;have N:=Qq (J.o.n aF);clear J;have J:=N;clear N;(try (have A:=Qq (Ym aF Z.o);clear Z;have Z:=A;clear A));(try (have A:=Qq (Ym aF O.o);clear O;have O:=A;clear A));(try (have A:=Qq (U.o.move (.f aF) Ij);clear U;have U:=A;clear A));(try (have A:=Qq (V.o.move (.f aF) Ij);clear V;have V:=A;clear A));(try (have A:=Qq (I.o.move (.f aF) Ij);clear I;have I:=A;clear A));have M:=Qq bE;clear bE aF)
   | fail)
 all_goals
  go_wp2_with fail
  show bodyPost _ _ _ _ _ (put9 _ w (.int .i64 11) (.string ⟨#[97]⟩) Ic Ig Ie Ie (Io _ 0 2 2) Ic Ic)
  exact Q7 (v:=.agg #[.int .i64 11,.string ⟨#[97]⟩,Ic,Ig,Ie,Ie,Io _ 0 2 2,Ic,Ic]) (by simp [results,results17,go_sem,Xm HR.o]) rfl (Uu (Xv (nm:=[97]) (s:=[]) Ib Ib (Sl.nil _ _ _) (Sl.nil _ _ _) (Y4 (xs:=[Gen.op [45] [Gen.a,Gen.b],Gen.op [97,110,100] [Gen.op [60] [Gen.a,Gen.one],Gen.op [110,111,116] [Gen.d]]]) O.o bF.o ((Cs.one (r:=Vz) U.o).app (Cs.one (r:=Vz) M.o)) rfl rfl Ib)) J.o rfl)
end Go.Proofs.YtdpibdpbgokmoaaGreatDoor
