import Derived.Test.YtcljcblceodciaaGreatDoorU43
set_option maxRecDepth 100000
set_option maxHeartbeats 400000000
namespace Go.Proofs.YtcljcblceodciaaGreatDoor
open Go.RowKit Go.Shelf Go.Lib Tryz
structure St (s:Sc):Prop where
 sums:Us s.sums
 gen:∀ t ∈ s.tables,Ks t
 ok:∀ t ∈ s.tables,Ms t
 few:s.tables.length<=20
 once:(s.tables.map Tbl.name).Nodup
structure Un (s:Sc) (c:Nat) (l:List Rel):Prop where
 tabs:l.map Rel.table=s.tables.map Tbl.name
 rows:∀ r ∈ l,∀ v ∈ r.rows,Vr v
 few:∀ r ∈ l,r.rows.length<=c
 up:∀ r ∈ l,UpV r.rows
theorem Un.len {s:Sc} {c:Nat} {l:List Rel} (h:Un s c l):l.length=s.tables.length:=by have:=congrArg List.length h.tabs;simpa using this
theorem Un.mono {s:Sc} {c d:Nat} {l:List Rel} (h:Un s c l) (hc:c<=d):Un s d l:=⟨h.tabs,h.rows,fun r hr=>Qc (h.few r hr) hc,h.up⟩
theorem Om (s:Sc):Un s 5 (Xu s):=by
 refine ⟨by simp [Xu,Function.comp_def],fun r A=>?_,fun r A=>?_,fun r A=>?_⟩
 all_goals
  unfold Xu at A
  obtain ⟨t,_,rfl⟩:=List.mem_map.1 A
  simp [UpV]
theorem Hp {l:List Val} {x y:Val} (h:y ∈ Jd l x):y ∈ l\/y=x:=by
 unfold Jd at h
 split at h
 ·exact .inl h
 rcases Z4.1 h with h | h
 ·exact .inl (List.mem_of_mem_take h)
 rcases Z3.1 h with h | h
 ·exact .inr h
 exact .inl (Zw h)
theorem N9 (l:List Val) (x:Val):(Jd l x).length<=l.length+1:=by
 unfold Jd
 split
 ·omega
 rw [Ql,List.length_cons,Qm,Zq];omega
theorem Un.ins {s:Sc} {c:Nat} {l:List Rel} (h:Un s c l) (x:Bs) (v:Val) (hv:Vr v) (hc:∀ i r,Vu l x=some i->l[i]?=some r->r.rows.length<c):Un s c (Kl l x v):=by
 cases ha:Vu l x with
 | none=>rw [G9 ha];exact h
 | some i=>
  obtain ⟨r,G⟩:∃ r,l[i]?=some r:=by
   unfold Vu at ha
   have:=(List.findIdx?_eq_some_iff_getElem.1 ha).1
   exact ⟨_,Qx this⟩
  rw [Fu ha G]
  have hm:=Qy G
  have hi:=hc i r ha G
  have D:∀ q ∈ l.set i ⟨r.table,Jd r.rows v⟩,q ∈ l\/q=⟨r.table,Jd r.rows v⟩:=fun q A=>List.mem_or_eq_of_mem_set A
  refine ⟨?_,fun q A u I=>?_,fun q A=>?_,fun q A=>?_⟩
  ·rw [<- h.tabs,List.map_set]
   obtain ⟨h1,rfl⟩:=Qj G
   apply List.ext_getElem?
   intro j
   rw [List.getElem?_set]
   split
   ·rename_i e
    subst e
    simp [h1]
   rfl
  ·rcases D q A with A | rfl
   ·exact h.rows q A u I
   rcases Hp I with I | rfl
   ·exact h.rows r hm u I
   exact hv
  ·rcases D q A with A | rfl
   ·exact h.few q A
   have:=N9 r.rows v
   show (Jd r.rows v).length<=c
   omega
  rcases D q A with A | rfl
  ·exact h.up q A
  exact putV_up (h.up r hm) v
theorem Un.at_ {s:Sc} {c:Nat} {l:List Rel} (h:Un s c l) (hd:(s.tables.map Tbl.name).Nodup) {i:Nat} {t:Tbl} (ht:s.tables[i]?=some t):Vu l t.name=some i:=by
 have I:i<l.length:=by rw [h.len];exact (Qj ht).1
 have hn:∀ j (A:j<l.length),(l[j]).table=(s.tables.map Tbl.name)[j]'(by rw [<- h.tabs];simpa using A):=fun j A=>by
  have:(l.map Rel.table)[j]'(by simpa using A)=(l[j]).table:=Ca
  rw [<- this]
  simp only [h.tabs]
 have G:(s.tables.map Tbl.name)[i]'(by rw [<- h.tabs];simpa using I)=t.name:=by
  obtain ⟨h1,rfl⟩:=Qj ht
  simp
 unfold Vu
 refine List.findIdx?_eq_some_iff_getElem.2 ⟨I,by simp [hn i I,G],fun j A=>?_⟩
 have D:j<l.length:=C7
 have:(l[j]).table≠t.name:=by
  rw [hn j D,<- G]
  intro e
  exact (List.pairwise_iff_getElem.1 hd) j i (by rw [<- h.tabs];simpa using D) (by rw [<- h.tabs];simpa using I) A e
 simpa using this
def J7 (s:Sc) (c:Nat) (W0 wr:World) (v:Value) (n:Nat):Prop:=∃ l css,Un s c l/\l.length=n/\Own Ym 80 (fun b=>W0<=b) W0 wr v l css
def StateIs' (s:Sc) (c:Nat) (w:World) (e:Ending) (w':World):Prop:=∃ l p cap css,e=.returned (.slice p l.length cap)/\Un s c l/\Own Ym 80 (fun b=>w<=b) w w' (.slice p l.length cap) l css/\Below w w w'
theorem Us.ok {us:List Sm} (h:Us us):Kn us:=fun u hu c hc=>(h u hu c hc).1
theorem J7.grow {s:Sc} {c:Nat} {W0 wr wr':World} {v:Value} {n:Nat} (h:J7 s c W0 wr v n) (hb:Below wr wr wr'):J7 s c W0 wr' v n:=by
 obtain ⟨l,css,h1,h2,h3⟩:=h
 exact ⟨l,css,h1,h2,h3.below hb⟩
theorem R5 (HCk:Du) (s:Sc) (hS:St s) (S0 S3:Nat->Prop) (cs:List Value) (nv:Value) (ns:List Int) (w:World) (hs:Xt S0 w cs s) (hn0:Xd S3 w nv ns) (hi:Uh ns):
  Calls prog 7 #[cs,nv] w (StateIs' s 5 w):=by
 have Y:=Qq (fun W (hW:Below w w W)=>R9 S0 s cs W (hs.below hW) (C8 hS.few))
 obtain ⟨aX,dZ,D⟩:=Qjq hs hn0 hS
 have bR:=Qq (fun (k:Nat) W (hW:Below w w W)=>Yn S3 nv ns (k+1) 5 W (hn0.below hW) hi C7 C7)
 obtain ⟨uv,tv,rfl,hu,ht⟩:=hs
 obtain ⟨up,uc,rfl,_⟩:=hu.len
 obtain ⟨tp,tc,rfl,_⟩:=ht.len
 obtain ⟨np,nc,rfl,_⟩:=hn0.len
 obtain ⟨n,hn⟩:=eX (s.tables.length)
 have fY:n<=20:=C8 hS.few
 have he:(Xu s).length=n:=by rw [<- hn];simp [Xu]
 unfold Tn at Y
 rw [hn] at ht aX Y |-
 rw [he] at Y
 obtain ⟨HT,HN,HI⟩:=Qjq ht hn hi
 clear hu ht hn0 hn he hS hi
 simp only [Int.natCast_add,Int.cast_ofNat_Int] at bR
 go_enter func7,ntmps7
 go_upto_region 1 with fail
 generalize bF:w.alloc _=W1
 have cN:=eqB bF (Zg _ _)
 have bG:=eqH (b:=w.heap.size) bF (Qw _ _)
 have aU:=Qq cN;have aJ:=Qq bG
 obtain ⟨c0,c1⟩:=row2 bG
 clear bF cN bG
 have aE:=Z8 aJ.out
 go_upto_region 2 with (go_at_call 28;refine (Y.out _ aU.out).mono ?_;rintro e w2 ⟨p2,cC,cG,rfl,cI,cO⟩;have eA:=Qq cI;have dU:=Qq (show Below W1 W1 w2 from cO);clear cI cO)
 have cW:J7 s 5 w w2 (.slice p2 n cC) n:=⟨Xu s,cG,Om s,by rw [<- HN.out];simp [Xu],eA.out.weak C7 (fun b _ h=>by rcases h with h | h;exact h.elim;exact C7)⟩
 have eF:=Qq cW
 clear cW Y c0 c1
 go_wp2_with fail
 go_loopw [5,6,7,8,9,10] (fun t5 t6 _ _ _ _ wr=>∃ (k:Nat) (p:Option Addr) (cap:Nat),k<=3/\t5=.slice p n cap/\t6=.int .i64 k/\Aside (J7 s 5 w wr (.slice p n cap) n/\Below W1 W1 wr)) (fun _ t6 _ _ _ _ _=>3 - (intOf t6).toNat)
 case atStart=>exact ⟨0,_,_,Q8 _,rfl,rfl,⟨eF.out,dU.out⟩⟩
 obtain ⟨ps,pa,cD,fP,rfl,rfl,hA⟩:=hrel
 have aN:=Qq hA.out.1;have bP:=Qq hA.out.2
 clear hA
 by_cases hps:ps<3
 ·have g1:(ps:Int)<3:=C7
  go_upto_region 6 with fail
  go_loopw [5,7,8,9,10] (fun t5 t7 _ _ _ wr=>∃ (k:Nat) (p:Option Addr) (cap:Nat),k<=n/\t5=.slice p n cap/\t7=.int .i64 k/\Aside (J7 s 5 w wr (.slice p n cap) n/\Below W1 W1 wr)) (fun _ t7 _ _ _ _=>n - (intOf t7).toNat)
  case atStart=>exact ⟨0,_,_,Q8 _,rfl,rfl,⟨aN.out,bP.out⟩⟩
  obtain ⟨i,pb,fO,fS,rfl,rfl,hA⟩:=hrel
  have aO:=Qq hA.out.1;have aV:=Qq hA.out.2
  clear hA
  have cM:=kE aV.out aE aJ.out
  have c1:=rA1 cM
  clear cM
  by_cases hin:i<n
  ·have g2:(i:Int)<(n:Int):=C7
   have g3:(0:Int)<=(i:Int):=C7
   go_upto_region 9 with fail
   clear c1
   go_loopw [5,8,9,10] (fun t5 t8 _ _ wr=>∃ (k:Nat) (p:Option Addr) (cap:Nat),k<=3/\t5=.slice p n cap/\t8=.int .i64 k/\Aside (J7 s 5 w wr (.slice p n cap) n/\Below W1 W1 wr)) (fun _ t8 _ _ _=>3 - (intOf t8).toNat)
   case atStart=>exact ⟨0,_,_,Q8 _,rfl,rfl,⟨aO.out,aV.out⟩⟩
   obtain ⟨k,pc,aA,fT,rfl,rfl,hA⟩:=hrel
   have I:=Qq hA.out.1;have U:=Qq hA.out.2
   clear hA
   have J:=Qq (aU.out.thn U.out)
   by_cases hk:k<3
   ·have g4:(k:Int)<3:=C7
    obtain ⟨l,css,hg,cS,hO⟩:=I.out
    have bD:Sl Ym (fun b=>w<=b) wr (.slice pc n aA) l:=by
     have:=hO.sl (S':=fun b=>w<=b) C7 (fun _ h=>h) Qje
     exact this
    obtain ⟨r,hr⟩:∃ r,l[i]?=some r:=⟨_,Qx C7⟩
    obtain ⟨lb,aS,gA,eU,fX,fW,_,⟨rv,cU,eZ,fA,eY⟩,cV⟩:=bD.elem hr
    subst eU;subst cU
    obtain ⟨q,m,aR,_⟩:=eY
    obtain ⟨mr,bH⟩:=eX (r.rows.length)
    rw [bH] at aR
    subst aR
    have e1:=cV 1 _ rfl
    rw [show Ym.k=2 from rfl] at e1
    obtain ⟨aH,bT,HR,dX⟩:=Qjz hg bD hr bH
    clear hg hO bD hr cV eZ fA bH css
    by_cases hm5:mr<5
    ·have g5:(mr:Int)<5:=C7
     obtain ⟨a,ha⟩:∃ a:Nat,11*(ps:Int)+5*(i:Int)+3*(k:Int)=(a:Int):=⟨11*ps+5*i+3*k,C7⟩
     have eS:a<=1000:=C7
     have aW:=Qq (bR.out a)
     obtain ⟨z,hz⟩:=eX (Yl ns (a+1) 5)
     rw [hz] at aW
     clear hz
     go_upto_region 12 with fail
     by_cases hz0:z=0
     ·subst hz0
      go_wp2_with (go_at_call 27;refine (aW.out _ J.out).mono ?_;rintro e w' ⟨rfl,rfl⟩)
      go_roundw
      case measure=>simp [intOf];omega
      case rel=>exact ⟨k+1,_,_,C7,rfl,by go_num,I.out,U.out⟩
     have hq:(z==0)=false:=by rw [<- Qt,beq_iff_eq];exact hz0
     obtain ⟨t,ht⟩:∃ t,s.tables[i]?=some t:=⟨_,Qx (by rw [HN.out];exact hin)⟩
     obtain ⟨tb,T,fQ,fC,fZ,_,_,bE,A⟩:=(HT.out.below J.out).elem ht
     subst fC
     obtain ⟨cF,cE,dA,cZ,dJ,dI,k9,dK,n9,dL,dE,dB,bZ,dF,dC,cA,dG,dD,cB,a9,z9,cQ,_⟩:=Zt bE
     simp only [tcs] at cQ
     subst cQ
     have aD:=kE U.out aE aJ.out
     obtain ⟨c0,c1⟩:=row2 aD
     have d0:=A 0 _ rfl;have d1:=A 1 _ rfl;have d2:=A 2 _ rfl;have d3:=A 3 _ rfl;have d4:=A 4 _ rfl;have d5:=A 5 _ rfl;have d6:=A 6 _ rfl;have d7:=A 7 _ rfl;have d8:=A 8 _ rfl;have d9:=A 9 _ rfl;have aZ:=A 10 _ rfl;have bA:=A 11 _ rfl;have bB:=A 12 _ rfl
     rw [show Zm.k=13 from rfl] at d0 d1 d2 d3 d4 d5 d6 d7 d8 d9 aZ bA bB
     rw [Nat.add_zero] at d0
     try unfold sv at d0
     obtain ⟨eG,bW,eH⟩:=Qjq bE (Qy ht) ht
     clear aD A bE ht e1
     go_upto_region 13 with (go_at_call 27;refine (aW.out _ J.out).mono ?_;rintro e w' ⟨rfl,rfl⟩)
     refine let_mvar% ?Lq1:=fun w':World=>Cf w' w 0 (.slice up s.sums.length uc)/\Cf w' w 1 (Cg tb T n tc)/\Qjm w' tb (T+i*13) t.name (.slice cF t.columns.length cE) (.slice dA t.key.length cZ) (.slice dJ t.refs.length dI) k9 (.string dK) n9 (.string dL) (.slice dE dB bZ) (.slice dF dC cA) (.slice dG dD cB) a9 z9 (Below wr wr w');?_
     have HS:∀ w',Below wr wr w'->?Lq1 w':=by
      intro w' h
      have N:∀ {b j:Nat} {u:Value},wr.cell? ⟨b,j,none⟩=some u->w'.cell? ⟨b,j,none⟩=some u:=fun hc=>kC h hc
      exact ⟨N c0,N c1,N d0,N d1,N d2,N d3,N d4,N d5,N d6,N d7,N d8,N d9,N aZ,N bA,N bB,h⟩
     obtain ⟨bS,eE,dV,G,dT,aI⟩:=U1 HS (fun w' h=>h.2.2.2.2.2.2.2.2.2.2.2.2.2.2.2)
     have HP:=fun w' x0 x1 x2 x3 x4 h=>aI.out (Zi w' wr x0 x1 x2 x3 x4) (Zc (G.out w' h) (Q9 _))
     unfold Zi at HP
     have eD:=Qq HP
     clear HS HP c0 c1 d0 d1 d2 d3 d4 d5 d6 d7 d8 d9 aZ bA bB
     have aM:=Qq (fun W' (h':Below wr wr W')=>(rrow_any S0 (fun b=>w<=b) _ S3 s [.slice up s.sums.length uc,Cg tb T n tc] (.slice (some ⟨lb,aS,none⟩) n aA) l t (Co t cF cE dA cZ dJ dI k9 dK n9 dL dE dB bZ dF dC cA dG dD cB a9 z9) (.slice np ns.length nc) ns a W' (aX.out.below (J.out.thn h')) ((bT.out.below h').rel) (Zm.frame eG.out (.of_below h')) (dZ.out.below (J.out.thn h')) HI.out eS (D.out.gen t bW.out) D.out.sums (fun t ht=>(D.out.ok t ht).key) (fun r hr v hv=>(aH.out.rows r hr v hv).good)).mono (R':=fun e w2=>∃ v q3 m3 q4 m4,e=.returned (.agg (Cn v q3 m3 q4 m4))/\Vr v/\Z9 (fun b=>w<=b) w2 (vcs v q3 m3 q4 m4) v/\Below wr wr w2) (by
      rintro e w2 ⟨v,q3,m3,q4,m4,rfl,x1,x2,x3,x4⟩
      have fB:=h'.size
      have fE:=J.out.size
      have fU:=(D.out.gen t bW.out).few
      exact ⟨v,q3,m3,q4,m4,rfl,⟨x1,C7⟩,x3.move (.refl _ _) (fun b _ h=>h.elim id (fun h=>by show w<=b;omega)),h'.thn x4⟩))
     have Z:=Qq (fun W' v q3 m3 q4 m4 (h':Below wr wr W') (hv:Z9 (fun b=>w<=b) W' (vcs v q3 m3 q4 m4) v)=>(Gm (fun b=>w<=b) (.slice (some ⟨lb,aS,none⟩) n aA) l t.name v _ W' (bT.out.below h') hv C7 (fun r hr=>by have:=aH.out.few r hr;omega)).mono (R':=fun e w2=>∃ p cap css,e=.returned (.slice p n cap)/\Own Ym 80 (fun b=>w<=b) w w2 (.slice p n cap) (Kl l t.name v) css/\Below wr wr w2) (by
      rintro e w2 ⟨p,cap,css,rfl,x1,x2⟩
      have fB:=h'.size
      have fE:=J.out.size
      rw [Kt,cS] at x1 |-
      exact ⟨p,cap,css,rfl,x1.weak C7 (fun b _ h=>h.elim id (fun h=>by show w<=b;omega)),h'.thn x2⟩))
     unfold sv vcs at Z
     go_cut [10] from 24 to 73 (fun fG wx=>∃ p cap v css,fG=.slice p n cap/\Vr v/\Own Ym 80 (fun b=>w<=b) w wx (.slice p n cap) (Kl l t.name v) css/\Below wr wr wx)
     case first=>
      go_region_held3 ?Lq1 (first | with_reducible exact bS.out | with_reducible exact cL | with_reducible exact cK)
       (first
        | (go_at_call 29;refine (Z.out _ _ _ _ _ _ (G.out _ cK) eI.out).mono ?_;rintro e w3 ⟨p9,M,aB,rfl,cJ,eW⟩;have cL:=aI.out _ eW;have eB:=Qq cJ;clear cJ)
        | (go_at_call 30;refine (aM.out _ (G.out _ Ce)).mono ?_;rintro e w2 ⟨v,q3,m3,q4,m4,rfl,cR,cX,eV⟩;have cK:=aI.out _ eV;have dW:=Qq cR;have eI:=Qq cX;clear cR cX))
      all_goals
       go_wp2_with fail
       go_meet
       exact ⟨p9,M,v,aB,rfl,dW.out,eB.out,G.out _ cL⟩
     obtain ⟨p9,M,v,aB,rfl,cY,bC,aK⟩:=hcut
     have aL:Un s 5 (Kl l t.name v):=aH.out.ins t.name v cY (fun i' r' h1 h2=>by
      rw [aH.out.at_ D.out.once eH.out] at h1
      cases h1
      rw [HR.out] at h2
      cases h2
      rw [dX.out];exact hm5)
     have O:(Kl l t.name v).length=n:=by rw [Kt,cS]
     obtain ⟨fR,V,bX⟩:=Qjq aL (U.out.thn aK) (J.out.thn aK)
     have bV:=Qq (show J7 s 5 w wc (.slice p9 n M) n from ⟨_,aB,aL,O,bC⟩)
     have aQ:Sl Ym (fun b=>w<=b) wc (.slice p9 n M) (Kl l t.name v):=by
      have:=bC.sl (S':=(fun b=>w<=b)) C7 (fun _ h=>h) Qje
      exact this
     have bQ:=Qq (HCk S0 (fun b=>w<=b) s [.slice up s.sums.length uc,Cg tb T n tc] (.slice p9 n M) (Kl l t.name v) wc (aX.out.below bX.out) aQ.rel (by rw [O,HN.out]) D.out.sums.ok D.out.ok aL.rows)
     have aD:=kE V.out aE aJ.out
     obtain ⟨c0,c1⟩:=row2 aD
     have bU:=Qq (I.out.grow aK)
     clear cY bC aL O aQ aD aM Z aK
     clear bS eE dV G dT eD aI
     go_upto_region 15 with (go_at_call 11;refine bQ.out.mono ?_;rintro e w4 ⟨⟨fc,x1,x2,x3,x4,x5,x6,x7,x8,x9,fM,fN,rfl⟩,cP⟩;have fV:∀ W,(Instr.field 38 (.agg #[fc,x1,x2,x3,x4,x5,x6,x7,x8,x9,fM,fN]) 0).run prog W=.ok (.int .i64 fc) W:=(fun W=>by simp [Instr.field,go_sem,part,asAgg]);have aG:=Qq cP;clear cP)
     focus
      go_wp2_with fail
      go_roundw
      case measure=>simp [intOf];omega
      case rel=>exact ⟨k+1,_,_,C7,rfl,by go_num,bV.out.grow aG.out,V.out.thn aG.out⟩
     focus
      exact ⟨⟨k+1,_,_,C7,rfl,by go_num,bU.out.grow (by have h:=aG.out;exact h),V.out.thn aG.out⟩,by simp [intOf];omega⟩
    have g5:¬ (mr:Int)<5:=C7
    go_wp2_with fail
    go_roundw
    case measure=>simp [intOf];omega
    case rel=>exact ⟨i+1,_,_,C7,rfl,by go_num,I.out,U.out⟩
   have eT:k=3:=C7
   subst eT
   go_wp2_with fail
   go_roundw
   case measure=>simp [intOf];omega
   case rel=>exact ⟨i+1,_,_,C7,rfl,by go_num,I.out,U.out⟩
  have g2:¬ (i:Int)<(n:Int):=C7
  go_wp2_with fail
  go_roundw
  case measure=>simp [intOf];omega
  case rel=>exact ⟨ps+1,_,_,C7,rfl,by go_num,aO.out,aV.out⟩
 have cT:ps=3:=C7
 subst cT
 go_wp2_with fail
 go_ret
 obtain ⟨l,css,hg,hl,hO⟩:=aN.out
 subst hl
 exact ⟨l,pa,cD,css,rfl,hg,hO,aU.out.thn bP.out⟩
theorem Bt {P:Program} {T:Type} {r:Rd T} (t e:TypeId) (hu:P.underlying t=some (.slice e)) (hz:∀ w,(Go.sizeOf e).run P w=.ok r.k w) {S:Nat->Prop} {w:World} {p:Option Addr} {n cap:Nat} {l:List T} (h:Sl r S w (.slice p n cap) l) (hc:n<=cap) (k:Nat) (hk:k<=n):
  ∃ p2 c2,(∀ W,(Instr.slice t (.slice p n cap) (some (.int .i64 (k:Int))) none none).run P W=.ok (.slice p2 (n - k) c2) W)/\Sl r S w (.slice p2 (n - k) c2) (l.drop k)/\(l.drop k).length=n - k:=by
 have hn:l.length=n:=by
  obtain ⟨p',c',e,_⟩:=h.len
  simp only [Qr] at e
  exact e.2.1.symm
 obtain ⟨V1,V2,_,h2,_,A⟩:=Vt t e hu hz h ⟨p,cap,by rw [hn],C7⟩ k C7
 have hl:(l.drop k).length=n - k:=by rw [Zq,hn]
 obtain ⟨p2,c2,rfl,_⟩:=A.len
 rw [hl] at h2 A
 exact ⟨p2,c2,h2,A,hl⟩
structure J8 (s:Sc) (c:Nat) (l:List Rel):Prop where
 tabs:l.map Rel.table=s.tables.map Tbl.name
 rows:∀ r ∈ l,∀ v ∈ r.rows,Vr v
 few:∀ r ∈ l,r.rows.length<=c
theorem Un.dy {s:Sc} {c:Nat} {l:List Rel} (h:Un s c l):J8 s c l:=⟨h.tabs,h.rows,h.few⟩
theorem J8.len {s:Sc} {c:Nat} {l:List Rel} (h:J8 s c l):l.length=s.tables.length:=by have:=congrArg List.length h.tabs;simpa using this
theorem J8.mono {s:Sc} {c d:Nat} {l:List Rel} (h:J8 s c l) (hc:c<=d):J8 s d l:=⟨h.tabs,h.rows,fun r hr=>Qc (h.few r hr) hc⟩
theorem J8.set {s:Sc} {c:Nat} {l:List Rel} (h:J8 s c l) {i:Nat} {r:Rel} (hr:l[i]?=some r) (zs:List Val) (hz:∀ v ∈ zs,Vr v) (hc:zs.length<=c):J8 s c (l.set i ⟨r.table,zs⟩):=by
 have D:∀ q ∈ l.set i ⟨r.table,zs⟩,q ∈ l\/q=⟨r.table,zs⟩:=fun q A=>List.mem_or_eq_of_mem_set A
 refine ⟨?_,fun q A u hu=>?_,fun q A=>?_⟩
 ·rw [<- h.tabs,List.map_set]
  obtain ⟨h1,rfl⟩:=Qj hr
  apply List.ext_getElem?
  intro j
  rw [List.getElem?_set]
  split
  ·rename_i e
   subst e
   simp [h1]
  rfl
 ·rcases D q A with A | rfl
  ·exact h.rows q A u hu
  exact hz u hu
 rcases D q A with A | rfl
 ·exact h.few q A
 exact hc
theorem J8.ins {s:Sc} {c:Nat} {l:List Rel} (h:J8 s c l) (x:Bs) (v:Val) (hv:Vr v):J8 s (c+1) (Kl l x v):=by
 cases ha:Vu l x with
 | none=>rw [G9 ha];exact h.mono (Nat.le_succ c)
 | some i=>
  obtain ⟨r,A⟩:∃ r,l[i]?=some r:=by
   unfold Vu at ha
   have:=(List.findIdx?_eq_some_iff_getElem.1 ha).1
   exact ⟨_,Qx this⟩
  rw [Fu ha A]
  have hm:=Qy A
  refine (h.mono (Nat.le_succ c)).set A _ (fun u D=>?_) ?_
  ·rcases Hp D with D | rfl
   ·exact h.rows r hm u D
   exact hv
  have:=N9 r.rows v;have:=h.few r hm;omega
theorem tabs_at {s:Sc} {l:List Rel} (ht:l.map Rel.table=s.tables.map Tbl.name) (hd:(s.tables.map Tbl.name).Nodup) {i:Nat} {t:Tbl} (h:s.tables[i]?=some t):Vu l t.name=some i:=by
 have hl:l.length=s.tables.length:=by have:=congrArg List.length ht;simpa using this
 have I:i<l.length:=by rw [hl];exact (Qj h).1
 have hn:∀ j (A:j<l.length),(l[j]).table=(s.tables.map Tbl.name)[j]'(by rw [<- ht];simpa using A):=fun j A=>by
  have:(l.map Rel.table)[j]'(by simpa using A)=(l[j]).table:=Ca
  rw [<- this]
  simp only [ht]
 have G:(s.tables.map Tbl.name)[i]'(by rw [<- ht];simpa using I)=t.name:=by
  obtain ⟨h1,rfl⟩:=Qj h
  simp
 unfold Vu
 refine List.findIdx?_eq_some_iff_getElem.2 ⟨I,by simp [hn i I,G],fun j A=>?_⟩
 have D:j<l.length:=C7
 have:(l[j]).table≠t.name:=by
  rw [hn j D,<- G]
  intro e
  exact (List.pairwise_iff_getElem.1 hd) j i (by rw [<- ht];simpa using D) (by rw [<- ht];simpa using I) A e
 simpa using this
theorem Vr.dirty {v:Val} (h:Vr v) (hp:0<v.kids.length):Vr (.mk v.kind v.n v.s v.names (.mk 5 0 [] [] []::v.kids.drop 1)):=by
 obtain ⟨hg,hf⟩:=h
 refine ⟨?_,by show (_::_).length<=900;rw [List.length_cons,Zq];have:v.kids.length<=900:=hf;omega⟩
 have D:∀ kids:List Val,(∀ k ∈ kids,Y4 k)->∀ k ∈ (.mk 5 0 [] [] []::kids.drop 1:List Val),Y4 k:=fun kids A k h=>by
  rcases Z3.1 h with rfl | h
  ·exact .list [] (fun k h=>by cases h)
  exact A k (Zw h)
 have hL:∀ kids:List Val,0<kids.length->(.mk 5 0 [] [] []::kids.drop 1:List Val).length=kids.length:=fun kids h=>by
  rw [List.length_cons,Zq];omega
 cases hg with
 | int n=>exact absurd hp (Nat.lt_irrefl 0)
 | text s=>exact absurd hp (Nat.lt_irrefl 0)
 | bool n _=>exact absurd hp (Nat.lt_irrefl 0)
 | make s kids hs hl A=>exact .make s _ hs (Qc (Nat.le_of_eq (hL kids hp)) hl) (D kids A)
 | record names kids hl hn hs A=>exact .record names _ (hl.trans (hL kids hp).symm) hn hs (D kids A)
 | list kids A=>exact .list _ (D kids A)
theorem own_relP {E:TypeId} {S:Nat->Prop} {B g n cap:Nat} {w:World} {l:List Rel} {css:List (List Value)} (hl:l.length<=1000000) (hB:∀ b,B<=b->S b) (h:Own Ym E S B w (.slice (some ⟨g,0,none⟩) n cap) l css):Sl (Tu (fun b=>b≠g)) S w (.slice (some ⟨g,0,none⟩) n cap) l:=by
 have hO:Own (Tu (fun b=>b≠g)) E S B w (.slice (some ⟨g,0,none⟩) n cap) l css:=⟨h.row,⟨h.cs.len,fun i c x hc hx=>by
  obtain ⟨v,e,h1,h2,_⟩:=h.cs.R i c x hc hx
  exact ⟨v,e,h1,h2.mono (fun b _ hb=>⟨hb,fun e=>hb.2 (by rw [e];rfl)⟩)⟩⟩⟩
 exact hO.sl hl hB Qje
def Fp (s:Sc) (c:Nat) (W0 wr:World) (v:Value) (n:Nat):Prop:=∃ l css,J8 s c l/\l.length=n/\Own Ym 80 (fun b=>W0<=b) W0 wr v l css
theorem Fp.grow {s:Sc} {c:Nat} {W0 wr wr':World} {v:Value} {n:Nat} (h:Fp s c W0 wr v n) (hb:Below wr wr wr'):Fp s c W0 wr' v n:=by
 obtain ⟨l,css,h1,h2,h3⟩:=h
 exact ⟨l,css,h1,h2,h3.below hb⟩
def DirtyIs (s:Sc) (w:World) (e:Ending) (w':World):Prop:=∃ l p cap,e=.returned (.slice p l.length cap)/\(∀ r ∈ l,(∀ v ∈ r.rows,Vr v)/\r.rows.length<=8)/\l.length<=s.tables.length/\(∃ d,l.map Rel.table=(s.tables.map Tbl.name).drop d)/\Sl Ym (fun b=>w<=b) w' (.slice p l.length cap) l/\Below w w w'
theorem P8 (k:Int) (nm:Bs) (n:Int) (s:Bs) (names binds:List Bs) (kids:List Ex) (a z:Int) (d:Nat) (ih:∀ x ∈ kids,Xl d x) (hN:Ee k nm names binds kids.length) (q0:k≠0) (q1:k≠1) (q2:k≠2) (q3:k≠3) (q11:k≠11) (q12:k≠12) (q13:k≠13) (q14:k≠14):∀ (S:Nat->Prop) (ce:List Value) (nv vv:Value) (ns:List Bs) (vs:List Val) (w:World),Yx S w ce (.mk k nm n s names binds kids a z)->Sl Zh S w nv ns->Sl Zd S w vv vs->ns.length<=vs.length->vs.length+(d+1)<=1000->(∀ v ∈ vs,Y0 v) ->
  Calls prog 109 #[ce,nv,vv] w (Vj S w):=by
 intro S ce nv vv ns vs w D bS bV aR hd hb
 have hx:Yx (fun b=>S b/\b<w) w ce (.mk k nm n s names binds kids a z):=D.move (.refl _ _) (fun b hb h=>⟨h,hb⟩)
 have hn:=bS.up
 have hv:=bV.up
 obtain ⟨np,nc,rfl,_⟩:=hn.len
 obtain ⟨vp,vc,rfl,eT⟩:=hv.len
 have dF:=Qq hx
 obtain ⟨eW,bv,kv,rfl,eQ,eS,aX,aW,hk⟩:=Yy.1 hx
 obtain ⟨p1,c1,rfl,_⟩:=aX.len
 obtain ⟨p2,c2,rfl,_⟩:=aW.len
 obtain ⟨p3,c3,rfl,eN⟩:=hk.len
 obtain ⟨HN,HV,cP,dV,dT,HK,HI,bA⟩:=Qjy hn hv hb aX aW hk ih aR
 clear D bS bV hx hn hv aX aW hk hb ih aR
 unfold sv at *
 have r0:(k==0)=false:=by rw [<- Qt,beq_iff_eq];exact q0
 have r1:(k==1)=false:=by rw [<- Qt,beq_iff_eq];exact q1
 have r2:(k==2)=false:=by rw [<- Qt,beq_iff_eq];exact q2
 have r3:(k==3)=false:=by rw [<- Qt,beq_iff_eq];exact q3
 have dN:(k==11)=false:=by rw [<- Qt,beq_iff_eq];exact q11
 have dO:(k==12)=false:=by rw [<- Qt,beq_iff_eq];exact q12
 have dP:(k==13)=false:=by rw [<- Qt,beq_iff_eq];exact q13
 have dQ:(k==14)=false:=by rw [<- Qt,beq_iff_eq];exact q14
 clear q0 q1 q2 q3 q11 q12 q13 q14
 obtain ⟨m,hm⟩:=eX (kids.length)
 have eP:m<=1000:=by rw [<- hm];exact hN.few
 have cX:=Qq hN
 rw [hm] at HK |-
 have HM:=Qq hm
 clear hm hN
 obtain ⟨i0,j1,j2,j3,j4⟩:=Y7 (P:=prog) (t:=36) (z:=.agg zV) (n:=5) (b:=80) Cd
 obtain ⟨HJ,cS,cT,cU⟩:=Qjz j1 j2 j3 j4
 clear j1 j2 j3 j4
 go_enter func109,ntmps109
 go_upto_region 31 with fail
 generalize aF:(w.alloc _).alloc _=W1
 have bN:=eqB aF (Zu _ _ _)
 have bK:=eqH (b:=w.heap.size) aF (Q5 _ _ _)
 have aT:=eqH (b:=w.heap.size+1) aF (Q6 _ _ _)
 obtain ⟨cM,dE,dG⟩:=Qjq bN bK aT
 have eO:=Z8 aT
 clear aF bN bK aT
 clear r0 r1 r2 r3 dN dO dP dQ
 go_loopw [13,14,15,16] (fun o i _ _ wr=>∃ (j:Nat) (l:List Val) (p:Option Addr) (cap:Nat),j<=m/\i=.int .i64 j/\o=.slice p j cap/\l.length=j/\Aside (∀ v ∈ l,Y0 v)/\Below (w+2) W1 wr /\
  (∃ css,Own Zd 36 (fun c=>(S c/\c<w)\/w+2<=c) (w+2) wr (.slice p j cap) l css)) (fun _ i _ _ _=>m - (intOf i).toNat)
 case atStart=>exact ⟨0,[],none,0,Q8 _,rfl,rfl,rfl,fun v h=>by simp at h,Qz _ _,[],Own.nil _ _ _ _ _⟩
 obtain ⟨j,l,p,cap,hj,rfl,rfl,bR,bP,I,css,hO⟩:=hrel
 have bL:=kE I C7 dE.out
 have bM:=kE I C7 dG.out
 have bQ:Below w w wr:=cM.out.trans (I.mono C7)
 have eR:=I.size
 obtain ⟨bC,bE,cQ,A,HO,aY,M⟩:=Qjx bL bM I bQ hO bP.out bR
 clear bL bM I bQ hO bP bR
 by_cases hlt2:j<m
 ·have eL:(0:Int)<=(j:Int):=C7
  have eM:(j:Int)<(m:Int):=C7
  obtain ⟨x0,D⟩:∃ x,kids[j]?=some x:=⟨_,Qx (by rw [HM.out];exact hlt2)⟩
  obtain ⟨eU,eV,eA,eC,eB,eD,dW,eF,eI,dX,eG,eJ,dY,eH,eK,dZ,eE,bT,aQ,O,U,V,Y,Z,aA,aB,aC,aD,aE⟩:=HK.out.ex D
  subst bT
  have cR:=Qq (fun W (hW:Below w w W)=>HI.out x0 (Qy D) (fun b=>S b/\b<w) _ _ _ ns vs W (O.move (.of_below hW) Qje) (HN.out.below hW) (HV.out.below hW) bA.out C7 cP.out)
  have dR:=Qq O;have dU:=Qq (Qy D)
  have cL:=Qq (Qe aQ (Qe U (Qe V (Qe Y (Qe Z (Qe aA (Qe aB (Qe aC (Qe aD aE)))))))))
  clear O D aQ U V Y Z aA aB aC aD aE
  obtain ⟨T,q0,q1,q2,q3,q4,q5,q6,q7,q8⟩:=cL.out
  have U:=kD A.out T q0;have V:=kD A.out T q1;have Y:=kD A.out T q2;have Z:=kD A.out T q3;have aA:=kD A.out T q4;have aB:=kD A.out T q5;have aC:=kD A.out T q6;have aD:=kD A.out T q7;have aE:=kD A.out T q8
  clear T q0 q1 q2 q3 q4 q5 q6 q7 q8
  have c6:=rA6 bC.out
  go_upto_region 34 with (go_at_call 109;refine (cR.out _ A.out).mono ?_;rintro e w5 ⟨k5,n5,s5,aL,aJ,aH,aM,aK,aI,b5,rfl,bW,bO⟩;have dA:=Qq bW;have cN:=Qq bO;clear bW bO)
  clear c6 U V Y Z aA aB aC aD aE
  generalize aS:w5.alloc _=W6
  have aU:=eqB aS (Zg _ _)
  have N:=eqH (b:=w5.heap.size) aS (Qw _ _)
  obtain ⟨J,aN,bB⟩:=Qjq (cN.out.thn aU) N aU
  clear aS aU N
  have dS:=J.out.size
  have aO:=A.out.thn J.out
  have aZ:=Qq aO
  clear aO
  cases b5 with
  | false=>
   obtain ⟨v0,v1,v2,v3,v4⟩:=row5 aN.out
   have G:=kB J.out bE.out
   obtain ⟨y0,y1,y2,y3,y4⟩:=row5 G
   obtain ⟨f0,f1,f2,f3,f4⟩:=frz5 G
   have bD:=Qq G
   clear G
   go_wp2_with fail
   show bodyPost _ _ _ _ _ (Zi W6 (w+1) k5 n5 (.string s5) (.slice aL aJ aH) (.slice aM aK aI))
   refine Q7 (v:=.tuple #[.agg #[k5,n5,.string s5,.slice aL aJ aH,.slice aM aK aI],.bool false]) (by simp [results,results109,go_sem,Ze bD.out]) rfl (Xr C7 aZ.out)
  | true=>
   obtain ⟨u,bZ,bY⟩:=dA.out rfl
   have bI:=HO.out.below J.out
   have N:Zd.R (But (fun c=>(S c/\c<w)\/w+2<=c) (.slice p j cap)) W6 [k5,n5,.string s5,.slice aL aJ aH,.slice aM aK aI] u:=Z9.move bZ (.of_below bB.out) (fun b hb hc=>by
    rcases hc with h | h
    ·exact ⟨.inl h,fun e=>by have:=(HO.out.row.lt b e.symm).1;have:=h.2;omega⟩
    have h':wr.heap.size<=b:=h
    exact ⟨.inr C7,fun e=>by have:=(HO.out.row.lt b e.symm).2;omega⟩)
   obtain ⟨cY,dB,dD⟩:=Qjq bI N bY
   clear bI N bZ bY
   obtain ⟨v0,v1,v2,v3,v4⟩:=row5 aN.out
   go_wp2_with (at_builtin;refine Yg (r:=Zd) Cc rfl (.tmp 160) (.tmp 162) _ rfl 36 i0 (.agg zV) 80 underlying34 HJ.out cS.out cT.out cU.out rfl C7 (fun c=>(S c/\c<w)\/w+2<=c) (w+2) W6 (.slice p j cap) l css [k5,n5,.string s5,.slice aL aJ aH,.slice aM aK aI] u rfl cY.out rfl dB.out (by simp [Value.oneCell']) j M.out C7 C7 ?_;intro p7 bF bG w7 bJ bH;have cZ:=Qq bJ;have cV:=Qq bH;clear bJ bH)
   go_roundw
   case measure=>simp [intOf];omega
   case rel=>
    refine ⟨j+1,l++[u],p7,bF,C7,by go_num,rfl,by have:=M.out;simp [this],(show Aside _ from ?_),(cQ.out.trans (J.out.mono C7)).trans cV.out.below,bG,cZ.out⟩
    intro v hv
    rcases Z4.1 hv with h | h
    ·exact aY.out v h
    simp only [Z3,Z2,or_false] at h
    subst h;exact dD.out
 have dJ:j=m:=C7
 subst dJ
 have hE:=Qq (Pp k nm n s names binds kids a z (fun c=>(S c/\c<w)\/w+2<=c) [k,nm,n,s,.slice p1 names.length c1,.slice p2 binds.length c2,.slice p3 j c3,a,z] (.slice p j cap) l wr cX.out (by
  have h:=dF.out.move (S':=(fun c=>(S c/\c<w)\/w+2<=c)) (.of_below A.out) (fun _ _ h=>.inl h)
  rw [HM.out] at h
  exact h) (by rw [M.out,HM.out]) (M.out ▸ HO.out.sl (C8 M.out) (fun b hb=>.inr hb) (fun b _ h=>h)) aY.out)
 obtain ⟨c0,c1,c2,c3,c4,c5,c6,c7,c8⟩:=row9 bC.out
 go_wp2_with (go_at_call 155;refine hE.out.mono ?_;rintro e w7 ⟨k7,n7,s7,cE,cC,cA,cF,cD,cB,b7,rfl,bX,aV⟩;have aG:=kB aV bE.out;obtain ⟨y0,y1,y2,y3,y4⟩:=row5 aG;obtain ⟨f0,f1,f2,f3,f4⟩:=frz5 aG;obtain ⟨dH,dC,cO⟩:=Qjq aG bX aV;clear bX aV aG)
 show bodyPost _ _ _ _ _ (Zi w7 (w+1) k7 n7 (.string s7) (.slice cE cC cA) (.slice cF cD cB))
 refine Q7 (v:=.tuple #[.agg #[k7,n7,.string s7,.slice cE cC cA,.slice cF cD cB],.bool b7]) (by simp [results,results109,go_sem,Ze dH.out]) rfl (Ka C7 (A.out.thn cO.out) (fun hb=>by
   obtain ⟨v,h1,h2⟩:=dC.out hb
   refine ⟨v,h1.move (.refl _ _) (fun c _ hc=>?_),h2⟩
   rcases hc with (hc | hc) | hc
   ·exact .inl hc
   ·exact .inr C7
   exact .inr (by have h':wr.heap.size<=c:=hc;omega)))
end Go.Proofs.YtcljcblceodciaaGreatDoor
