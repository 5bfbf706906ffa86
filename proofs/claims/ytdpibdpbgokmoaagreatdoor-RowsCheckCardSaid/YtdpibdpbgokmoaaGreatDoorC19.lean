import Derived.Test.YtdpibdpbgokmoaaGreatDoorC16
set_option maxRecDepth 100000
set_option maxHeartbeats 400000000
namespace Go.Proofs.YtdpibdpbgokmoaaGreatDoor
open Go.RowKit Go.Shelf Go.Lib Tryz
theorem M9 {T:Type} {l:List T} {k:Nat} {x:T} (h:l[k]?=some x):l.take (k+1)=l.take k++[x]:=by
 rw [List.take_add_one,h];rfl
theorem Pn (S S':Nat→Prop) (av bv:Value) (a b:List Bs) (w:World) (ha:Sl Zh S w av a) (hb:Sl Zh S' w bv b):
  Calls prog 141 #[av,bv] w fun e w'=>e=.returned (.bool (decide (a=b)))∧Gr w w':=by
 obtain ⟨pa,ca,rfl,V⟩:=ha.len
 obtain ⟨pb,cb,rfl,Y⟩:=hb.len
 have HA:=Qq ha;have HB:=Qq hb
 clear ha hb
 obtain ⟨r,Z⟩:=eX (decide (a=b))
 rw [Z]
 have T:=Qq Z
 clear Z
 by_cases hl:a.length=b.length
 ·have D:((a.length:Int) != (b.length:Int))=false:=by simp [hl]
  have HL:=Qq hl
  obtain ⟨n,N⟩:=eX (a.length)
  have M:b.length=n:=Qqj
  rw [N] at HA V;rw [M] at HB Y
  rw [N,M] at D
  have HN:=Qq N;have HM:=Qq M
  rw [N,M]
  clear hl N M
  go_enter func141,ntmps141
  go_wp2_with fail
  clear D
  go_loopw [5] (fun i wr=>∃ k:Nat,k≤n∧i=.int .i64 k∧Aside (a.take k=b.take k)∧Aside (Gr w wr)) (fun i _=>n - (intOf i).toNat)
  case atStart=>exact ⟨0,Q8 _,rfl,rfl,Gr.refl _⟩
  obtain ⟨k,hk,rfl,ht,J⟩:=hrel
  have A:=Qq (show Gr w wr from J);have HT:=Qq (show a.take k=b.take k from ht)
  clear J ht
  by_cases hlt:k<n
  ·obtain ⟨x,O⟩:∃ x,a[k]?=some x:=⟨_,Qx (by rw [HN.out];exact hlt)⟩
   obtain ⟨y,I⟩:∃ y,b[k]?=some y:=⟨_,Qx (by rw [HM.out];exact hlt)⟩
   obtain ⟨ga,oa,rfl,c1,l1⟩:=(HA.out.below A.out.bl).str O
   obtain ⟨gb,ob,rfl,c2,l2⟩:=(HB.out.below A.out.bl).str I
   have HX:=Qq O;have HY:=Qq I
   have aB:(0:Int)≤(k:Int):=Qqj
   have aC:(k:Int)<n:=Qqj
   by_cases he:x=y
   ·subst he
    clear O I
    go_wp2_with fail
    go_quiet (fail)
    go_wp2_with fail
    go_roundw
    case rel=>exact ⟨k+1,Qqj,by go_num,(show Aside _ from by show _=_;rw [M9 HX.out,M9 HY.out,HT.out]),A.out.thn ⟨_,#[],by rw [Sort.grow_empty]⟩⟩
    case measure=>simp [intOf];omega
   have hq:(x==y)=false:=by rw [beq_eq_false_iff_ne];exact he
   have aD:(x != y)=true:=by rw [bne_iff_ne];exact he
   have G:r=false:=by
    rw [← T.out,decide_eq_false_iff_not]
    intro e;subst e;rw [O] at I;exact he (Qb I)
   subst G
   clear O I he
   go_wp2_with fail
   go_quiet (fail)
   go_wp2_with fail
   go_ret
   exact ⟨rfl,A.out.thn ⟨_,#[],by rw [Sort.grow_empty]⟩⟩
  have U:k=n:=Qqj
  subst U
  have aA:r=true:=by
   rw [← T.out,decide_eq_true_eq]
   have:=HT.out
   rw [Zj (by rw [HN.out];exact Q9 _),Zj (by rw [HM.out];exact Q9 _)] at this
   exact this
  subst aA
  go_wp2_with fail
  go_ret
  exact ⟨rfl,A.out⟩
 have D:((a.length:Int) != (b.length:Int))=true:=by rw [bne_iff_ne];omega
 have G:r=false:=by
  rw [← T.out,decide_eq_false_iff_not]
  intro e;exact hl (by rw [e])
 subst G
 go_enter func141,ntmps141
 go_wp2_with fail
 go_ret
 exact ⟨rfl,Gr.refl _⟩
def U0 (n:Nat) (cf:Nat→Nat→Ft) (nm:Nat→Bs) (f:Ft):Prop:=
 (f=Ft.zero∧∀ c i,c<5→i<n→(cf c i).code=0) ∨
 ∃ c i,c<5∧i<n∧(cf c i).code≠0∧f=⟨(cf c i).code,nm i,(cf c i).row,(cf c i).other⟩∧∀ c' i',i'<n→(c'<c∨c'=c∧i'<i)→(cf c' i').code=0
def Fv:Nat→Nat
 | 0=>25
 | 1=>26
 | 2=>31
 | 3=>33
 | _=>35
def Da (B C:Nat):Nat→Array Value
 | 1=>#[.pointer (some ⟨B,0,none⟩)]
 | 3=>#[.pointer (some ⟨B,0,none⟩),.pointer (some ⟨C,0,none⟩)]
 | _=>#[]
def ConOk (w:World) (s:Sc) (cs:List Value) (lv:Value) (l:List Rel) (cf:Nat→Nat→Ft):Prop:=
 ∀ c,c<5→∀ (i:Nat) (t:Tbl) (r:Rel),s.tables[i]?=some t→l[i]?=some r→(∀ c' i',c'<c→i'<s.tables.length→(cf c' i').code=0)→∀ (B C:Nat) (W:World) (ct:List Value) (rv:Value),Below w w W→W.heap[B]?=some (.cells cs.toArray 26 (0,0))→W.cell? ⟨C,0,none⟩=some lv →
  Zn.R (fun b=>b<w) W ct t→Sl Ze (fun b=>b<w) W rv r.rows→Calls prog (Fv c) (#[.agg ct.toArray,rv]++Da B C c) W (Dq (fun b=>b<w) W (cf c i))
def Xt (w:World) (s:Sc) (l:List Rel) (cf:Nat→Nat→Ft) (e:Ending) (w':World):Prop:=
 ∃ f,(Uy s l=true→U0 s.tables.length cf (fun i=>((s.tables[i]?).getD Tbl.zero).name) f)∧(Uy s l=false→f=⟨1,[],Val.zero,Val.zero⟩)∧Dq (fun b=>b<w) w f e w'
theorem Mx {w W:World} {o:Obj} (h:Below (w.alloc o).drew.heap.size (w.alloc o).drew W):W.heap[w.heap.size]?=some o:=
 kE h Qqk (by rw [heap_drew];exact Qw w o)
theorem Qjv (S0 S1:Nat→Prop) (s:Sc) (cs:List Value) (lv:Value) (l:List Rel) (w:World) (hs0:Xu S0 w cs s) (hl0:Sl Y7 S1 w lv l) (cf:Nat→Nat→Ft) (hcon:ConOk w s cs lv l cf):
  Calls prog 9 #[cs,lv] w (Xt w s l cf):=by
 have hN:=Qq (fun W (hb:Below w w W)=>Ro S0 S1 s cs lv l W (hs0.below hb) (hl0.below hb))
 obtain ⟨uv,tv,rfl,hV,hT⟩:=hs0
 have hu:Sl Uu (fun b=>b<w) w uv s.sums:=hV.mono (fun b hb _=>hb)
 have ht:Sl Zn (fun b=>b<w) w tv s.tables:=hT.mono (fun b hb _=>hb)
 have hl:Sl Y7 (fun b=>b<w) w lv l:=hl0.mono (fun b hb _=>hb)
 obtain ⟨up,uc,rfl,_⟩:=hu.len
 obtain ⟨tp,tc,rfl,iV⟩:=ht.len
 obtain ⟨lp,lc,rfl,_⟩:=hl.len
 obtain ⟨HT,HL,gK⟩:=Qqo ht hl hcon
 clear hV hT hl0 hu ht hl hcon
 obtain ⟨nb,fP⟩:=eX (Uy s l)
 rw [fP] at hN
 have bR:=Qq fP
 clear fP
 cases nb with
 | false=>
  go_enter func9,ntmps9
  go_wp2_with fail
  refine (hN.out _ (Xm _ _ _ _)).mono ?_
  rintro e w1 ⟨rfl,aI⟩
  have A:=Qq ((aI.block (w+2) Qqk).trans (Zi w _ _ _))
  have aD:=Qq ((Xm w _ _ _).thn aI)
  have rz:=fun j=>Qn _ _ j _ _ A.out
  have rr:=fun j=>Qk _ _ j _ _ _ A.out
  obtain ⟨eA,eB,eC,eD,eE,eF,eG,eH,eI,eJ,bE,bF⟩:=Qzz rz
  obtain ⟨aM,aN,aO,aP,aQ,aR,aS,aT,aU,aV,I,J⟩:=Qzz rr
  simp only [Qf,Qg,Qh] at aM aN aO aP aQ aR aS aT aU aV I J
  clear rz rr aI
  go_wp2_with fail
  show bodyPost _ _ _ _ _ (Yb w1 (w+1+1) (.int .i64 1) Qqe Qqd Qqd Qqe Qqf Qqf Qqd Qqd Qqe Qqf Qqf)
  refine Q7 (v:=.agg #[.int .i64 1,Qqe,Qqd,Qqd,Qqe,Qqf,Qqf,Qqd,Qqd,Qqe,Qqf,Qqf]) (by simp [results,results9,go_sem,Ya A.out]) rfl ⟨⟨1,[],Val.zero,Val.zero⟩,fun h=>absurd bR.out (by rw [h];decide),fun _=>rfl,[.int .i64 1,Qqe,Qqd,Qqd,Qqe,Qqf,Qqf,Qqd,Qqd,Qqe,Qqf,Qqf],rfl,⟨_,_,rfl,Qqk,Yw _ _,Yw _ _⟩,Yy aD.out Qqj⟩
 | true=>
  go_enter func9,ntmps9
  go_wp2_with (go_at_call 24;refine (hN.out _ (Xm _ _ _ _)).mono ?_;rintro e w1 ⟨rfl,aI⟩)
  generalize fM:w1.alloc _=W3
  have cH:=eqB fM (Zg _ _)
  have fK:=eqH (b:=w1.heap.size) fM (Qw _ _)
  have jC:w.heap.size+3≤w1.heap.size:=by have:=aI.size;simp at this;omega
  have gY:=(aI.block w (by simp;omega)).trans (Zp w _ _ _)
  have hD:=(aI.block (w+1) Qqk).trans (Zo w _ _ _)
  have hH:=(aI.block (w+2) Qqk).trans (Zi w _ _ _)
  have gH:=Qq (cH.block w Qqj |>.trans gY)
  have gI:=Qq (cH.block (w+1) Qqj |>.trans hD)
  have bT:=Qq (cH.block (w+2) Qqj |>.trans hH)
  have iD:=Qq fK
  have aY:=Qq (((Xm w _ _ _).thn aI).thn cH)
  have hS:w1.heap.size<W3.heap.size:=Z8 fK
  clear fM cH fK aI gY hD hH
  have hQ:l.length=s.tables.length:=by
   refine Decidable.byContradiction fun h=>?_
   have O:=bR.out
   unfold Uy at O
   rw [Ji _ _ _ (fun e=>h e.symm)] at O
   cases O
  have fD:=Qq hQ
  clear hQ
  obtain ⟨n,hn⟩:=eX (s.tables.length)
  rw [hn] at iV
  rw [hn] at fD
  rw [hn] at HT
  rw [hn]
  have HN:=Qq hn
  clear hn
  have mixed:(prog).follows .mixedOrders=true:=Qqy
  go_loopw [21] (fun i wr=>∃ c:Nat,c≤5∧i=.int .i64 c∧Below W3 W3 wr∧Aside (∀ c' i',c'<c→i'<n→(cf c' i').code=0)) (fun i _=>5 - (intOf i).toNat)
  case atStart=>exact ⟨0,Q8 _,rfl,Qz _ _,fun _ _ h=>absurd h (Z6 _)⟩
  obtain ⟨c,jJ,rfl,hB,hI⟩:=hrel
  generalize h6:wr=w6 at *
  have bP:=Qq hB;have HI:=Qq hI.out
  clear hB hI
  by_cases hlt:c<5
  ·have jK:(0:Int)≤(c:Int):=Qqj
   have jL:(c:Int)<5:=Qqj
   have hF:=kE bP.out hS iD.out
   have fL:w6.cell? ⟨w1,c,none⟩=some (.func (.func (Fv c)) #[] (Da w (w+1) c)):=by
    rw [Qk _ _ _ _ _ _ hF]
    match c,hlt with
    | 0,_=>rfl
    | 1,_=>rfl
    | 2,_=>rfl
    | 3,_=>rfl
    | 4,_=>rfl
   have iP:∀ args w,(callFunc (Fv c) args).run prog w=.ok (.enter (Fv c) args) w:=by
    match c,hlt with
    | 0,_=>exact enters_of func25 Qqy rfl
    | 1,_=>exact enters_of func26 Qqy rfl
    | 2,_=>exact enters_of func31 Qqy rfl
    | 3,_=>exact enters_of func33 Qqy rfl
    | 4,_=>exact enters_of func35 Qqy rfl
   have fJ:=gK.out c hlt
   generalize Fv c=g at fL iP fJ
   have gJ:=Qq (fun i t r h1 O W ct rv=>fJ i t r h1 O (fun c' i' h3 h4=>HI.out c' i' h3 (by rw [← HN.out];exact h4)) w (w+1) W ct rv)
   generalize Da w (w+1) c=lb9 at fL gJ
   have gZ:=kB bP.out gH.out
   have b1:=rA1 gZ
   rw [HN.out] at b1
   clear hF fJ gZ
   go_wp2_with fail
   go_loopw [28] (fun i wr=>∃ k:Nat,k≤n∧i=.int .i64 k∧Below W3 W3 wr∧Aside (∀ i',i'<k→(cf c i').code=0)) (fun i _=>n - (intOf i).toNat)
   case atStart=>exact ⟨0,Q8 _,rfl,bP.out,fun _ h=>absurd h (Z6 _)⟩
   obtain ⟨i,jN,rfl,hC,hJ⟩:=hrel
   have aE:=Qq hC;have HJ:=Qq hJ.out
   clear hC hJ b1 fL
   by_cases hli:i<n
   ·have jM:(0:Int)≤(i:Int):=Qqj
    have hM:(i:Int)<(n:Int):=Qqj
    obtain ⟨t,ht⟩:∃ t,s.tables[i]?=some t:=⟨_,Qx (by rw [HN.out];exact hli)⟩
    obtain ⟨r,hr⟩:∃ r,l[i]?=some r:=⟨_,Qx (by rw [fD.out];exact hli)⟩
    have eO:=Qq (aY.out.trans (aE.out.mono aY.out.size))
    obtain ⟨tb,jD,ct,rfl,iU,_,fT,fS,G⟩:=(HT.out.below eO.out).elem ht
    obtain ⟨lb,eW,cl,rfl,hO,_,fO,iR,hP⟩:=(HL.out.below eO.out).elem hr
    obtain ⟨cC,cB,cT,cS,dX,dW,k9,eK,n9,eL,dJ,cU,bY,dK,cV,bZ,dL,cW,cA,a9,z9,cM,hU,_⟩:=Yj fS
    simp only [tcs] at cM
    subst cM
    obtain ⟨rv,rfl,_,fQ⟩:=iR
    obtain ⟨rp,rc,rfl,_⟩:=fQ.len
    have l1:=hP 1 _ rfl
    have d0:=G 0 _ rfl
    have d1:=G 1 _ rfl
    have d2:=G 2 _ rfl
    have d3:=G 3 _ rfl
    have d4:=G 4 _ rfl
    have d5:=G 5 _ rfl
    have d6:=G 6 _ rfl
    have d7:=G 7 _ rfl
    have d8:=G 8 _ rfl
    have d9:=G 9 _ rfl
    have gR:=G 10 _ rfl
    have gS:=G 11 _ rfl
    have gT:=G 12 _ rfl
    simp only [show Zn.k=13 from rfl,show Y7.k=2 from rfl,Nat.add_zero] at l1 d0 d1 d2 d3 d4 d5 d6 d7 d8 d9 gR gS gT
    have hE:=kB aE.out gI.out
    have c0:=rA0 hE
    have jB:(i:Int)<(l.length:Int):=by rw [fD.out];exact hM
    obtain ⟨iH,iF,fG,iE⟩:=Qqp fS fQ ht hr
    clear fS fQ ht hr G hP hE fT fO
    go_upto_region 10 with fail
    obtain ⟨M,cG⟩:=eX (wr.alloc (.cells (Qqh t cC cB cT cS dX dW k9 eK n9 eL dJ cU bY dK cV bZ dL cW cA a9 z9) 48))
    rw [cG]
    have bI:=eqB cG (Zg _ _)
    have fN:=eqH (b:=wr.heap.size) cG (Qw _ _)
    have eV:M=wr.heap.size+1:=by rw [← cG];simp
    have eT:w.heap.size+1<wr.heap.size:=Qv wr _ c0
    have aX:=Qq (show w+2≤wr.heap.size from by have:=Z8 bT.out;have:=aE.out.size;omega)
    have hA:w.heap.size+2≤wr.heap.size:=by have:=Z8 bT.out;have:=aE.out.size;omega
    have cP:lb<wr.heap.size:=hO
    refine let_mvar% ?Lq1:=fun w':World=>(Qzb w' wr t.name (.slice cC t.columns.length cB) (.slice cT t.key.length cS) (.slice dX t.refs.length dW) k9 (.string eK) n9 (.string eL) (.slice dJ cU bY) (.slice dK cV bZ) (.slice dL cW cA) a9 z9 (Qqa w' (w+1) 0 (Qqb lb eW l.length lc)∧Qqa w' lb (eW+i*2+1) (.slice rp r.rows.length rc)∧Below M M w'):Prop);?_
    have HS:∀ w',Below M M w'→?Lq1 w':=by
     intro w' h
     have hx:∀ {j:Nat} {u:Value},#[.string ⟨t.name.toArray⟩,.slice cC t.columns.length cB,.slice cT t.key.length cS,.slice dX t.refs.length dW,.int .i64 k9,.string eK,.int .i64 n9,.string eL,.slice dJ cU bY,.slice dK cV bZ,.slice dL cW cA,.int .i64 a9,.int .i64 z9][j]?=some u→w'.cell? ⟨wr,j,none⟩=some u:=fun {j u} hu=>by
      rw [h.cell (p:=⟨wr,j,none⟩) (by show wr<M.heap.size;omega),Qk _ _ j _ _ _ fN];exact hu
     have hh:∀ {b j:Nat} {u:Value},b<wr→wr.cell? ⟨b,j,none⟩=some u→w'.cell? ⟨b,j,none⟩=some u:=fun {b j u} hlt hc=>kD (bI.thn h) hlt hc
     exact ⟨hx rfl,hx rfl,hx rfl,hx rfl,hx rfl,hx rfl,hx rfl,hx rfl,hx rfl,hx rfl,hx rfl,hx rfl,hx rfl,hh eT c0,hh cP l1,h⟩
    have N:∀ w',?Lq1 w'→Below M M w':=fun w' h=>h.2.2.2.2.2.2.2.2.2.2.2.2.2.2.2
    have fH:∀ w' eR,?Lq1 w'→Below w' w' eR→?Lq1 eR:=fun w' eR h O=>HS eR ((N w' h).thn O)
    have gG:∀ w' o,?Lq1 w'→?Lq1 (w'.alloc o):=fun w' o h=>fH w' _ h (Zg _ _)
    have fF:∀ w' g0 g1 g2 g3 g4 g5 g6 g7 g8 g9 gU gV,?Lq1 w'→?Lq1 (Yb w' M g0 g1 g2 g3 g4 g5 g6 g7 g8 g9 gU gV):=fun w' g0 g1 g2 g3 g4 g5 g6 g7 g8 g9 gU gV h=>HS _ (Yy (N w' h) (Q9 _))
    unfold Yb at fF
    have cK:Below w w M:=eO.out.trans (bI.mono eO.out.size)
    have bQ:∀ W',?Lq1 W'→Calls prog g (#[.agg (Qqh t cC cB cT cS dX dW k9 eK n9 eL dJ cU bY dK cV bZ dL cW cA a9 z9),.slice rp r.rows.length rc]++lb9) W' fun e w2=>∃ Z T p4 U q3 V q4 Y,e=.returned (.agg #[.int .i64 (cf c i).code,.string ⟨(cf c i).table.toArray⟩,.int .i64 (cf c i).row.kind,.int .i64 (cf c i).row.n,.string ⟨(cf c i).row.s.toArray⟩,.slice Z (cf c i).row.names.length T,.slice p4 (cf c i).row.kids.length U,.int .i64 (cf c i).other.kind,.int .i64 (cf c i).other.n,.string ⟨(cf c i).other.s.toArray⟩,.slice q3 (cf c i).other.names.length V,.slice q4 (cf c i).other.kids.length Y])∧Fj (fun b=>b<w) w2 [.int .i64 (cf c i).code,.string ⟨(cf c i).table.toArray⟩,.int .i64 (cf c i).row.kind,.int .i64 (cf c i).row.n,.string ⟨(cf c i).row.s.toArray⟩,.slice Z (cf c i).row.names.length T,.slice p4 (cf c i).row.kids.length U,.int .i64 (cf c i).other.kind,.int .i64 (cf c i).other.n,.string ⟨(cf c i).other.s.toArray⟩,.slice q3 (cf c i).other.names.length V,.slice q4 (cf c i).other.kids.length Y] (cf c i)∧?Lq1 w2∧Below W' W' w2:=by
     intro W' h'
     have iN:=cK.trans ((N W' h').mono cK.size)
     have hK:=aE.out.trans (((bI.thn (N W' h'))).mono aE.out.size)
     refine (gJ.out i t r fG.out iE.out W' (Qqh t cC cB cT cS dX dW k9 eK n9 eL dJ cU bY dK cV bZ dL cW cA a9 z9) (.slice rp r.rows.length rc) iN ?_ ?_ ?_ ?_).mono ?_
     ·exact kB hK gH.out
     ·have:=kB hK gI.out
      rw [Qk _ _ _ _ _ _ this];rfl
     ·exact Zn.frame iH.out (.of_below (bI.thn (N W' h')))
     ·exact iF.out.below (bI.thn (N W' h'))
     rintro e w2 ⟨jF,rfl,bK,bH⟩
     obtain ⟨Z,T,p4,U,q3,V,q4,Y,cM,_⟩:=Vc bK
     simp only [fcs] at cM
     subst cM
     exact ⟨Z,T,p4,U,q3,V,q4,Y,rfl,bK,fH _ _ h' bH,bH⟩
    obtain ⟨fC,aW,bO,eP⟩:=Qqp (HS M.drew (Qz _ _).drew) N gG bQ
    have bS:=Qq fF;have fB:=Qq (fun o=>HS (M.alloc o).drew (Zg _ _).drew)
    have D:=Qq eV
    have gP:=Qq fN;have bL:=Qq (aE.out.trans (bI.mono aE.out.size))
    clear HS fF N fH gG bQ cK fN bI cG l1 c0 d0 d1 d2 d3 d4 d5 d6 d7 d8 d9 gR gS gT eT cP iU hO eV hA
    generalize hL:cf c i=f at eP
    have bM:=Qq hL;have gO:=Qq hU
    clear hL hU
    go_region_held3 ?Lq1 (first | with_reducible exact fC.out | with_reducible exact aZ | with_reducible exact fB.out _ | with_reducible exact bO.out _ _ aZ | with_reducible exact bS.out _ _ _ _ _ _ _ _ _ _ _ _ _ aZ)
     (first
      | (go_at_fn g;refine (eP.out _ Qqw).mono ?_;rintro e w2 ⟨Z,T,p4,U,q3,V,q4,Y,rfl,bK,aZ,bH⟩;try (have r2:=Mx bH;obtain ⟨f0,f1,f2,f3,f4,f5,f6,f7,f8,f9,jG,jH⟩:=frz12 r2;obtain ⟨y0,y1,y2,y3,y4,y5,y6,y7,y8,y9,jO,jP⟩:=row12 r2;have jE:=Qq r2;clear r2)))
    ·obtain ⟨W6,aG⟩:=eX (w2.alloc (.cells (Qql f.code f.table f.row Z T p4 U f.other q3 V q4 Y) 38))
     have bG:=eqH (b:=w2.heap.size) aG (Qw _ _)
     have eU:=eqB aG (Zg _ _)
     have bJ:Below M M W6:=(aW.out _ aZ).thn eU
     have cN:Fj (fun b=>b<w) W6 (Qql f.code f.table f.row Z T p4 U f.other q3 V q4 Y) f:=bK.move (.of_below eU) Qzx
     have cD:M.heap.size≤w2.heap.size:=(aW.out _ aZ).size
     rw [aG]
     obtain ⟨aD,eZ,bU,aJ⟩:=Qqp (bL.out.trans (bJ.mono bL.out.size)) cN bG cD
     have cF:=kB bJ gP.out
     have t0:=rA0 cF
     have n0:=rA0 bG
     have iG:=Qq t0
     have A:=Qq (kB aD.out bT.out)
     clear aG bG bJ cN cD cF bK aZ bH fC fB aW bO bS eP
     by_cases hz:f.code=0
     ·have hq:(f.code != 0)=false:=by rw [hz];rfl
      clear t0
      go_wp2_with fail
      go_roundw
      case measure=>simp [intOf];omega
      case rel=>
       refine ⟨i+1,Qqj,by go_num,aD.out,(show Aside _ from fun i' eQ=>?_)⟩
       by_cases e:i'=i
       ·subst e
        rw [bM.out]
        exact hz
       exact HJ.out i' Qqj
     have hq:(f.code != 0)=true:=by simpa using hz
     have HZ:=Qq hz
     clear hz
     have nz:=fun j=>Qn _ _ j _ _ bU.out
     have nr:=fun j=>Qk _ _ j _ _ _ bU.out
     have rz:=fun j=>Qn _ _ j _ _ A.out
     have rr:=fun j=>Qk _ _ j _ _ _ A.out
     obtain ⟨fU,fV,fW,fX,fY,fZ,gA,gB,gC,gD,dH,dI⟩:=Qzz nz
     obtain ⟨cX,cY,cZ,dA,dB,dC,dD,dE,dF,dG,bA,bB⟩:=Qzz nr
     obtain ⟨eA,eB,eC,eD,eE,eF,eG,eH,eI,eJ,bE,bF⟩:=Qzz rz
     obtain ⟨aM,aN,aO,aP,aQ,aR,aS,aT,aU,aV,I,J⟩:=Qzz rr
     simp only [Qf,Qg,Qh] at cX cY cZ dA dB dC dD dE dF dG bA bB aM aN aO aP aQ aR aS aT aU aV I J
     have cQ:w2≠w.heap.size+1+1:=by have:=aX.out;have:=D.out;have:=aJ.out;omega
     have cR:w.heap.size+1+1≠w2.heap.size:=fun e=>cQ e.symm
     have hR:w2.heap.size≠wr.heap.size:=Qqz D.out aJ.out
     clear nz nr rz rr n0
     go_wp2_with fail
     obtain ⟨V7,aF⟩:=eX (W6.setCell ⟨w2,1,none⟩ (.string ⟨t.name.toArray⟩))
     rw [aF]
     have cE:V7.heap[w.heap.size+1+1]?=some (.cells zF 38 (0,0)):=by rw [← aF,Za cR];exact A.out
     have fE:=Qq (fun b (hb:b<w.heap.size)=>show V7.heap[b]?=W6.heap[b]? by rw [← aF];exact Za (by show b≠w2;have:=aX.out;have:=D.out;have:=aJ.out;omega))
     have cI:Below W3 W3 V7:=by rw [← aF];exact aD.out.setCell (p:=⟨w2,1,none⟩) (by show W3≤w2.heap.size;have:=aE.out.size;have:=D.out;have:=aJ.out;omega) _
     have eY:=Qq (aY.out.trans (cI.mono aY.out.size))
     show bodyPost _ _ _ _ _ (Yb V7 (w+1+1) f.code t.name f.row.kind f.row.n f.row.s (.slice Z f.row.names.length T) (.slice p4 f.row.kids.length U) f.other.kind f.other.n f.other.s (.slice q3 f.other.names.length V) (.slice q4 f.other.kids.length Y))
     have q:=fun j=>Ya (a0:=.int .i64 f.code) (a1:=.string ⟨t.name.toArray⟩) (a2:=.int .i64 f.row.kind) (a3:=.int .i64 f.row.n) (a4:=.string ⟨f.row.s.toArray⟩) (a5:=.slice Z f.row.names.length T) (a6:=.slice p4 f.row.kids.length U) (a7:=.int .i64 f.other.kind) (a8:=.int .i64 f.other.n) (a9:=.string ⟨f.other.s.toArray⟩) (a10:=.slice q3 f.other.names.length V) (a11:=.slice q4 f.other.kids.length Y) cE j
     generalize aK:Yb V7 (w+1+1) f.code t.name f.row.kind f.row.n f.row.s (.slice Z f.row.names.length T) (.slice p4 f.row.kids.length U) f.other.kind f.other.n f.other.s (.slice q3 f.other.names.length V) (.slice q4 f.other.kids.length Y)=W9 at q
     have cJ:Below w w W9:=by rw [← aK];exact Yy eY.out Qqj
     have cO:Fj (fun b=>b<w) W9 (Qql f.code f.table f.row Z T p4 U f.other q3 V q4 Y) f:=eZ.out.move (fun b hb _=>by rw [← aK,Xq (by have:b<w.heap.size:=hb;omega)];exact fE.out b hb) Qzx
     obtain ⟨dM,dN,dO,dP,dQ,dR,dS,dT,dU,dV,bC,bD⟩:=Qzz q
     simp only [Qf,Qg,Qh] at dM dN dO dP dQ dR dS dT dU dV bC bD
     have N:=Qq cJ;have fA:=Qq cO
     try rw [aK]
     clear q cJ cO aK aF cE cI fU cX eA aM fV cY eB aN fW cZ eC aO fX dA eD aP fY dB eE aQ fZ dC eF aR gA dD eG aS gB dE eH aT gC dF eI aU gD dG eJ aV dH bA bE I dI bB bF J
     refine Q7 (v:=.agg (Qql f.code t.name f.row Z T p4 U f.other q3 V q4 Y)) (by simp [results,results9,go_sem,dM,dN,dO,dP,dQ,dR,dS,dT,dU,dV,bC,bD]) rfl ⟨⟨f.code,t.name,f.row,f.other⟩,fun _=>.inr ⟨c,i,hlt,by rw [HN.out];exact hli,by rw [bM.out];exact HZ.out,?_,?_⟩,fun h=>absurd bR.out (by rw [h];decide),Qql f.code t.name f.row Z T p4 U f.other q3 V q4 Y,rfl,?_,N.out⟩
     ·show (⟨_,_,_,_⟩:Ft)=⟨(cf c i).code,((s.tables[i]?).getD Tbl.zero).name,(cf c i).row,(cf c i).other⟩
      rw [bM.out,fG.out];rfl
     ·intro c' i' h1 O
      rcases O with O | ⟨rfl,O⟩
      ·exact HI.out c' i' O (by rw [← HN.out];exact h1)
      exact HJ.out i' O
     obtain ⟨c1,c2,aL,_,O,h3⟩:=fA.out
     have cL:c1=[.int .i64 f.row.kind,.int .i64 f.row.n,.string ⟨f.row.s.toArray⟩,.slice Z f.row.names.length T,.slice p4 f.row.kids.length U]∧c2=[.int .i64 f.other.kind,.int .i64 f.other.n,.string ⟨f.other.s.toArray⟩,.slice q3 f.other.names.length V,.slice q4 f.other.kids.length Y]:=by
      have e1:=O.length;have e2:=h3.length
      match c1,e1,c2,e2,aL with
      | [_,_,_,_,_],_,[_,_,_,_,_],_,aL=>
       simp only [List.cons_append,List.nil_append,List.cons.injEq] at aL
       obtain ⟨-,-,rfl,rfl,rfl,rfl,rfl,rfl,rfl,rfl,rfl,rfl,-⟩:=aL
       exact ⟨rfl,rfl⟩
     exact ⟨_,_,rfl,gO.out,cL.1 ▸ O,cL.2 ▸ h3⟩
    obtain ⟨W6,aG⟩:=eX (Yb w2 M f.code f.table f.row.kind f.row.n f.row.s (.slice Z f.row.names.length T) (.slice p4 f.row.kids.length U) f.other.kind f.other.n f.other.s (.slice q3 f.other.names.length V) (.slice q4 f.other.kids.length Y))
    have bG:W6.heap[M.heap.size]?=some (.cells (Qql f.code f.table f.row Z T p4 U f.other q3 V q4 Y) 38 (0,0)):=by rw [← aG];exact Ef (Mx bH)
    have bJ:Below M M W6:=by rw [← aG];exact Yy (aW.out _ aZ) (Q9 _)
    have cN:Fj (fun b=>b<w) W6 (Qql f.code f.table f.row Z T p4 U f.other q3 V q4 Y) f:=bK.move (fun b hb _=>by rw [← aG];exact Xq (Qqz aX.out D.out)) Qzx
    have cD:M.heap.size≤M.heap.size:=Q9 _
    unfold Yb at aG
    rw [aG]
    obtain ⟨aD,eZ,bU,aJ⟩:=Qqp (bL.out.trans (bJ.mono bL.out.size)) cN bG cD
    have cF:=kB bJ gP.out
    have t0:=rA0 cF
    have n0:=rA0 bG
    have iG:=Qq t0
    have A:=Qq (kB aD.out bT.out)
    clear aG bG bJ cN cD cF bK aZ bH fC fB aW bO bS eP
    by_cases hz:f.code=0
    ·have hq:(f.code != 0)=false:=by rw [hz];rfl
     clear t0
     go_wp2_with fail
     go_roundw
     case measure=>simp [intOf];omega
     case rel=>
      refine ⟨i+1,Qqj,by go_num,aD.out,(show Aside _ from fun i' eQ=>?_)⟩
      by_cases e:i'=i
      ·subst e
       rw [bM.out]
       exact hz
      exact HJ.out i' Qqj
    have hq:(f.code != 0)=true:=by simpa using hz
    have HZ:=Qq hz
    clear hz
    have nz:=fun j=>Qn _ _ j _ _ bU.out
    have nr:=fun j=>Qk _ _ j _ _ _ bU.out
    have rz:=fun j=>Qn _ _ j _ _ A.out
    have rr:=fun j=>Qk _ _ j _ _ _ A.out
    obtain ⟨fU,fV,fW,fX,fY,fZ,gA,gB,gC,gD,dH,dI⟩:=Qzz nz
    obtain ⟨cX,cY,cZ,dA,dB,dC,dD,dE,dF,dG,bA,bB⟩:=Qzz nr
    obtain ⟨eA,eB,eC,eD,eE,eF,eG,eH,eI,eJ,bE,bF⟩:=Qzz rz
    obtain ⟨aM,aN,aO,aP,aQ,aR,aS,aT,aU,aV,I,J⟩:=Qzz rr
    simp only [Qf,Qg,Qh] at cX cY cZ dA dB dC dD dE dF dG bA bB aM aN aO aP aQ aR aS aT aU aV I J
    have cQ:M≠w.heap.size+1+1:=by have:=aX.out;have:=D.out;have:=aJ.out;omega
    have cR:w.heap.size+1+1≠M.heap.size:=fun e=>cQ e.symm
    have hR:M.heap.size≠wr.heap.size:=Qqz D.out aJ.out
    clear nz nr rz rr n0
    go_wp2_with fail
    obtain ⟨V7,aF⟩:=eX (W6.setCell ⟨M,1,none⟩ (.string ⟨t.name.toArray⟩))
    rw [aF]
    have cE:V7.heap[w.heap.size+1+1]?=some (.cells zF 38 (0,0)):=by rw [← aF,Za cR];exact A.out
    have fE:=Qq (fun b (hb:b<w.heap.size)=>show V7.heap[b]?=W6.heap[b]? by rw [← aF];exact Za (by show b≠M;have:=aX.out;have:=D.out;have:=aJ.out;omega))
    have cI:Below W3 W3 V7:=by rw [← aF];exact aD.out.setCell (p:=⟨M,1,none⟩) (by show W3≤M.heap.size;have:=aE.out.size;have:=D.out;have:=aJ.out;omega) _
    have eY:=Qq (aY.out.trans (cI.mono aY.out.size))
    show bodyPost _ _ _ _ _ (Yb V7 (w+1+1) f.code t.name f.row.kind f.row.n f.row.s (.slice Z f.row.names.length T) (.slice p4 f.row.kids.length U) f.other.kind f.other.n f.other.s (.slice q3 f.other.names.length V) (.slice q4 f.other.kids.length Y))
    have q:=fun j=>Ya (a0:=.int .i64 f.code) (a1:=.string ⟨t.name.toArray⟩) (a2:=.int .i64 f.row.kind) (a3:=.int .i64 f.row.n) (a4:=.string ⟨f.row.s.toArray⟩) (a5:=.slice Z f.row.names.length T) (a6:=.slice p4 f.row.kids.length U) (a7:=.int .i64 f.other.kind) (a8:=.int .i64 f.other.n) (a9:=.string ⟨f.other.s.toArray⟩) (a10:=.slice q3 f.other.names.length V) (a11:=.slice q4 f.other.kids.length Y) cE j
    generalize aK:Yb V7 (w+1+1) f.code t.name f.row.kind f.row.n f.row.s (.slice Z f.row.names.length T) (.slice p4 f.row.kids.length U) f.other.kind f.other.n f.other.s (.slice q3 f.other.names.length V) (.slice q4 f.other.kids.length Y)=W9 at q
    have cJ:Below w w W9:=by rw [← aK];exact Yy eY.out Qqj
    have cO:Fj (fun b=>b<w) W9 (Qql f.code f.table f.row Z T p4 U f.other q3 V q4 Y) f:=eZ.out.move (fun b hb _=>by rw [← aK,Xq (by have:b<w.heap.size:=hb;omega)];exact fE.out b hb) Qzx
    obtain ⟨dM,dN,dO,dP,dQ,dR,dS,dT,dU,dV,bC,bD⟩:=Qzz q
    simp only [Qf,Qg,Qh] at dM dN dO dP dQ dR dS dT dU dV bC bD
    have N:=Qq cJ;have fA:=Qq cO
    try rw [aK]
    clear q cJ cO aK aF cE cI fU cX eA aM fV cY eB aN fW cZ eC aO fX dA eD aP fY dB eE aQ fZ dC eF aR gA dD eG aS gB dE eH aT gC dF eI aU gD dG eJ aV dH bA bE I dI bB bF J
    refine Q7 (v:=.agg (Qql f.code t.name f.row Z T p4 U f.other q3 V q4 Y)) (by simp [results,results9,go_sem,dM,dN,dO,dP,dQ,dR,dS,dT,dU,dV,bC,bD]) rfl ⟨⟨f.code,t.name,f.row,f.other⟩,fun _=>.inr ⟨c,i,hlt,by rw [HN.out];exact hli,by rw [bM.out];exact HZ.out,?_,?_⟩,fun h=>absurd bR.out (by rw [h];decide),Qql f.code t.name f.row Z T p4 U f.other q3 V q4 Y,rfl,?_,N.out⟩
    ·show (⟨_,_,_,_⟩:Ft)=⟨(cf c i).code,((s.tables[i]?).getD Tbl.zero).name,(cf c i).row,(cf c i).other⟩
     rw [bM.out,fG.out];rfl
    ·intro c' i' h1 O
     rcases O with O | ⟨rfl,O⟩
     ·exact HI.out c' i' O (by rw [← HN.out];exact h1)
     exact HJ.out i' O
    obtain ⟨c1,c2,aL,_,O,h3⟩:=fA.out
    have cL:c1=[.int .i64 f.row.kind,.int .i64 f.row.n,.string ⟨f.row.s.toArray⟩,.slice Z f.row.names.length T,.slice p4 f.row.kids.length U]∧c2=[.int .i64 f.other.kind,.int .i64 f.other.n,.string ⟨f.other.s.toArray⟩,.slice q3 f.other.names.length V,.slice q4 f.other.kids.length Y]:=by
     have e1:=O.length;have e2:=h3.length
     match c1,e1,c2,e2,aL with
     | [_,_,_,_,_],_,[_,_,_,_,_],_,aL=>
      simp only [List.cons_append,List.nil_append,List.cons.injEq] at aL
      obtain ⟨-,-,rfl,rfl,rfl,rfl,rfl,rfl,rfl,rfl,rfl,rfl,-⟩:=aL
      exact ⟨rfl,rfl⟩
    exact ⟨_,_,rfl,gO.out,cL.1 ▸ O,cL.2 ▸ h3⟩
   obtain rfl:i=n:=Qqj
   have hM:¬ (i:Int)<(i:Int):=Qqj
   go_wp2_with fail
   go_roundw
   case measure=>simp [intOf];omega
   case rel=>
    refine ⟨c+1,Qqj,by go_num,aE.out,(show Aside _ from fun c' i' jI eQ=>?_)⟩
    by_cases e:c'=c
    ·subst e;exact HJ.out i' eQ
    exact HI.out c' i' Qqj eQ
  obtain rfl:c=5:=Qqj
  have A:=Qq (kB bP.out bT.out)
  have aD:=Qq (aY.out.trans (bP.out.mono aY.out.size))
  have rz:=fun j=>Qn _ _ j _ _ A.out
  have rr:=fun j=>Qk _ _ j _ _ _ A.out
  obtain ⟨eA,eB,eC,eD,eE,eF,eG,eH,eI,eJ,bE,bF⟩:=Qzz rz
  obtain ⟨aM,aN,aO,aP,aQ,aR,aS,aT,aU,aV,I,J⟩:=Qzz rr
  simp only [Qf,Qg,Qh] at aM aN aO aP aQ aR aS aT aU aV I J
  clear rz rr
  go_wp2_with fail
  show bodyPost _ _ _ _ _ (Yb w6 (w+1+1) Qqd Qqe Qqd Qqd Qqe Qqf Qqf Qqd Qqd Qqe Qqf Qqf)
  refine Q7 (v:=.agg zF) (by simp [results,results9,go_sem,Ya A.out]) rfl ⟨Ft.zero,fun _=>.inl ⟨rfl,fun c i hc hi=>HI.out c i hc (by rw [← HN.out];exact hi)⟩,fun h=>absurd bR.out (by rw [h];decide),[Qqd,Qqe,Qqd,Qqd,Qqe,Qqf,Qqf,Qqd,Qqd,Qqe,Qqf,Qqf],rfl,Kk _ _,Yy aD.out Qqj⟩
def P7 (w:World) (l:List Rel) (e:Ending) (w':World):Prop:=∃ p cap rvs,e=.returned (.slice p l.length cap)∧U3 w w' (.slice p l.length cap) l rvs∧Below w w w'
structure Gm (w:World) (g n cap:Nat) (l:List Rel) (css0:List (List Value)) (k:Nat) (rvs:List Value) (wx:World):Prop where
 below:Below w w wx
 len:rvs.length=k
 row:wx.ownsRow w 70 2 (.slice (some ⟨g,0,none⟩) n cap) n (Yc (l.take k) rvs++css0.drop k).flatten
 rows:∀ (i:Nat) (r:Rel) (rv:Value),i<k→l[i]?=some r→rvs[i]?=some rv→∃ css,Own Ze 36 (fun b=>b<w) w wx rv r.rows css
 apart:∀ (i j:Nat) (a b:Value) (h:Nat),rvs[i]?=some a→rvs[j]?=some b→a.ownBlock=some h→b.ownBlock=some h→i=j
theorem Gm.next {w wr w4:World} {g n cap:Nat} {l:List Rel} {css0:List (List Value)} {k:Nat} {rvs:List Value} {r:Rel} {rv0 rv':Value} {css:List (List Value)} (hM:Gm w g n cap l css0 k rvs wr) (hn:l.length=n) (hc0:css0.length=n) (hc2:∀ c ∈ css0,c.length=2)
  (hr:l[k]?=some r) (hc:css0[k]?=some [sv r.table,rv0]) (hb:Below wr wr w4) (ho:Own Ze 36 (fun b=>b<w) wr w4 rv' r.rows css):
  Gm w g n cap l css0 (k+1) (rvs++[rv']) (w4.setCell ⟨g,k*2+1,none⟩ rv'):=by
 subst hn
 have hk:=(Qj hr).1
 have hg:=hM.row.lt g rfl
 have aH:=hM.below.size
 have I:(l.take k).length=k:=by rw [Qm];omega
 have V:(Yc (l.take k) rvs).length=k:=by rw [Un (by rw [I];exact hM.len),I]
 have T:∀ c ∈ Yc (l.take k) rvs++css0.drop k,c.length=2:=by
  intro c aE
  rcases Z4.1 aE with h | h
  ·exact Jm c h
  exact hc2 c (Zw h)
 have aD:(Yc (l.take k) rvs++css0.drop k)[k]?=some [sv r.table,rv0]:=by
  rw [Zx Qqj,V,Nat.sub_self,List.getElem?_drop,Nat.add_zero];exact hc
 have U:(Yc (l.take k) rvs++css0.drop k).set k [sv r.table,rv']=Yc (l.take (k+1)) (rvs++[rv'])++css0.drop (k+1):=by
  have hd:css0.drop k=css0[k]'Qqj::css0.drop (k+1):=Qp Qqj
  have hs:Yc (l.take (k+1)) (rvs++[rv'])=Yc (l.take k) rvs++[[sv r.table,rv']]:=by
   unfold Yc
   rw [Zz hk,List.zipWith_append (by rw [I,hM.len])]
   rw [Qx hk] at hr
   rw [Qb hr];rfl
  rw [hd,List.set_append_right _ _ Qqj,V,Nat.sub_self,List.set_cons_zero,hs,List.append_assoc];rfl
 have aF:∀ h,rv'.ownBlock=some h→h≠g:=fun h e=>by have:=(ho.row.lt h e).1;omega
 refine ⟨(hM.below.thn hb).setCell (p:=⟨g,k*2+1,none⟩) hg.1 _,by rw [Ql,hM.len];rfl,?_,?_,?_⟩
 ·rw [← U,← Lo _ k _ rv0 rv' T aD]
  exact ((Vw hM.row (Q9 _) (fun b _ I=>hb.block b I)).stored (k*2+1) rv').1
 ·intro i x u O Z Y
  by_cases e:i=k
  ·subst e
   rw [Zx (by rw [hM.len];exact Q9 _),hM.len,Nat.sub_self] at Y
   simp at Y;subst Y
   rw [hr] at Z;cases Z
   refine ⟨css,ho.move Qqj (fun b A h=>Za (fun e=>?_))⟩
   have e':b=g:=e
   rcases h with h | h
   ·have h':b<w.heap.size:=h;omega
   exact aF b h e'
  rw [List.getElem?_append_left (by rw [hM.len];omega)] at Y
  obtain ⟨cs,G⟩:=hM.rows i x u Qqj Z Y
  have aG:u.ownBlock≠some g:=Ym hM.row G.row Qqx rfl
  refine ⟨cs,G.move (Q9 _) (fun b A h=>?_)⟩
  have:b≠g:=by
   intro e'
   rcases h with h | h
   ·have h':b<w.heap.size:=h;omega
   exact aG (e' ▸ h)
  rw [Za (fun e2=>this e2),hb.block b A]
 intro i j a b h J A h1 h2
 have M:∀ (i:Nat) (a:Value),i<k→rvs[i]?=some a→a.ownBlock=some h→h<wr.heap.size:=by
  intro i a O J hh
  obtain ⟨x,Z⟩:∃ x,l[i]?=some x:=⟨_,Qx Qqj⟩
  obtain ⟨cs,G⟩:=hM.rows i x a O Z J
  exact (G.row.lt h hh).2
 have D:∀ (i:Nat) (a:Value),¬ i<k→(rvs++[rv'])[i]?=some a→i=k∧a=rv':=by
  intro i a O J
  rw [Zx (by rw [hM.len];omega),hM.len] at J
  have h0:=(Qj J).1
  simp at h0
  have:i=k:=Qqj
  subst this
  simp at J
  exact ⟨rfl,J.symm⟩
 by_cases O:i<k
 ·have N:=J
  rw [List.getElem?_append_left (by rw [hM.len];exact O)] at N
  by_cases G:j<k
  ·rw [List.getElem?_append_left (by rw [hM.len];exact G)] at A
   exact hM.apart i j a b h N A h1 h2
  obtain ⟨rfl,rfl⟩:=D j b G A
  have:=M i a O N h1
  have:=(ho.row.lt h h2).1
  omega
 obtain ⟨rfl,rfl⟩:=D i a O J
 by_cases G:j<i
 ·rw [List.getElem?_append_left (by rw [hM.len];exact G)] at A
  have:=M j b G A h2
  have:=(ho.row.lt h h1).1
  omega
 obtain ⟨rfl,_⟩:=D j b G A
 rfl
theorem Gm.done {w wr:World} {g n cap:Nat} {l:List Rel} {css0:List (List Value)} {rvs:List Value} (hM:Gm w g n cap l css0 n rvs wr) (hn:l.length=n) (hc0:css0.length=n) (htl:∀ r ∈ l,r.table.length≤1000000):U3 w wr (.slice (some ⟨g,0,none⟩) n cap) l rvs:=by
 subst hn
 have A:=hM.row
 rw [Zj (Q9 _),Qu Qqj,List.append_nil] at A
 refine ⟨hM.len,A,htl,fun i r rv hr M=>?_,hM.apart⟩
 obtain ⟨cs,hj⟩:=hM.rows i r rv (Qj hr).1 hr M
 refine ⟨cs,⟨hj.row,hj.cs.move (.refl _ _) (fun b hb I=>⟨⟨fun e=>?_,fun u hu e=>?_⟩,I.2⟩)⟩⟩
 ·have h':b<w.heap.size:=I.1
  have:=(A.lt b e).1
  omega
 have h':b<w.heap.size:=I.1
 obtain ⟨j,G⟩:=Zk hu
 have D:j<l.length:=by rw [← hM.len];exact (Qj G).1
 obtain ⟨N,J⟩:=hM.rows j _ u D (Qx D) G
 have:=(J.row.lt b e).1
 omega
theorem Tk (S0:Nat→Prop) (lv:Value) (l:List Rel) (w:World) (hl0:Sl Y7 S0 w lv l):
  Calls prog 50 #[lv] w (P7 w l):=by
 have hl:Sl Y7 (fun b=>b<w) w lv l:=hl0.mono (fun b hb _=>hb)
 have M:=Qq (cloneRel _ lv l w hl)
 obtain ⟨lp,lc,rfl,aX⟩:=hl.len
 clear hl0 hl
 obtain ⟨n,hn⟩:=eX (l.length)
 unfold Ja at M
 rw [hn] at M aX ⊢
 have G:=Qq hn
 clear hn
 go_enter func50,ntmps50
 go_wp2_with fail
 refine M.out.mono ?_
 rintro e w1 ⟨p,cap,A,rfl,hO,aF⟩
 have I:=Qq hO;have U:=Qq aF
 clear hO aF M
 by_cases hn0:n=0
 ·subst hn0
  go_wp2_with fail
  go_loopw [10] (fun i wr=>i=.int .i64 0∧w1=wr) (fun _ _=>0)
  case atStart=>exact ⟨rfl,rfl⟩
  obtain ⟨rfl,rfl⟩:=hrel
  go_wp2_with fail
  go_ret
  have hl0:l=[]:=Zy G.out
  subst hl0
  refine ⟨p,cap,[],rfl,⟨rfl,?_,Qqk,fun i r rv h=>by simp at h,fun i j a b g h=>by simp at h⟩,U.out⟩
  have h1:w1.ownsRow w 70 2 (.slice p 0 cap) 0 A.flatten:=I.out.row
  have h2:A=[]:=Zy I.out.cs.len
  rw [h2] at h1
  exact h1
 obtain ⟨g,bB,hv,bD,bE⟩:=I.out.row.form (by rw [G.out];omega)
 simp only [Qr] at hv
 obtain ⟨rfl,-,rfl⟩:=hv
 go_wp2_with fail
 go_loopw [10] (fun i wr=>∃ (k:Nat) (rvs:List Value),k≤n∧i=.int .i64 k∧Gm w g n cap l A k rvs wr) (fun i _=>n - (intOf i).toNat)
 case atStart=>
  refine ⟨0,[],Q8 _,rfl,U.out,rfl,?_,fun i r rv h=>absurd h (Z6 _),fun i j a b h ha=>by simp at ha⟩
  have h1:w1.ownsRow w 70 2 (.slice (some ⟨g,0,none⟩) n cap) l.length A.flatten:=I.out.row
  rw [G.out] at h1
  exact h1
 obtain ⟨k,rvs,bG,rfl,hM⟩:=hrel
 have N:=Qq hM
 clear hM
 by_cases T:k<n
 ·have bF:(0:Int)≤(k:Int):=Qqj
  have aU:(k:Int)<(n:Int):=Qqj
  obtain ⟨r,hr⟩:∃ r,l[k]?=some r:=⟨_,Qx (by rw [G.out];exact T)⟩
  obtain ⟨c,hc⟩:∃ c,A[k]?=some c:=⟨_,Qx (by rw [I.out.cs.len,G.out];exact T)⟩
  obtain ⟨rv,rfl,aL,aA⟩:=I.out.cs.R k c r hc hr
  obtain ⟨rp,rc,rfl,_⟩:=aA.len
  have aK:(Yc (l.take k) rvs).length=k:=by rw [Un (by rw [Qm,N.out.len,G.out];omega),Qm,G.out];omega
  have J:∀ c ∈ Yc (l.take k) rvs++A.drop k,c.length=2:=by
   intro c aT
   rcases Z4.1 aT with h | h
   ·exact Jm c h
   exact I.out.cs.all c (Zw h)
  have Y:(Yc (l.take k) rvs++A.drop k)[k]?=some [sv r.table,.slice rp r.rows.length rc]:=by
   rw [Zx Qqj,aK,Nat.sub_self,List.getElem?_drop,Nat.add_zero];exact hc
  have l0:=N.out.row.cellAt (k*2) Qqj
  have l1:=N.out.row.cellAt (k*2+1) Qqj
  rw [show (Yc (l.take k) rvs++A.drop k).flatten[k*2]?=some (sv r.table) from V6 (k:=2) J Y (j:=0) rfl] at l0
  rw [show (Yc (l.take k) rvs++A.drop k).flatten[k*2+1]?=some (.slice rp r.rows.length rc) from V6 (k:=2) J Y (j:=1) rfl] at l1
  unfold sv at l0
  have aJ:Sl Ze (fun b=>b<w) w (.slice rp r.rows.length rc) r.rows:=(aA.mono (S':=fun b=>b<w) (fun b _ hb=>hb.1)).frame (fun b hb _=>(U.out.block b hb).symm)
  obtain ⟨aS,HR,HC⟩:=Qqo aJ hr hc
  have f1:=N.out.row.frozenAt (k*2+1)
  clear hr hc aA aK J Y aJ f1
  go_upto_region 5 with fail
  obtain ⟨W5,O⟩:=eX (wr.alloc (.cells #[r.table,.slice rp r.rows.length rc] 70))
  rw [O]
  have Z:=eqB O (Zg _ _)
  have aE:=eqH (b:=wr.heap.size) O (Qw _ _)
  have x1:=rA1 aE
  have aB:=Qq Z
  have aC:=Qq (Hg _ _ _ W5 (aS.out.below (N.out.below.thn Z)))
  clear O Z aE l0 l1
  go_wp2_with fail
  refine aC.out.mono ?_
  rintro e w6 ⟨p6,c6,bC,rfl,aH,aG⟩
  have V:=aB.out.thn aG
  have D:=Vw N.out.row (Q9 _) (fun b _ T=>V.block b T)
  have f7:=D.frozenAt (k*2+1)
  have k7:=D.cellAt (k*2+1) Qqj
  have aR:=Qq (aH.move (B':=wr.heap.size) aB.out.size (fun _ _ _=>rfl));have aQ:=Qq V
  obtain ⟨u7,aM⟩:∃ u,(Yc (l.take k) rvs++A.drop k).flatten[k*2+1]?=some u:=by
   cases h:(Yc (l.take k) rvs++A.drop k).flatten[k*2+1]? with
   | some u=>exact ⟨u,rfl⟩
   | none=>
    have h2:=List.getElem?_eq_none_iff.1 h
    have:=D.1
    omega
  rw [aM] at k7
  clear aH aG V D aM x1 aC
  go_wp2_with fail
  go_roundw
  case measure=>simp [intOf];omega
  case rel=>exact ⟨k+1,rvs++[.slice p6 r.rows.length c6],Qqj,by go_num,N.out.next G.out (by rw [I.out.cs.len];exact G.out) I.out.cs.all HR.out HC.out aQ.out aR.out⟩
 obtain rfl:k=n:=Qqj
 have aU:¬ (k:Int)<(k:Int):=Qqj
 go_wp2_with fail
 go_ret
 have aL:∀ r ∈ l,r.table.length≤1000000:=by
  intro r hr
  obtain ⟨i,hi⟩:=Zk hr
  have aV:=(Qj hi).1
  obtain ⟨_,_,h,_⟩:=I.out.cs.R i _ r (Qx (by rw [I.out.cs.len];exact aV)) hi
  exact h
 have hd:=N.out.done G.out (by rw [I.out.cs.len];exact G.out) aL
 refine ⟨some ⟨g,0,none⟩,cap,rvs,by rw [G.out];rfl,by rw [G.out];exact hd,N.out.below⟩
end Go.Proofs.YtdpibdpbgokmoaaGreatDoor
