import Derived.Test.YtdpibdpbgokmoaaGreatDoorA15
set_option maxRecDepth 100000
set_option maxHeartbeats 400000000
namespace Go.Proofs.YtdpibdpbgokmoaaGreatDoor
open Go.RowKit Go.Shelf Go.Lib Tryz
def Ur (n:Nat) (cf:Nat->Nat->Ft) (nm:Nat->Bs) (f:Ft):Prop:=
 (f=Ft.zero/\∀ c i,c<5->i<n->(cf c i).code=0) \/
 ∃ c i,c<5/\i<n/\(cf c i).code≠0/\f=⟨(cf c i).code,nm i,(cf c i).row,(cf c i).other⟩/\∀ c' i',i'<n->(c'<c\/c'=c/\i'<i)->(cf c' i').code=0
def Fh:Nat->Nat
 | 0=>25
 | 1=>26
 | 2=>31
 | 3=>33
 | _=>35
def Du (B C:Nat):Nat->Array Value
 | 1=>#[.pointer (some ⟨B,0,none⟩)]
 | 3=>#[.pointer (some ⟨B,0,none⟩),.pointer (some ⟨C,0,none⟩)]
 | _=>#[]
def ConOk (w:World) (s:Sc) (cs:List Value) (lv:Value) (l:List Rel) (cf:Nat->Nat->Ft):Prop:=
 ∀ c,c<5->∀ (i:Nat) (t:Tbl) (r:Rel),s.tables[i]?=some t->l[i]?=some r->(∀ c' i',c'<c->i'<s.tables.length->(cf c' i').code=0)->∀ (B C:Nat) (W:World) (ct:List Value) (rv:Value),Below w w W->W.heap[B]?=some (.cells cs.toArray 26 (0,0))->W.cell? ⟨C,0,none⟩=some lv ->
  Zn.R (λb=>b<w) W ct t->Sl Zc (λb=>b<w) W rv r.rows->Calls prog (Fh c) (#[.agg ct.toArray,rv]++Du B C c) W (G5 (λb=>b<w) W (cf c i))
def Jq (w:World) (s:Sc) (l:List Rel) (cf:Nat->Nat->Ft) (e:Ending) (w':World):Prop:=
 ∃ f,(U3 s l=true->Ur s.tables.length cf (λi=>((s.tables[i]?).getD Tbl.zero).name) f)/\(U3 s l=false->f=⟨1,[],Val.zero,Val.zero⟩)/\G5 (λb=>b<w) w f e w'
theorem Mu {w W:World} {o:Obj} (h:Below (w.alloc o).drew.heap.size (w.alloc o).drew W):W.heap[w.heap.size]?=some o:=
 kE h Ib (by rw [heap_drew];exact Qw w o)
theorem Qqw (S0 S1:Nat->Prop) (s:Sc) (cs:List Value) (lv:Value) (l:List Rel) (w:World) (hs0:Ve S0 w cs s) (hl0:Sl Yk S1 w lv l) (cf:Nat->Nat->Ft) (hcon:ConOk w s cs lv l cf):
  Calls prog 9 #[cs,lv] w (Jq w s l cf):=by
 have hN:=Qq (λW (hb:Below w w W)=>Tv S0 S1 s cs lv l W (hs0.below hb) (hl0.below hb))
 obtain ⟨uv,tv,rfl,hV,hT⟩:=hs0
 have hu:Sl J3 (λb=>b<w) w uv s.sums:=hV.mono (λb hb _=>hb)
 have ht:Sl Zn (λb=>b<w) w tv s.tables:=hT.mono (λb hb _=>hb)
 have hl:Sl Yk (λb=>b<w) w lv l:=hl0.mono (λb hb _=>hb)
 obtain ⟨up,uc,rfl,_⟩:=hu.len
 obtain ⟨tp,tc,rfl,iV⟩:=ht.len
 obtain ⟨lp,lc,rfl,_⟩:=hl.len
 obtain ⟨HT,HL,gK⟩:=Im ht hl hcon
 clear hV hT hl0 hu ht hl hcon
 obtain ⟨nb,fP⟩:=eX (U3 s l)
 rw [fP] at hN
 have bR:=Qq fP
 clear fP
 cases nb with
 | false=>
  go_enter func9,ntmps9
  go_wp2_with fail
  refine (hN.o _ (Xt _ _ _ _)).mono ?_
  rintro e w1 ⟨rfl,aI⟩
  have A:=Qq ((aI.block (w+2) Ib).trans (Zi w _ _ _))
  have aD:=Qq ((Xt w _ _ _).n aI)
  have rz:=λj=>Qn _ _ j _ _ A.o
  have rr:=λj=>Qk _ _ j _ _ _ A.o
  obtain ⟨eA,eB,eC,eD,eE,eF,eG,eH,eI,eJ,bE,bF⟩:=AJ rz
  obtain ⟨aM,aN,aO,aP,aQ,aR,aS,aT,aU,aV,I,J⟩:=AJ rr
  simp only [Qf,Qg,Qh] at aM aN aO aP aQ aR aS aT aU aV I J
  clear rz rr aI
  go_wp2_with fail
  show bodyPost _ _ _ _ _ (Y9 w1 (w+1+1) (.int .i64 1) Ig Ic Ic Ig Ie Ie Ic Ic Ig Ie Ie)
  refine Q7 (v:=.agg #[.int .i64 1,Ig,Ic,Ic,Ig,Ie,Ie,Ic,Ic,Ig,Ie,Ie]) (by simp [results,results9,go_sem,Ya A.o]) rfl ⟨⟨1,[],Val.zero,Val.zero⟩,λh=>absurd bR.o (by rw [h];decide),λ_=>rfl,[.int .i64 1,Ig,Ic,Ic,Ig,Ie,Ie,Ic,Ic,Ig,Ie,Ie],rfl,⟨_,_,rfl,Ib,Y2 _ _,Y2 _ _⟩,Y1 aD.o Ia⟩
 | true=>
  go_enter func9,ntmps9
  go_wp2_with (go_at_call 24;refine (hN.o _ (Xt _ _ _ _)).mono ?_;rintro e w1 ⟨rfl,aI⟩)
  generalize fM:w1.alloc _=W3
  have cH:=Iq fM (Zg _ _)
  have fK:=Ik (b:=w1.heap.size) fM (Qw _ _)
  have jC:w.heap.size+3<=w1.heap.size:=by have:=aI.size;simp at this;omega
  have gY:=(aI.block w (by simp;omega)).trans (Zp w _ _ _)
  have hD:=(aI.block (w+1) Ib).trans (Zo w _ _ _)
  have hH:=(aI.block (w+2) Ib).trans (Zi w _ _ _)
  have gH:=Qq (cH.block w Ia |>.trans gY)
  have gI:=Qq (cH.block (w+1) Ia |>.trans hD)
  have bT:=Qq (cH.block (w+2) Ia |>.trans hH)
  have iD:=Qq fK
  have aY:=Qq (((Xt w _ _ _).n aI).n cH)
  have hS:w1.heap.size<W3.heap.size:=Z8 fK
  clear fM cH fK aI gY hD hH
  have hQ:l.length=s.tables.length:=by
   refine Decidable.byContradiction λh=>?_
   have O:=bR.o
   unfold U3 at O
   rw [Ky _ _ _ (λe=>h e.symm)] at O
   cases O
  have fD:=Qq hQ
  clear hQ
  obtain ⟨n,hn⟩:=eX (s.tables.length)
  rw [hn] at iV
  rw [hn] at fD
  rw [hn] at HT
  rw [hn]
  have HN:=Qq hn
  clear hn
  have mixed:(prog).follows .mixedOrders=true:=Ir
  go_loopw [21] (λi wr=>∃ c:Nat,c<=5/\i=.int .i64 c/\Below W3 W3 wr/\Aside (∀ c' i',c'<c->i'<n->(cf c' i').code=0)) (λi _=>5 - (intOf i).toNat)
  case atStart=>exact ⟨0,Q8 _,rfl,Qz _ _,λ_ _ h=>absurd h (Z6 _)⟩
  obtain ⟨c,jJ,rfl,hB,hI⟩:=hrel
  generalize h6:wr=w6 at *
  have bP:=Qq hB;have HI:=Qq hI.o
  clear hB hI
  by_cases hlt:c<5
  ·have jK:(0:Int)<=(c:Int):=Ia
   have jL:(c:Int)<5:=Ia
   have hF:=kE bP.o hS iD.o
   have fL:w6.cell? ⟨w1,c,none⟩=some (.func (.func (Fh c)) #[] (Du w (w+1) c)):=by
    rw [Qk _ _ _ _ _ _ hF]
    match c,hlt with
    | 0,_=>rfl
    | 1,_=>rfl
    | 2,_=>rfl
    | 3,_=>rfl
    | 4,_=>rfl
   have iP:∀ args w,(callFunc (Fh c) args).run prog w=.ok (.enter (Fh c) args) w:=by
    match c,hlt with
    | 0,_=>exact enters_of func25 Ir rfl
    | 1,_=>exact enters_of func26 Ir rfl
    | 2,_=>exact enters_of func31 Ir rfl
    | 3,_=>exact enters_of func33 Ir rfl
    | 4,_=>exact enters_of func35 Ir rfl
   have fJ:=gK.o c hlt
   generalize Fh c=g at fL iP fJ
   have gJ:=Qq (λi t r h1 O W ct rv=>fJ i t r h1 O (λc' i' h3 h4=>HI.o c' i' h3 (by rw [<- HN.o];exact h4)) w (w+1) W ct rv)
   generalize Du w (w+1) c=lb9 at fL gJ
   have gZ:=kB bP.o gH.o
   have b1:=AA gZ
   rw [HN.o] at b1
   clear hF fJ gZ
   go_wp2_with fail
   go_loopw [28] (λi wr=>∃ k:Nat,k<=n/\i=.int .i64 k/\Below W3 W3 wr/\Aside (∀ i',i'<k->(cf c i').code=0)) (λi _=>n - (intOf i).toNat)
   case atStart=>exact ⟨0,Q8 _,rfl,bP.o,λ_ h=>absurd h (Z6 _)⟩
   obtain ⟨i,jN,rfl,hC,hJ⟩:=hrel
   have aE:=Qq hC;have HJ:=Qq hJ.o
   clear hC hJ b1 fL
   by_cases hli:i<n
   ·have jM:(0:Int)<=(i:Int):=Ia
    have hM:(i:Int)<(n:Int):=Ia
    obtain ⟨t,ht⟩:∃ t,s.tables[i]?=some t:=⟨_,Qx (by rw [HN.o];exact hli)⟩
    obtain ⟨r,hr⟩:∃ r,l[i]?=some r:=⟨_,Qx (by rw [fD.o];exact hli)⟩
    have eO:=Qq (aY.o.trans (aE.o.mono aY.o.size))
    obtain ⟨tb,jD,ct,rfl,iU,_,fT,fS,G⟩:=(HT.o.below eO.o).elem ht
    obtain ⟨lb,eW,cl,rfl,hO,_,fO,iR,hP⟩:=(HL.o.below eO.o).elem hr
    obtain ⟨cC,cB,cT,cS,dX,dW,k9,eK,n9,eL,dJ,cU,bY,dK,cV,bZ,dL,cW,cA,a9,z9,cM,hU,_⟩:=Yq fS
    simp only [AL] at cM
    subst cM
    obtain ⟨rv,rfl,_,fQ⟩:=iR
    obtain ⟨rp,rc,rfl,_⟩:=fQ.len
    have l1:=hP 1 _ rfl
    have d0:=G 0 _ rfl
    have d1:=G 1 _ rfl
    have d2:=G 2 _ rfl
    have d3:=G 3 _ rfl
    have d4:=G 4 _ rfl
    have d5:=G 5 _ rfl
    have d6:=G 6 _ rfl
    have d7:=G 7 _ rfl
    have d8:=G 8 _ rfl
    have d9:=G 9 _ rfl
    have gR:=G 10 _ rfl
    have gS:=G 11 _ rfl
    have gT:=G 12 _ rfl
    simp only [show Zn.k=13 from rfl,show Yk.k=2 from rfl,Nat.add_zero] at l1 d0 d1 d2 d3 d4 d5 d6 d7 d8 d9 gR gS gT
    have hE:=kB aE.o gI.o
    have c0:=AB hE
    have jB:(i:Int)<(l.length:Int):=by rw [fD.o];exact hM
    obtain ⟨iH,iF,fG,iE⟩:=It fS fQ ht hr
    clear fS fQ ht hr G hP hE fT fO
    go_upto_region 10 with fail
    obtain ⟨M,cG⟩:=eX (wr.alloc (.cells (AR t cC cB cT cS dX dW k9 eK n9 eL dJ cU bY dK cV bZ dL cW cA a9 z9) 48))
    rw [cG]
    have bI:=Iq cG (Zg _ _)
    have fN:=Ik (b:=wr.heap.size) cG (Qw _ _)
    have eV:M=wr.heap.size+1:=by rw [<- cG];simp
    have eT:w.heap.size+1<wr.heap.size:=Qv wr _ c0
    have aX:=Qq (show w+2<=wr.heap.size from by have:=Z8 bT.o;have:=aE.o.size;omega)
    have hA:w.heap.size+2<=wr.heap.size:=by have:=Z8 bT.o;have:=aE.o.size;omega
    have cP:lb<wr.heap.size:=hO
    refine let_mvar% ?Lq1:=λw':World=>(BT w' wr t.name (.slice cC t.columns.length cB) (.slice cT t.key.length cS) (.slice dX t.refs.length dW) k9 (.string eK) n9 (.string eL) (.slice dJ cU bY) (.slice dK cV bZ) (.slice dL cW cA) a9 z9 (Ii w' (w+1) 0 (Io lb eW l.length lc)/\Ii w' lb (eW+i*2+1) (.slice rp r.rows.length rc)/\Below M M w'):Prop);?_
    have HS:∀ w',Below M M w'->?Lq1 w':=by
     intro w' h
     have hx:∀ {j:Nat} {u:Value},#[.string ⟨t.name.toArray⟩,.slice cC t.columns.length cB,.slice cT t.key.length cS,.slice dX t.refs.length dW,.int .i64 k9,.string eK,.int .i64 n9,.string eL,.slice dJ cU bY,.slice dK cV bZ,.slice dL cW cA,.int .i64 a9,.int .i64 z9][j]?=some u->w'.cell? ⟨wr,j,none⟩=some u:=λ{j u} hu=>by
      rw [h.cell (p:=⟨wr,j,none⟩) (by show wr<M.heap.size;omega),Qk _ _ j _ _ _ fN];exact hu
     have hh:∀ {b j:Nat} {u:Value},b<wr->wr.cell? ⟨b,j,none⟩=some u->w'.cell? ⟨b,j,none⟩=some u:=λ{b j u} hlt hc=>kD (bI.n h) hlt hc
     exact ⟨hx rfl,hx rfl,hx rfl,hx rfl,hx rfl,hx rfl,hx rfl,hx rfl,hx rfl,hx rfl,hx rfl,hx rfl,hx rfl,hh eT c0,hh cP l1,h⟩
    have N:∀ w',?Lq1 w'->Below M M w':=λw' h=>h.2.2.2.2.2.2.2.2.2.2.2.2.2.2.2
    have fH:∀ w' eR,?Lq1 w'->Below w' w' eR->?Lq1 eR:=λw' eR h O=>HS eR ((N w' h).n O)
    have gG:∀ w' o,?Lq1 w'->?Lq1 (w'.alloc o):=λw' o h=>fH w' _ h (Zg _ _)
    have fF:∀ w' g0 g1 g2 g3 g4 g5 g6 g7 g8 g9 gU gV,?Lq1 w'->?Lq1 (Y9 w' M g0 g1 g2 g3 g4 g5 g6 g7 g8 g9 gU gV):=λw' g0 g1 g2 g3 g4 g5 g6 g7 g8 g9 gU gV h=>HS _ (Y1 (N w' h) (Q9 _))
    unfold Y9 at fF
    have cK:Below w w M:=eO.o.trans (bI.mono eO.o.size)
    have bQ:∀ W',?Lq1 W'->Calls prog g (#[.agg (AR t cC cB cT cS dX dW k9 eK n9 eL dJ cU bY dK cV bZ dL cW cA a9 z9),.slice rp r.rows.length rc]++lb9) W' λe w2=>∃ Z T p4 U q3 V q4 Y,e=.returned (.agg #[.int .i64 (cf c i).code,.string ⟨(cf c i).table.toArray⟩,.int .i64 (cf c i).row.kind,.int .i64 (cf c i).row.n,.string ⟨(cf c i).row.s.toArray⟩,.slice Z (cf c i).row.names.length T,.slice p4 (cf c i).row.kids.length U,.int .i64 (cf c i).other.kind,.int .i64 (cf c i).other.n,.string ⟨(cf c i).other.s.toArray⟩,.slice q3 (cf c i).other.names.length V,.slice q4 (cf c i).other.kids.length Y])/\L0 (λb=>b<w) w2 [.int .i64 (cf c i).code,.string ⟨(cf c i).table.toArray⟩,.int .i64 (cf c i).row.kind,.int .i64 (cf c i).row.n,.string ⟨(cf c i).row.s.toArray⟩,.slice Z (cf c i).row.names.length T,.slice p4 (cf c i).row.kids.length U,.int .i64 (cf c i).other.kind,.int .i64 (cf c i).other.n,.string ⟨(cf c i).other.s.toArray⟩,.slice q3 (cf c i).other.names.length V,.slice q4 (cf c i).other.kids.length Y] (cf c i)/\?Lq1 w2/\Below W' W' w2:=by
     intro W' h'
     have iN:=cK.trans ((N W' h').mono cK.size)
     have hK:=aE.o.trans (((bI.n (N W' h'))).mono aE.o.size)
     refine (gJ.o i t r fG.o iE.o W' (AR t cC cB cT cS dX dW k9 eK n9 eL dJ cU bY dK cV bZ dL cW cA a9 z9) (.slice rp r.rows.length rc) iN ?_ ?_ ?_ ?_).mono ?_
     ·exact kB hK gH.o
     ·have:=kB hK gI.o
      rw [Qk _ _ _ _ _ _ this];rfl
     ·exact Zn.frame iH.o (.f (bI.n (N W' h')))
     ·exact iF.o.below (bI.n (N W' h'))
     rintro e w2 ⟨jF,rfl,bK,bH⟩
     obtain ⟨Z,T,p4,U,q3,V,q4,Y,cM,_⟩:=Ue bK
     simp only [fcs] at cM
     subst cM
     exact ⟨Z,T,p4,U,q3,V,q4,Y,rfl,bK,fH _ _ h' bH,bH⟩
    obtain ⟨fC,aW,bO,eP⟩:=It (HS M.drew (Qz _ _).drew) N gG bQ
    have bS:=Qq fF;have fB:=Qq (λo=>HS (M.alloc o).drew (Zg _ _).drew)
    have D:=Qq eV
    have gP:=Qq fN;have bL:=Qq (aE.o.trans (bI.mono aE.o.size))
    clear HS fF N fH gG bQ cK fN bI cG l1 c0 d0 d1 d2 d3 d4 d5 d6 d7 d8 d9 gR gS gT eT cP iU hO eV hA
    generalize hL:cf c i=f at eP
    have bM:=Qq hL;have gO:=Qq hU
    clear hL hU
    go_region_held3 ?Lq1 (first | with_reducible exact fC.o | with_reducible exact aZ | with_reducible exact fB.o _ | with_reducible exact bO.o _ _ aZ | with_reducible exact bS.o _ _ _ _ _ _ _ _ _ _ _ _ _ aZ)
     (first
      | (go_at_fn g;refine (eP.o _ AN).mono ?_;rintro e w2 ⟨Z,T,p4,U,q3,V,q4,Y,rfl,bK,aZ,bH⟩;try (have r2:=Mu bH;obtain ⟨f0,f1,f2,f3,f4,f5,f6,f7,f8,f9,jG,jH⟩:=AS r2;obtain ⟨y0,y1,y2,y3,y4,y5,y6,y7,y8,y9,jO,jP⟩:=AT r2;have jE:=Qq r2;clear r2)))
    ·obtain ⟨W6,aG⟩:=eX (w2.alloc (.cells (AU f.code f.table f.row Z T p4 U f.other q3 V q4 Y) 38))
     have bG:=Ik (b:=w2.heap.size) aG (Qw _ _)
     have eU:=Iq aG (Zg _ _)
     have bJ:Below M M W6:=(aW.o _ aZ).n eU
     have cN:L0 (λb=>b<w) W6 (AU f.code f.table f.row Z T p4 U f.other q3 V q4 Y) f:=bK.move (.f eU) Ij
     have cD:M.heap.size<=w2.heap.size:=(aW.o _ aZ).size
     rw [aG]
     obtain ⟨aD,eZ,bU,aJ⟩:=It (bL.o.trans (bJ.mono bL.o.size)) cN bG cD
     have cF:=kB bJ gP.o
     have t0:=AB cF
     have n0:=AB bG
     have iG:=Qq t0
     have A:=Qq (kB aD.o bT.o)
     clear aG bG bJ cN cD cF bK aZ bH fC fB aW bO bS eP
     by_cases hz:f.code=0
     ·have hq:(f.code != 0)=false:=by rw [hz];rfl
      clear t0
      go_wp2_with fail
      go_roundw
      case measure=>simp [intOf];omega
      case rel=>
       refine ⟨i+1,Ia,by go_num,aD.o,(show Aside _ from λi' eQ=>?_)⟩
       by_cases e:i'=i
       ·subst e
        rw [bM.o]
        exact hz
       exact HJ.o i' Ia
     have hq:(f.code != 0)=true:=by simpa using hz
     have HZ:=Qq hz
     clear hz
     have nz:=λj=>Qn _ _ j _ _ bU.o
     have nr:=λj=>Qk _ _ j _ _ _ bU.o
     have rz:=λj=>Qn _ _ j _ _ A.o
     have rr:=λj=>Qk _ _ j _ _ _ A.o
     obtain ⟨fU,fV,fW,fX,fY,fZ,gA,gB,gC,gD,dH,dI⟩:=AJ nz
     obtain ⟨cX,cY,cZ,dA,dB,dC,dD,dE,dF,dG,bA,bB⟩:=AJ nr
     obtain ⟨eA,eB,eC,eD,eE,eF,eG,eH,eI,eJ,bE,bF⟩:=AJ rz
     obtain ⟨aM,aN,aO,aP,aQ,aR,aS,aT,aU,aV,I,J⟩:=AJ rr
     simp only [Qf,Qg,Qh] at cX cY cZ dA dB dC dD dE dF dG bA bB aM aN aO aP aQ aR aS aT aU aV I J
     have cQ:w2≠w.heap.size+1+1:=by have:=aX.o;have:=D.o;have:=aJ.o;omega
     have cR:w.heap.size+1+1≠w2.heap.size:=λe=>cQ e.symm
     have hR:w2.heap.size≠wr.heap.size:=BC D.o aJ.o
     clear nz nr rz rr n0
     go_wp2_with fail
     obtain ⟨V7,aF⟩:=eX (W6.setCell ⟨w2,1,none⟩ (.string ⟨t.name.toArray⟩))
     rw [aF]
     have cE:V7.heap[w.heap.size+1+1]?=some (.cells zF 38 (0,0)):=by rw [<- aF,Za cR];exact A.o
     have fE:=Qq (λb (hb:b<w.heap.size)=>show V7.heap[b]?=W6.heap[b]? by rw [<- aF];exact Za (by show b≠w2;have:=aX.o;have:=D.o;have:=aJ.o;omega))
     have cI:Below W3 W3 V7:=by rw [<- aF];exact aD.o.setCell (p:=⟨w2,1,none⟩) (by show W3<=w2.heap.size;have:=aE.o.size;have:=D.o;have:=aJ.o;omega) _
     have eY:=Qq (aY.o.trans (cI.mono aY.o.size))
     show bodyPost _ _ _ _ _ (Y9 V7 (w+1+1) f.code t.name f.row.kind f.row.n f.row.s (.slice Z f.row.names.length T) (.slice p4 f.row.kids.length U) f.other.kind f.other.n f.other.s (.slice q3 f.other.names.length V) (.slice q4 f.other.kids.length Y))
     have q:=λj=>Ya (a0:=.int .i64 f.code) (a1:=.string ⟨t.name.toArray⟩) (a2:=.int .i64 f.row.kind) (a3:=.int .i64 f.row.n) (a4:=.string ⟨f.row.s.toArray⟩) (a5:=.slice Z f.row.names.length T) (a6:=.slice p4 f.row.kids.length U) (a7:=.int .i64 f.other.kind) (a8:=.int .i64 f.other.n) (a9:=.string ⟨f.other.s.toArray⟩) (a10:=.slice q3 f.other.names.length V) (a11:=.slice q4 f.other.kids.length Y) cE j
     generalize aK:Y9 V7 (w+1+1) f.code t.name f.row.kind f.row.n f.row.s (.slice Z f.row.names.length T) (.slice p4 f.row.kids.length U) f.other.kind f.other.n f.other.s (.slice q3 f.other.names.length V) (.slice q4 f.other.kids.length Y)=W9 at q
     have cJ:Below w w W9:=by rw [<- aK];exact Y1 eY.o Ia
     have cO:L0 (λb=>b<w) W9 (AU f.code f.table f.row Z T p4 U f.other q3 V q4 Y) f:=eZ.o.move (λb hb _=>by rw [<- aK,Xj (by have:b<w.heap.size:=hb;omega)];exact fE.o b hb) Ij
     obtain ⟨dM,dN,dO,dP,dQ,dR,dS,dT,dU,dV,bC,bD⟩:=AJ q
     simp only [Qf,Qg,Qh] at dM dN dO dP dQ dR dS dT dU dV bC bD
     have N:=Qq cJ;have fA:=Qq cO
     try rw [aK]
     clear q cJ cO aK aF cE cI fU cX eA aM fV cY eB aN fW cZ eC aO fX dA eD aP fY dB eE aQ fZ dC eF aR gA dD eG aS gB dE eH aT gC dF eI aU gD dG eJ aV dH bA bE I dI bB bF J
     refine Q7 (v:=.agg (AU f.code t.name f.row Z T p4 U f.other q3 V q4 Y)) (by simp [results,results9,go_sem,dM,dN,dO,dP,dQ,dR,dS,dT,dU,dV,bC,bD]) rfl ⟨⟨f.code,t.name,f.row,f.other⟩,λ_=>.inr ⟨c,i,hlt,by rw [HN.o];exact hli,by rw [bM.o];exact HZ.o,?_,?_⟩,λh=>absurd bR.o (by rw [h];decide),AU f.code t.name f.row Z T p4 U f.other q3 V q4 Y,rfl,?_,N.o⟩
     ·show (⟨_,_,_,_⟩:Ft)=⟨(cf c i).code,((s.tables[i]?).getD Tbl.zero).name,(cf c i).row,(cf c i).other⟩
      rw [bM.o,fG.o];rfl
     ·intro c' i' h1 O
      rcases O with O | ⟨rfl,O⟩
      ·exact HI.o c' i' O (by rw [<- HN.o];exact h1)
      exact HJ.o i' O
     obtain ⟨c1,c2,aL,_,O,h3⟩:=fA.o
     have cL:c1=[.int .i64 f.row.kind,.int .i64 f.row.n,.string ⟨f.row.s.toArray⟩,.slice Z f.row.names.length T,.slice p4 f.row.kids.length U]/\c2=[.int .i64 f.other.kind,.int .i64 f.other.n,.string ⟨f.other.s.toArray⟩,.slice q3 f.other.names.length V,.slice q4 f.other.kids.length Y]:=by
      have e1:=O.length;have e2:=h3.length
      match c1,e1,c2,e2,aL with
      | [_,_,_,_,_],_,[_,_,_,_,_],_,aL=>
       simp only [List.cons_append,List.nil_append,List.cons.injEq] at aL
       obtain ⟨-,-,rfl,rfl,rfl,rfl,rfl,rfl,rfl,rfl,rfl,rfl,-⟩:=aL
       exact ⟨rfl,rfl⟩
     exact ⟨_,_,rfl,gO.o,cL.1 ▸ O,cL.2 ▸ h3⟩
    obtain ⟨W6,aG⟩:=eX (Y9 w2 M f.code f.table f.row.kind f.row.n f.row.s (.slice Z f.row.names.length T) (.slice p4 f.row.kids.length U) f.other.kind f.other.n f.other.s (.slice q3 f.other.names.length V) (.slice q4 f.other.kids.length Y))
    have bG:W6.heap[M.heap.size]?=some (.cells (AU f.code f.table f.row Z T p4 U f.other q3 V q4 Y) 38 (0,0)):=by rw [<- aG];exact Ls (Mu bH)
    have bJ:Below M M W6:=by rw [<- aG];exact Y1 (aW.o _ aZ) (Q9 _)
    have cN:L0 (λb=>b<w) W6 (AU f.code f.table f.row Z T p4 U f.other q3 V q4 Y) f:=bK.move (λb hb _=>by rw [<- aG];exact Xj (BC aX.o D.o)) Ij
    have cD:M.heap.size<=M.heap.size:=Q9 _
    unfold Y9 at aG
    rw [aG]
    obtain ⟨aD,eZ,bU,aJ⟩:=It (bL.o.trans (bJ.mono bL.o.size)) cN bG cD
    have cF:=kB bJ gP.o
    have t0:=AB cF
    have n0:=AB bG
    have iG:=Qq t0
    have A:=Qq (kB aD.o bT.o)
    clear aG bG bJ cN cD cF bK aZ bH fC fB aW bO bS eP
    by_cases hz:f.code=0
    ·have hq:(f.code != 0)=false:=by rw [hz];rfl
     clear t0
     go_wp2_with fail
     go_roundw
     case measure=>simp [intOf];omega
     case rel=>
      refine ⟨i+1,Ia,by go_num,aD.o,(show Aside _ from λi' eQ=>?_)⟩
      by_cases e:i'=i
      ·subst e
       rw [bM.o]
       exact hz
      exact HJ.o i' Ia
    have hq:(f.code != 0)=true:=by simpa using hz
    have HZ:=Qq hz
    clear hz
    have nz:=λj=>Qn _ _ j _ _ bU.o
    have nr:=λj=>Qk _ _ j _ _ _ bU.o
    have rz:=λj=>Qn _ _ j _ _ A.o
    have rr:=λj=>Qk _ _ j _ _ _ A.o
    obtain ⟨fU,fV,fW,fX,fY,fZ,gA,gB,gC,gD,dH,dI⟩:=AJ nz
    obtain ⟨cX,cY,cZ,dA,dB,dC,dD,dE,dF,dG,bA,bB⟩:=AJ nr
    obtain ⟨eA,eB,eC,eD,eE,eF,eG,eH,eI,eJ,bE,bF⟩:=AJ rz
    obtain ⟨aM,aN,aO,aP,aQ,aR,aS,aT,aU,aV,I,J⟩:=AJ rr
    simp only [Qf,Qg,Qh] at cX cY cZ dA dB dC dD dE dF dG bA bB aM aN aO aP aQ aR aS aT aU aV I J
    have cQ:M≠w.heap.size+1+1:=by have:=aX.o;have:=D.o;have:=aJ.o;omega
    have cR:w.heap.size+1+1≠M.heap.size:=λe=>cQ e.symm
    have hR:M.heap.size≠wr.heap.size:=BC D.o aJ.o
    clear nz nr rz rr n0
    go_wp2_with fail
    obtain ⟨V7,aF⟩:=eX (W6.setCell ⟨M,1,none⟩ (.string ⟨t.name.toArray⟩))
    rw [aF]
    have cE:V7.heap[w.heap.size+1+1]?=some (.cells zF 38 (0,0)):=by rw [<- aF,Za cR];exact A.o
    have fE:=Qq (λb (hb:b<w.heap.size)=>show V7.heap[b]?=W6.heap[b]? by rw [<- aF];exact Za (by show b≠M;have:=aX.o;have:=D.o;have:=aJ.o;omega))
    have cI:Below W3 W3 V7:=by rw [<- aF];exact aD.o.setCell (p:=⟨M,1,none⟩) (by show W3<=M.heap.size;have:=aE.o.size;have:=D.o;have:=aJ.o;omega) _
    have eY:=Qq (aY.o.trans (cI.mono aY.o.size))
    show bodyPost _ _ _ _ _ (Y9 V7 (w+1+1) f.code t.name f.row.kind f.row.n f.row.s (.slice Z f.row.names.length T) (.slice p4 f.row.kids.length U) f.other.kind f.other.n f.other.s (.slice q3 f.other.names.length V) (.slice q4 f.other.kids.length Y))
    have q:=λj=>Ya (a0:=.int .i64 f.code) (a1:=.string ⟨t.name.toArray⟩) (a2:=.int .i64 f.row.kind) (a3:=.int .i64 f.row.n) (a4:=.string ⟨f.row.s.toArray⟩) (a5:=.slice Z f.row.names.length T) (a6:=.slice p4 f.row.kids.length U) (a7:=.int .i64 f.other.kind) (a8:=.int .i64 f.other.n) (a9:=.string ⟨f.other.s.toArray⟩) (a10:=.slice q3 f.other.names.length V) (a11:=.slice q4 f.other.kids.length Y) cE j
    generalize aK:Y9 V7 (w+1+1) f.code t.name f.row.kind f.row.n f.row.s (.slice Z f.row.names.length T) (.slice p4 f.row.kids.length U) f.other.kind f.other.n f.other.s (.slice q3 f.other.names.length V) (.slice q4 f.other.kids.length Y)=W9 at q
    have cJ:Below w w W9:=by rw [<- aK];exact Y1 eY.o Ia
    have cO:L0 (λb=>b<w) W9 (AU f.code f.table f.row Z T p4 U f.other q3 V q4 Y) f:=eZ.o.move (λb hb _=>by rw [<- aK,Xj (by have:b<w.heap.size:=hb;omega)];exact fE.o b hb) Ij
    obtain ⟨dM,dN,dO,dP,dQ,dR,dS,dT,dU,dV,bC,bD⟩:=AJ q
    simp only [Qf,Qg,Qh] at dM dN dO dP dQ dR dS dT dU dV bC bD
    have N:=Qq cJ;have fA:=Qq cO
    try rw [aK]
    clear q cJ cO aK aF cE cI fU cX eA aM fV cY eB aN fW cZ eC aO fX dA eD aP fY dB eE aQ fZ dC eF aR gA dD eG aS gB dE eH aT gC dF eI aU gD dG eJ aV dH bA bE I dI bB bF J
    refine Q7 (v:=.agg (AU f.code t.name f.row Z T p4 U f.other q3 V q4 Y)) (by simp [results,results9,go_sem,dM,dN,dO,dP,dQ,dR,dS,dT,dU,dV,bC,bD]) rfl ⟨⟨f.code,t.name,f.row,f.other⟩,λ_=>.inr ⟨c,i,hlt,by rw [HN.o];exact hli,by rw [bM.o];exact HZ.o,?_,?_⟩,λh=>absurd bR.o (by rw [h];decide),AU f.code t.name f.row Z T p4 U f.other q3 V q4 Y,rfl,?_,N.o⟩
    ·show (⟨_,_,_,_⟩:Ft)=⟨(cf c i).code,((s.tables[i]?).getD Tbl.zero).name,(cf c i).row,(cf c i).other⟩
     rw [bM.o,fG.o];rfl
    ·intro c' i' h1 O
     rcases O with O | ⟨rfl,O⟩
     ·exact HI.o c' i' O (by rw [<- HN.o];exact h1)
     exact HJ.o i' O
    obtain ⟨c1,c2,aL,_,O,h3⟩:=fA.o
    have cL:c1=[.int .i64 f.row.kind,.int .i64 f.row.n,.string ⟨f.row.s.toArray⟩,.slice Z f.row.names.length T,.slice p4 f.row.kids.length U]/\c2=[.int .i64 f.other.kind,.int .i64 f.other.n,.string ⟨f.other.s.toArray⟩,.slice q3 f.other.names.length V,.slice q4 f.other.kids.length Y]:=by
     have e1:=O.length;have e2:=h3.length
     match c1,e1,c2,e2,aL with
     | [_,_,_,_,_],_,[_,_,_,_,_],_,aL=>
      simp only [List.cons_append,List.nil_append,List.cons.injEq] at aL
      obtain ⟨-,-,rfl,rfl,rfl,rfl,rfl,rfl,rfl,rfl,rfl,rfl,-⟩:=aL
      exact ⟨rfl,rfl⟩
    exact ⟨_,_,rfl,gO.o,cL.1 ▸ O,cL.2 ▸ h3⟩
   obtain rfl:i=n:=Ia
   have hM:¬ (i:Int)<(i:Int):=Ia
   go_wp2_with fail
   go_roundw
   case measure=>simp [intOf];omega
   case rel=>
    refine ⟨c+1,Ia,by go_num,aE.o,(show Aside _ from λc' i' jI eQ=>?_)⟩
    by_cases e:c'=c
    ·subst e;exact HJ.o i' eQ
    exact HI.o c' i' Ia eQ
  obtain rfl:c=5:=Ia
  have A:=Qq (kB bP.o bT.o)
  have aD:=Qq (aY.o.trans (bP.o.mono aY.o.size))
  have rz:=λj=>Qn _ _ j _ _ A.o
  have rr:=λj=>Qk _ _ j _ _ _ A.o
  obtain ⟨eA,eB,eC,eD,eE,eF,eG,eH,eI,eJ,bE,bF⟩:=AJ rz
  obtain ⟨aM,aN,aO,aP,aQ,aR,aS,aT,aU,aV,I,J⟩:=AJ rr
  simp only [Qf,Qg,Qh] at aM aN aO aP aQ aR aS aT aU aV I J
  clear rz rr
  go_wp2_with fail
  show bodyPost _ _ _ _ _ (Y9 w6 (w+1+1) Ic Ig Ic Ic Ig Ie Ie Ic Ic Ig Ie Ie)
  refine Q7 (v:=.agg zF) (by simp [results,results9,go_sem,Ya A.o]) rfl ⟨Ft.zero,λ_=>.inl ⟨rfl,λc i hc hi=>HI.o c i hc (by rw [<- HN.o];exact hi)⟩,λh=>absurd bR.o (by rw [h];decide),[Ic,Ig,Ic,Ic,Ig,Ie,Ie,Ic,Ic,Ig,Ie,Ie],rfl,Kt _ _,Y1 aD.o Ia⟩
structure Rr (us:List Sm) (t:Tbl) (rows:List Val) (p2 p5:Val->Bool) (K:Val->List Int):Prop where
 srt:Srt Dy t.columns
 few:t.columns.length<=19
 some:t.columns≠[]
 typed:∀ x ∈ rows,Y7 x/\Fv us x (Mi t) (p2 x)
 keys:(∀ x ∈ rows,p2 x=true)->H9 t rows K
 many:rows.length<=100000
 key:t.key.length<=1000
 check:(∀ x ∈ rows,p2 x=true)->∀ x ∈ rows,Ec t x (p5 x)
def cfOf (s:Sc) (l:List Rel) (p2 p5:Nat->Val->Bool) (K:Nat->Val->List Int) (c i:Nat):Ft:=
 let rows:=(l.getD i ⟨[],[]⟩).rows
 match c with
 | 0=>G7 rows
 | 1=>X9 9 (p2 i) rows
 | 2=>Uy rows (ust rows.length (rows.map λr=>kb (K i r)) rows.length)
 | 3=>Yf s l rows (s.tables.getD i Tbl.zero).refs
 | _=>X9 13 (p5 i) rows
theorem B1 {code:Int} (hc:code≠0) {p:Val->Bool} {rows:List Val} (h:(X9 code p rows).code=0):∀ x ∈ rows,p x=true:=by
 unfold X9 at h
 intro x hx
 cases hf:rows.findIdx? (λr=>!p r) with
 | none=>
  have:=List.findIdx?_eq_none_iff.1 hf x hx
  simpa using this
 | some i=>
  rw [hf] at h
  exact absurd h hc
theorem conOk_of (w:World) (S0 S1:Nat->Prop) (s:Sc) (cs:List Value) (lv:Value) (l:List Rel) (p2 p5:Nat->Val->Bool) (K:Nat->Val->List Int) (hs:Ve S0 w cs s) (hl:Sl Yk S1 w lv l) (hkw:Xs w)
  (hkey:∀ t ∈ s.tables,t.key.length<=1000) (hok:∀ (i:Nat) (t:Tbl) (r:Rel),s.tables[i]?=some t->l[i]?=some r->Rr s.sums t r.rows (p2 i) (p5 i) (K i)):ConOk w s cs lv l (cfOf s l p2 p5 K):=by
 intro c hc i t r T hr J B C W G rv hb hB hC A D
 have I:=hok i t r T hr
 have M:(l.getD i ⟨[],[]⟩).rows=r.rows:=by rw [Qs,hr];rfl
 have h2:s.tables.getD i Tbl.zero=t:=by rw [Qs,T];rfl
 have Y:=hs.below hb
 have O:(cfOf s l p2 p5 K 1 i).code=0->∀ x ∈ r.rows,p2 i x=true:=λh x hx=>by
  have h':(X9 9 (p2 i) (l.getD i ⟨[],[]⟩).rows).code=0:=h
  rw [M] at h'
  exact B1 Ih h' x hx
 obtain ⟨uv,tv,rfl,hu,Z⟩:=hs
 have N:W.cell? ⟨B,0,none⟩=some uv:=by rw [Qk _ _ _ _ _ _ hB];rfl
 have V:W.cell? ⟨B,1,none⟩=some tv:=by rw [Qk _ _ _ _ _ _ hB];rfl
 match c,hc with
 | 0,_=>
  show Calls _ _ #[G,rv] W (G5 _ W (G7 (l.getD i ⟨[],[]⟩).rows))
  rw [M]
  exact con1_any _ _ _ t G rv r.rows W A D
 | 1,_=>
  show Calls _ _ #[G,rv,Iv B] W (G5 _ W (X9 9 (p2 i) (l.getD i ⟨[],[]⟩).rows))
  rw [M]
  obtain ⟨ps,U,rfl,_⟩:=hu.len
  exact con2_any s.sums B _ _ ps _ U t G rv r.rows (p2 i) W N A D ((hu.below hb).mono (λb hb _=>hb)) I.srt I.few I.some I.typed (hkw.below hb)
 | 2,_=>
  show Calls _ _ #[G,rv] W (G5 _ W (Uy (l.getD i ⟨[],[]⟩).rows (ust (l.getD i ⟨[],[]⟩).rows.length ((l.getD i ⟨[],[]⟩).rows.map λr=>kb (K i r)) (l.getD i ⟨[],[]⟩).rows.length)))
  rw [M]
  exact con3_any _ _ t G rv r.rows (K i) W A D (I.keys (O (J 1 i Ih (Qj T).1))) I.many I.key
 | 3,_=>
  show Calls _ _ #[G,rv,Iv B,Iv C] W (G5 _ W (Yf s l (l.getD i ⟨[],[]⟩).rows (s.tables.getD i Tbl.zero).refs))
  rw [M,h2]
  exact con4_any B C S0 S1 _ _ s uv tv lv l t G rv r.rows W N V hC Y (hl.below hb) A D hkey
 | 4,_=>
  show Calls _ _ #[G,rv] W (G5 _ W (X9 13 (p5 i) (l.getD i ⟨[],[]⟩).rows))
  rw [M]
  exact con5_any _ _ t G rv r.rows (p5 i) W A D (hkw.below hb) (I.check (O (J 1 i Ih (Qj T).1)))
theorem A8 (S0 S1:Nat->Prop) (s:Sc) (cs:List Value) (lv:Value) (l:List Rel) (p2 p5:Nat->Val->Bool) (K:Nat->Val->List Int) (w:World) (hs:Ve S0 w cs s) (hl:Sl Yk S1 w lv l) (hkw:Xs w)
  (hkey:∀ t ∈ s.tables,t.key.length<=1000) (hok:∀ (i:Nat) (t:Tbl) (r:Rel),s.tables[i]?=some t->l[i]?=some r->Rr s.sums t r.rows (p2 i) (p5 i) (K i)):
  Calls prog 9 #[cs,lv] w (Jq w s l (cfOf s l p2 p5 K)):=
 Qqw S0 S1 s cs lv l w hs hl _ (conOk_of w S0 S1 s cs lv l p2 p5 K hs hl hkw hkey hok)
theorem U2 {code:Int} {p:Val->Bool} {rows:List Val} (h:∀ x ∈ rows,p x=true):X9 code p rows=Ft.zero:=by
 unfold X9
 rw [List.findIdx?_eq_none_iff.2 (λx hx=>by simp [h x hx])]
theorem Nf {rows:List Val} (h:rows.length<=256):G7 rows=Ft.zero:=by unfold G7;rw [if_neg Ia]
theorem Pj (n:Nat) (ks:List Bs) (hd:∀ (i j:Nat) (a b:Bs),i<j->ks[i]?=some a->ks[j]?=some b->a≠b):∀ i,i<=ks.length->ust n ks i=(n,0)
 | 0,_=>rfl
 | i+1,hi=>by
  show Vs (ks.take i) (ust n ks i) (ks.getD i [])=(n,0)
  rw [Pj n ks hd i Ia]
  unfold Vs
  have hk:ks[i]?=some ks[i]:=Qx Ia
  have:Yn (ks.take i) (ks.getD i [])=none:=by
   unfold Yn
   rw [List.findIdx?_eq_none_iff]
   intro x hx
   obtain ⟨j,A⟩:=Zk hx
   have D:=(Qj A).1
   rw [Qm] at D
   rw [List.getElem?_take_of_lt Ia] at A
   have:=hd j i x ks[i] Ia A hk
   rw [Qs,hk]
   simpa using this
  rw [this]
theorem Fw {rows:List Val} {ks:List Bs} (hl:ks.length=rows.length) (hd:∀ (i j:Nat) (a b:Bs),i<j->ks[i]?=some a->ks[j]?=some b->a≠b):Uy rows (ust rows.length ks rows.length)=Ft.zero:=by
 rw [Pj _ _ hd _ Ia]
 unfold Uy
 rw [if_pos rfl]
theorem Xh {P:Program} (k:Nat) (w:World) (dT sT ty elem:TypeId) (g o dLen dCap:Nat) (a:Addr) (sLen sCap:Nat) (cur:Array Value) (t:TypeId) (cs:List Value)
  (hu:P.underlying dT=some (.slice elem)) (hs:(P.info? elem).map (·.size)=some k)
  (hg:w.heap[g]?=some (.cells cur t (0,0))) (hn:cs.length=Nat.min sLen dLen*k)
  (hsrc:∀ j v,cs[j]?=some v->w.cell? (a.add j)=some v) (hfit:o+cs.length<=cur.size) (h1:∀ v ∈ cs,v.oneCell'=true):
  (Builtin.copy_ #[dT,sT] ty #[Io g o dLen dCap,.slice (some a) sLen sCap]).run P w=
   .ok (goInt (Nat.min sLen dLen)) (w.setRow g (cur.toList.take o++cs++cur.toList.drop (o+cs.length)).toArray):=by
 have hl:=run_loadCells_list (P:=P) w a cs hsrc
 have A:=run_storeCells_at P g o t cs 0 cur w hg (by simpa using hfit) h1
 cases hq:P.info? elem with
 | none=>simp [hq] at hs
 | some i=>
  have hi:i.size=k:=by simpa [hq] using hs
  simp [Builtin.copy_,run_underlying hu,Builtin.lenOf,Builtin.firstCells,sizeOf,typeInfo,hq,hi,<- hn,hl,A]
theorem insRoom (S:Nat->Prop) (B:Nat) (w:World) (g n cap i:Nat) (xs:List Val) (css:List (List Value)) (y:Val) (cy:List Value) (qb qo c:Nat) (hO:Own Zc 36 S B w (.slice (some ⟨g,0,none⟩) n cap) xs css) (hn:xs.length=n) (hi:i<n) (hroom:n+1<=cap) (hqb:qb≠g)
  (hy:Z9 (But S (.slice (some ⟨g,0,none⟩) n cap)) w cy y) (hcy:∀ j u,cy[j]?=some u->w.cell? ⟨qb,qo+j,none⟩=some u) (hl:n<=100000)
  (tA:TypeId) (kA:Nat) (hsa:w.shape? qb=some (tA,kA)) (hfa:w.frozen? ⟨qb,qo,none⟩=false) (hfe:w.frozen? ⟨qb,kA,none⟩=false):
  Calls prog 62 #[Io g 0 n cap,i,Io qb qo 1 c] w (λe w'=>e=.returned (.slice (some ⟨g,0,none⟩) (n+1) cap)/\∃ X,w'.heap[g]?=some (.cells X 36 (0,0))/\X.size=cap*5/\X.toList.take ((n+1)*5)=(css.take i).flatten++cy++(css.drop i).flatten/\(∀ k,k≠g->w'.heap[k]?=w.heap[k]?)/\w'=w.heap.size/\w.grownBy w' (some g)):=by
 obtain ⟨i0,j1,j2,j3,j4⟩:=Y8 (P:=prog) (t:=36) (z:=.agg zV) (n:=5) (b:=80) Ir
 have mixed:prog.follows .mixedOrders=true:=Ir
 have bB:(prog.info? 36).map (·.size)=some 5:=by rw [j1];simp [j3]
 rcases hO.row.2 with ⟨h,_⟩ | ⟨g',bK,I,hv,bR,aE,bT,bQ,aB,aC⟩
 ·cases h
 simp only [Qr,Zv,Addr.mk.injEq] at hv
 obtain ⟨⟨rfl,-,-⟩,-,rfl⟩:=hv
 have aN:=hO.cs.all
 have aO:=hO.cs.flat
 have aX:css.length=n:=by rw [hO.cs.len,hn]
 obtain ⟨A,hA⟩:=eX ((css.take i).flatten)
 obtain ⟨D,hD⟩:=eX ((css.drop i).flatten)
 have aL:css.flatten=A++D:=by rw [<- hA,<- hD,<- List.flatten_append,List.take_append_drop]
 have aM:A.length=i*5:=by rw [<- hA,V0 (λc hc=>aN c (List.mem_of_mem_take hc)),Qm,aX,Z0 Ia];rfl
 have Y:D.length=(n - i)*5:=by rw [<- hD,V0 (λc hc=>aN c (Zw hc)),Zq,aX];rfl
 have N:∀ j v,(A++D)[j]?=some v->w.cell? ⟨g,j,none⟩=some v:=by
  intro j v O
  rw [<- aL,<- aC,List.getElem?_take] at O
  split at O
  ·rw [Qk w g j I _ (0,0) aE];simpa using O
  cases O
 have aT:∀ v ∈ D,v.oneCell'=true:=by
  intro u hu
  rw [<- hD] at hu
  obtain ⟨cc,aY,bI⟩:=List.mem_flatten.1 hu
  obtain ⟨j,O⟩:=Zk (Zw aY)
  have bF:=(Qj O).1
  exact Xd _ w cc _ (hO.cs.R j cc _ O (Qx (by rw [<- hO.cs.len];exact bF))) u bI
 have G:cy.length=5:=Zc.len hy
 have aU:∀ v ∈ cy,v.oneCell'=true:=Xd _ w cy y hy
 have bH:∀ lb cb,(callFunc 104 #[Io qb qo 1 c,Io g ((i+1)*5) lb cb]).run prog w=.ok (.value (.bool false)) w:=λlb cb=>by
  rw [run_callFunc_extern func104 Ir Ir Ir (e:=Extern.SlicesOverlaps.overlaps #[34,34] #[4]) Ir,
   Lib.run_overlaps_apart w 34 4 36 underlying34 5 sizeOf36 ⟨qb,qo,none⟩ ⟨g,(i+1)*5,none⟩ 1 c lb cb hqb tA 36 kA (cap*5) hsa (by unfold World.shape?;rw [aE];simp [aB];rfl) Ia hfa hfe]
  rfl
 have bG:Zc.k=5:=rfl
 have aR:Nat.min (n+1 - i) (n+1 - (i+1))=n - i:=(show min (n+1 - i) (n+1 - (i+1))=n - i by omega)
 have aS:Nat.min 1 (n+1 - i)=1:=(show min 1 (n+1 - i)=1 by omega)
 rw [bG] at aB aC aO
 rw [hn] at aC
 have M:I.toList.length=cap*5:=by simpa using aB
 have aG:∀ j v,D[j]?=some v->w.cell? ⟨g,i*5+j,none⟩=some v:=λj v O=>N _ v (by rw [Zx Ia,aM,Nat.add_sub_cancel_left];exact O)
 obtain ⟨U,Z⟩:∃ U,U=(I.toList.take ((i+1)*5)++D++I.toList.drop ((i+1)*5+D.length)).toArray:=⟨_,rfl⟩
 have aI:∀ ty dc sc,(Builtin.copy_ #[34,34] ty #[.slice (some ⟨g,(i+1)*5,none⟩) (n+1 - (i+1)) dc,Io g (i*5) (n+1 - i) sc]).run prog w.drew=.ok (goInt (n - i:Nat)) (w.drew.setRow g U):=λty dc sc=>by
  have h:=Xh (P:=prog) 5 w.drew 34 34 ty 36 g ((i+1)*5) (n+1 - (i+1)) dc ⟨g,i*5,none⟩ (n+1 - i) sc I 36 D underlying34 bB aE (by rw [Y,aR]) (λj v O=>by rw [Addr.add_lit];exact aG j v O) (by simp only [Y,aB];omega) aT
  rw [<- Z,aR] at h
  exact h
 obtain ⟨T,J⟩:∃ T,T=w.drew.setRow g U:=⟨_,rfl⟩
 have aP:T.heap[g]?=some (.cells U 36 (0,0)):=by rw [J];exact setRow_heap _ _ _ _ _ _ aE
 have aF:∀ k,k≠g->T.heap[k]?=w.heap[k]?:=λk hk=>by rw [J,setRow_other _ _ _ _ hk];rfl
 rw [<- J] at aI
 have aA:U.toList.length=cap*5:=by rw [Z];simp only [Ql,Qm,Zq,M,Y];rw [Z0 Ia];omega
 have aH:U.size=cap*5:=by simpa using aA
 obtain ⟨V,aD⟩:∃ V,V=(U.toList.take (i*5)++cy++U.toList.drop (i*5+cy.length)).toArray:=⟨_,rfl⟩
 have aZ:∀ ty dc,(Builtin.copy_ #[34,34] ty #[Io g (i*5) (n+1 - i) dc,Io qb qo 1 c]).run prog T=.ok (goInt 1) (T.setRow g V):=λty dc=>by
  have h:=Xh (P:=prog) 5 T 34 34 ty 36 g (i*5) (n+1 - i) dc ⟨qb,qo,none⟩ 1 c U 36 cy underlying34 bB aP (by rw [G,aS]) (λj v O=>by rw [Addr.add_lit];exact (World.cell?_of_block (aF qb hqb)).trans (hcy j v O)) (by rw [G,aH];omega) aU
  rw [<- aD,aS] at h
  exact h
 have aJ:(T.setRow g V).heap[g]?=some (.cells V 36 (0,0))/\V.size=cap*5/\V.toList.take ((n+1)*5)=A++cy++D/\(∀ k,k≠g->(T.setRow g V).heap[k]?=w.heap[k]?)/\(T.setRow g V).heap.size=w.heap.size/\w.grownBy (T.setRow g V) (some g):=by
  have bA:(T.setRow g V).heap.size=w.heap.size:=by rw [J];simp [World.setRow]
  refine ⟨setRow_heap _ _ _ _ _ _ aP,?_,?_,λk hk=>(setRow_other _ _ _ _ hk).trans (aF k hk),bA,⟨by rw [J];rfl,by rw [J];rfl,by rw [J];rfl,by rw [bA];exact Q9 _,λk _ hk=>(setRow_other _ _ _ _ (λe=>hk (by rw [e]))).trans (aF k (λe=>hk (by rw [e])))⟩⟩
  ·rw [aD];simp only [List.size_toArray,Ql,Qm,Zq,aA,G];rw [Z0 Ia];omega
  have bE:I.toList.take (i*5)=A:=by
   have:(I.toList.take (n*5)).take (i*5)=A:=by rw [aC,aL,Z1 Ia,Zj Ia]
   rwa [List.take_take,Z0 Ia] at this
  have e1:U.toList.take (i*5)=A:=by
   rw [Z,List.toList_toArray,List.append_assoc,Z1 (by rw [Qm,M,Z0 Ia];omega),List.take_take,Z0 Ia,bE]
  have e2:U.toList.drop (i*5+cy.length)=D++I.toList.drop ((i+1)*5+D.length):=by
   rw [Z,List.toList_toArray,List.append_assoc,G,List.drop_append_of_le_length (by rw [Qm,M,Z0 Ia];omega),Qu (by rw [Qm,M,Z0 Ia];omega),List.nil_append]
  rw [aD,List.toList_toArray,e1,e2,<- List.append_assoc,Z1 (by simp only [Ql,aM,G,Y];omega),Zj (by simp only [Ql,aM,G,Y];omega)]
 rw [show css.take i=css.take i from rfl] at hA
 rw [hA,hD]
 have HE:=Qq aJ
 clear aJ J Z aD aA aH aR aS aG N aC aB M aL hA hD hO aN hy hcy aT aU aF aP
 have bY:¬ ((i:Int)=(n:Int)):=Ia
 have bW:IntKind.i64.wrap ((i:Int)+1)=(i:Int)+1:=by rw [IntKind.wrap_i64];omega
 have bX:IntKind.i64.wrap ((n:Int)+1)=(n:Int)+1:=by rw [IntKind.wrap_i64];omega
 have bU:¬ ((cap:Int)<(n:Int)+1):=Ia
 have bM:(0:Int)<=(i:Int)+1:=Ia
 have bL:(0:Int)<=(i:Int):=Ia
 have bN:¬ (cap=i+1):=Ia
 have bO:¬ (cap=i):=Ia
 have bV:((i:Int)+1).toNat=i+1:=Ia
 have bS:i<=n:=Ia
 have bP:(i:Int)<=(n:Int)+1:=Ia
 go_enter func62,ntmps62
 go_wp2_with (simp only [bH])
 go_region_law_o (refine step_copy_runI rfl _ _ 34 34 rfl _ _ (by simp [Act.eval,Act.put]) (by simp [Act.eval,Act.put]) (aI _ (cap - (i+1)) (cap - i)) ?_)
 go_wp2_with (at_builtin;refine wpList_copy_runI _ rfl _ _ 34 34 rfl _ _ (by simp [Act.eval,Act.put]) (by simp [Act.eval,Act.put]) (aZ _ (cap - i)) ?_)
 go_ret
 exact ⟨rfl,_,HE.o⟩
theorem insGrow (S:Nat->Prop) (B:Nat) (w:World) (g n i:Nat) (xs:List Val) (css:List (List Value)) (y:Val) (cy:List Value) (qb qo c:Nat) (hO:Own Zc 36 S B w (.slice (some ⟨g,0,none⟩) n n) xs css) (hn:xs.length=n) (hi:i<n)
  (hy:Z9 (But S (.slice (some ⟨g,0,none⟩) n n)) w cy y) (hcy:∀ j u,cy[j]?=some u->w.cell? ⟨qb,qo+j,none⟩=some u) (hl:n<=100000)
  (hqw:qb<w):
  Calls prog 62 #[Io g 0 n n,i,Io qb qo 1 c] w (λe w'=>∃ G,e=.returned (.slice (some ⟨w,0,none⟩) (n+1) G)/\n+1<=G/\G<=maxLen/\∃ X,w'.heap[w.heap.size]?=some (.cells X 36 (0,0))/\X.size=G*5/\X.toList.take ((n+1)*5)=(css.take i).flatten++cy++(css.drop i).flatten/\(∀ k,k<w.heap.size->w'.heap[k]?=w.heap[k]?)/\w'=w.heap.size+1/\w.grownBy w' (some g)):=by
 obtain ⟨i0,j1,j2,j3,j4⟩:=Y8 (P:=prog) (t:=36) (z:=.agg zV) (n:=5) (b:=80) Ir
 have mixed:prog.follows .mixedOrders=true:=Ir
 have bX:(prog.info? 36).map (·.size)=some 5:=by rw [j1];simp [j3]
 rcases hO.row.2 with ⟨h,_⟩ | ⟨g',cG,bH,hv,cQ,aZ,cS,cP,aV,aM⟩
 ·cases h
 simp only [Qr,Zv,Addr.mk.injEq] at hv
 obtain ⟨⟨rfl,-,-⟩,-,rfl⟩:=hv
 have aU:=hO.cs.all
 have aW:=hO.cs.flat
 have bP:css.length=n:=by rw [hO.cs.len,hn]
 obtain ⟨A,hA⟩:=eX ((css.take i).flatten)
 obtain ⟨D,hD⟩:=eX ((css.drop i).flatten)
 have bL:css.flatten=A++D:=by rw [<- hA,<- hD,<- List.flatten_append,List.take_append_drop]
 have U:A.length=i*5:=by rw [<- hA,V0 (λc hc=>aU c (List.mem_of_mem_take hc)),Qm,bP,Z0 Ia];rfl
 have aD:D.length=(n - i)*5:=by rw [<- hD,V0 (λc hc=>aU c (Zw hc)),Zq,bP];rfl
 have M:∀ j v,(A++D)[j]?=some v->w.cell? ⟨g,j,none⟩=some v:=by
  intro j v N
  rw [<- bL,<- aM,List.getElem?_take] at N
  split at N
  ·rw [Qk w g j bH _ (0,0) aZ];simpa using N
  cases N
 have bI:∀ v ∈ D,v.oneCell'=true:=by
  intro u hu
  rw [<- hD] at hu
  obtain ⟨cc,aF,bF⟩:=List.mem_flatten.1 hu
  obtain ⟨j,N⟩:=Zk (Zw aF)
  have bB:=(Qj N).1
  exact Xd _ w cc _ (hO.cs.R j cc _ N (Qx (by rw [<- hO.cs.len];exact bB))) u bF
 have J:cy.length=5:=Zc.len hy
 have bJ:∀ v ∈ cy,v.oneCell'=true:=Xd _ w cy y hy
 have cE:Zc.k=5:=rfl
 have aK:Nat.min (n+1 - i) (n+1 - (i+1))=n - i:=(show min (n+1 - i) (n+1 - (i+1))=n - i by omega)
 have aL:Nat.min 1 (n+1 - i)=1:=(show min 1 (n+1 - i)=1 by omega)
 rw [cE] at aV aM aW
 rw [hn] at aM
 have bR:bH.toList.length=n*5:=by simpa using aV
 have aN:∀ j v,D[j]?=some v->w.cell? ⟨g,i*5+j,none⟩=some v:=λj v N=>M _ v (by rw [Zx Ia,U,Nat.add_sub_cancel_left];exact N)
 have cB:∀ v ∈ A,v.oneCell'=true:=by
  intro u hu
  rw [<- hA] at hu
  obtain ⟨cc,aF,bF⟩:=List.mem_flatten.1 hu
  obtain ⟨j,N⟩:=Zk (List.mem_of_mem_take aF)
  have bB:=(Qj N).1
  exact Xd _ w cc _ (hO.cs.R j cc _ N (Qx (by rw [<- hO.cs.len];exact bB))) u bF
 have bS:g<w.heap.size:=(Array.getElem?_eq_some_iff.1 aZ).1
 have aS:(Builtin.firstCells i0.size i (.slice (some ⟨g,0,none⟩) i n)).run prog w.drew=.ok A.toArray w.drew:=by
  rw [j3]
  exact run_firstCells_some w.drew 5 i ⟨g,0,none⟩ i n A U (λj v N=>by
   rw [Addr.add_lit,Nat.zero_add]
   exact M j v (by rw [List.getElem?_append_left (Qj N).1];exact N))
 have bA:i+(n+1 - i)=n+1:=Ia
 have bT:(n:Int)+1 - (i:Int)=((n+1 - i:Nat):Int):=Ia
 obtain ⟨G,hG⟩:∃ G,G=grownCap w (n+1) n 36:=⟨_,rfl⟩
 obtain ⟨I,Z⟩:∃ I:Array Value,I=A.toArray++Builtin.zeroCells (Value.agg zV).cells (n+1 - i)++Builtin.zeroCells (Value.agg zV).cells (G - (n+1)):=⟨_,rfl⟩
 have bU:∀ ty,(Builtin.append_ #[34,3] ty #[Io g 0 i n,.int .i64 ((n:Int)+1 - (i:Int))]).run prog w=.ok (.slice (some ⟨w,0,none⟩) (n+1) G) (w.drew.alloc (.cells I 36)):=λty=>by
  have h:=Lib.run_append_grow_zeros w 34 3 ty 36 i0 _ .i64 .i64 underlying34 underlying3 j1 j2 (some ⟨g,0,none⟩) i n A aS (n+1 - i) Ia (by rw [j3];decide) Ia Ia (by rw [j4];omega) (by rw [j4,bA];exact growslice_fits Ia Ia)
  rw [bA,<- hG,<- Z] at h
  rw [bT]
  exact h
 have cC:n+1<=G:=by rw [hG];exact grownCap_ge w _ _ _
 have bN:G<=maxLen:=by rw [hG];exact grownCap_le_maxLen w (n+1) n _ (by unfold maxLen;omega)
 have aT:I.size=G*5:=by
  rw [Z]
  simp [Builtin.zeroCells,Value.cells,U]
  omega
 have bO:I.toList.take (i*5)=A:=by
  rw [Z]
  simp only [Array.toList_append,List.append_assoc]
  rw [Z1 Ia,Zj Ia]
 obtain ⟨W1,aA⟩:∃ W1,W1=w.drew.alloc (.cells I 36):=⟨_,rfl⟩
 rw [<- aA] at bU
 have aX:W1.heap[w.heap.size]?=some (.cells I 36 (0,0)):=by rw [aA];exact Qw w.drew _
 have bC:∀ k,k<w.heap.size->W1.heap[k]?=w.heap[k]?:=λk hk=>by rw [aA];exact Go.heap_alloc_old w.drew _ hk
 have bV:W1=w.heap.size+1:=by rw [aA];simp
 have O:w.grownBy W1 (some g):=by rw [aA];exact ⟨rfl,rfl,rfl,Ib,λk hk _=>Go.heap_alloc_old w.drew _ hk⟩
 clear aA
 have aK:Nat.min 1 (n+1 - i)=1:=(show min 1 (n+1 - i)=1 by omega)
 have aL:Nat.min (n - i) (n+1 - (i+1))=n - i:=(show min (n - i) (n+1 - (i+1))=n - i by omega)
 obtain ⟨X1,aI⟩:∃ X1,X1=(I.toList.take (i*5)++cy++I.toList.drop (i*5+cy.length)).toArray:=⟨_,rfl⟩
 have aQ:∀ ty,(Builtin.copy_ #[34,34] ty #[Io w (i*5) (n+1 - i) (G - i),Io qb qo 1 c]).run prog W1=.ok (goInt 1) (W1.setRow w X1):=λty=>by
  have h:=Xh (P:=prog) 5 W1 34 34 ty 36 w (i*5) (n+1 - i) (G - i) ⟨qb,qo,none⟩ 1 c I 36 cy underlying34 bX aX (by rw [J,aK]) (λj v N=>by rw [Addr.add_lit];exact (World.cell?_of_block (bC qb hqw)).trans (hcy j v N)) (by rw [J,aT];omega) bJ
  rw [<- aI,aK] at h
  exact h
 have aE:X1.toList.length=G*5:=by
  have:I.toList.length=G*5:=by simpa using aT
  rw [aI];simp only [Ql,Qm,Zq,this,J];rw [Z0 Ia];omega
 have aP:X1.size=G*5:=by simpa using aE
 have aO:X1.toList.take (i*5+5)=A++cy:=by
  rw [aI,List.toList_toArray,bO,Z1 (by simp only [Ql,U,J];omega),Zj (by simp only [Ql,U,J];omega)]
 obtain ⟨Y,V⟩:∃ Y,Y=W1.setRow w X1:=⟨_,rfl⟩
 rw [<- V] at aQ
 have aY:Y.heap[w.heap.size]?=some (.cells X1 36 (0,0)):=by rw [V];exact setRow_heap _ _ _ _ _ _ aX
 have bD:∀ k,k<w.heap.size->Y.heap[k]?=w.heap[k]?:=λk hk=>by rw [V,setRow_other _ _ _ _ Ia];exact bC k hk
 have bE:Y=w.heap.size+1:=by rw [V,<- bV];simp [World.setRow]
 have T:w.grownBy Y (some g):=by rw [V];exact ⟨O.os,O.tape,O.output,by rw [<- V,bE];omega,λk hk h=>(setRow_other _ _ _ _ Ia).trans (O.block k hk h)⟩
 clear V
 obtain ⟨X2,aJ⟩:∃ X2,X2=(X1.toList.take ((i+1)*5)++D++X1.toList.drop ((i+1)*5+D.length)).toArray:=⟨_,rfl⟩
 have bQ:∀ ty,(Builtin.copy_ #[34,34] ty #[.slice (some ⟨w,(i+1)*5,none⟩) (n+1 - (i+1)) (G - (i+1)),Io g (i*5) (n - i) (n - i)]).run prog Y.drew=.ok (goInt (n - i:Nat)) (Y.drew.setRow w X2):=λty=>by
  have h:=Xh (P:=prog) 5 Y.drew 34 34 ty 36 w ((i+1)*5) (n+1 - (i+1)) (G - (i+1)) ⟨g,i*5,none⟩ (n - i) (n - i) X1 36 D underlying34 bX aY (by rw [aD,aL]) (λj v N=>by rw [Addr.add_lit];exact (World.cell?_of_block (w:=w) (bD g bS)).trans (aN j v N)) (by rw [aD,aP];omega) bI
  rw [<- aJ,aL] at h
  exact h
 have aR:(Y.drew.setRow w X2).heap[w.heap.size]?=some (.cells X2 36 (0,0))/\X2.size=G*5/\X2.toList.take ((n+1)*5)=A++cy++D/\(∀ k,k<w.heap.size->(Y.drew.setRow w X2).heap[k]?=w.heap[k]?)/\(Y.drew.setRow w X2).heap.size=w.heap.size+1/\w.grownBy (Y.drew.setRow w X2) (some g):=by
  have bW:(Y.drew.setRow w X2).heap.size=w.heap.size+1:=by rw [<- bE];simp [World.setRow]
  refine ⟨setRow_heap _ _ _ _ _ _ aY,?_,?_,λk hk=>(setRow_other _ _ _ _ Ia).trans (bD k hk),bW,⟨T.os,T.tape,T.output,by rw [bW];omega,λk hk h=>(setRow_other _ _ _ _ Ia).trans (T.block k hk h)⟩⟩
  ·rw [aJ];simp only [List.size_toArray,Ql,Qm,Zq,aE,aD];rw [Z0 Ia];omega
  rw [aJ,List.toList_toArray,show (i+1)*5=i*5+5 by omega,aO,Z1 (by simp only [Ql,U,J,aD];omega),Zj (by simp only [Ql,U,J,aD];omega)]
 rw [hA,hD]
 have HE:=Qq aR
 have cX:¬ ((i:Int)=(n:Int)):=Ia
 have cU:IntKind.i64.wrap ((i:Int)+1)=(i:Int)+1:=by rw [IntKind.wrap_i64];omega
 have cV:IntKind.i64.wrap ((n:Int)+1)=(n:Int)+1:=by rw [IntKind.wrap_i64];omega
 have cW:IntKind.i64.wrap ((n:Int)+1 - (i:Int))=(n:Int)+1 - (i:Int):=by rw [IntKind.wrap_i64];omega
 have cJ:(0:Int)<=(i:Int)+1:=Ia
 have cI:(0:Int)<=(i:Int):=Ia
 have cK:¬ (n=i):=Ia
 have cM:¬ (G=i):=Ia
 have cN:¬ (G=i+1):=Ia
 have cT:((i:Int)+1).toNat=i+1:=Ia
 have cR:i<=n:=Ia
 have cL:(i:Int)<=(n:Int)+1:=Ia
 have cO:(i:Int)<=(n:Int):=Ia
 have cH:¬ (n=i):=Ia
 have cA:=Qq cC;have bZ:=Qq bN
 clear aR aI aJ aE aP aO aK aL aN M aM aV bR bL hA hD hO aU hy hcy bI bJ cB bC aX bD aY bV bE O T aT bO Z hG aS bA bT bN bS hqw aZ
 go_enter func62,ntmps62
 go_wp2_with (first
  | (at_builtin;refine Lib.wpList_append_run _ rfl _ _ _ _ rfl _ _ rfl rfl _ _ (bU _) ?_)
  | (at_builtin;refine wpList_copy_runI _ rfl _ _ 34 34 rfl _ _ (by simp [Act.eval,Act.put]) (by simp [Act.eval,Act.put]) (aQ _) ?_))
 go_region_law_o (refine step_copy_runI rfl _ _ 34 34 rfl _ _ (by simp [Act.eval,Act.put]) (by simp [Act.eval,Act.put]) (bQ _) ?_)
 go_wp2_with fail
 go_ret
 exact ⟨_,rfl,cA.o,bZ.o,_,HE.o⟩
end Go.Proofs.YtdpibdpbgokmoaaGreatDoor
