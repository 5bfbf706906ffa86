import Derived.Test.YtlanplhphiikjaaGreatDoorE23
import Derived.Test.YtlanplhphiikjaaGreatDoorE27
import Derived.Test.YtlanplhphiikjaaGreatDoorE29
set_option maxRecDepth 100000
set_option maxHeartbeats 400000000
namespace Go.Proofs.YtlanplhphiikjaaGreatDoor
open Go.RowKit Go.Shelf Go.Lib Tryz
def J6 (n:Nat) (cf:Nat->Nat->Ft) (nm:Nat->Bs) (f:Ft):Prop:=
 (f=Ft.zero/\∀ c i,c<5->i<n->(cf c i).code=0) \/
 ∃ c i,c<5/\i<n/\(cf c i).code≠0/\f=⟨(cf c i).code,nm i,(cf c i).row,(cf c i).other⟩/\∀ c' i',i'<n->(c'<c\/c'=c/\i'<i)->(cf c' i').code=0
def Fr:Nat->Nat
 | 0=>59
 | 1=>60
 | 2=>65
 | 3=>67
 | _=>69
def Dn (B C:Nat):Nat->Array Value
 | 1=>#[.pointer (some ⟨B,0,none⟩)]
 | 3=>#[.pointer (some ⟨B,0,none⟩),.pointer (some ⟨C,0,none⟩)]
 | _=>#[]
def ConOk (w:World) (s:Sc) (cs:List Value) (lv:Value) (l:List Rel) (cf:Nat->Nat->Ft):Prop:=
 ∀ c,c<5->∀ (i:Nat) (t:Tbl) (r:Rel),s.tables[i]?=some t->l[i]?=some r->(∀ c' i',c'<c->i'<s.tables.length->(cf c' i').code=0)->∀ (B C:Nat) (W:World) (ct:List Value) (rv:Value),Below w w W->W.heap[B]?=some (.cells cs.toArray 27 (0,0))->W.cell? ⟨C,0,none⟩=some lv ->
  Zl.R (fun b=>b<w) W ct t->Sl Zc (fun b=>b<w) W rv r.rows->Calls prog (Fr c) (#[.agg ct.toArray,rv]++Dn B C c) W (Gx (fun b=>b<w) W (cf c i))
def Ku (w:World) (s:Sc) (l:List Rel) (cf:Nat->Nat->Ft) (e:Ending) (w':World):Prop:=
 ∃ f,(Uc s l=true->J6 s.tables.length cf (fun i=>((s.tables[i]?).getD Tbl.zero).name) f)/\(Uc s l=false->f=⟨1,[],Val.zero,Val.zero⟩)/\Gx (fun b=>b<w) w f e w'
theorem Nl {w W:World} {o:Obj} (h:Below (w.alloc o).drew.heap.size (w.alloc o).drew W):W.heap[w.heap.size]?=some o:=
 kE h Qxz (by rw [heap_drew];exact Qw w o)
theorem Qzi (S0 S1:Nat->Prop) (s:Sc) (cs:List Value) (lv:Value) (l:List Rel) (w:World) (hs0:Vj S0 w cs s) (hl0:Sl Yx S1 w lv l) (cf:Nat->Nat->Ft) (hcon:ConOk w s cs lv l cf):
  Calls prog 25 #[cs,lv] w (Ku w s l cf):=by
 have hN:=Qq (fun W (hb:Below w w W)=>Am S0 S1 s cs lv l W (hs0.below hb) (hl0.below hb))
 obtain ⟨uv,tv,rfl,hW,hU⟩:=hs0
 have hu:Sl Ka (fun b=>b<w) w uv s.sums:=hW.mono (fun b hb _=>hb)
 have ht:Sl Zl (fun b=>b<w) w tv s.tables:=hU.mono (fun b hb _=>hb)
 have hl:Sl Yx (fun b=>b<w) w lv l:=hl0.mono (fun b hb _=>hb)
 obtain ⟨up,uc,rfl,_⟩:=hu.len
 obtain ⟨tp,tc,rfl,iW⟩:=ht.len
 obtain ⟨lp,lc,rfl,_⟩:=hl.len
 obtain ⟨HT,HL,gL⟩:=Qxn ht hl hcon
 clear hW hU hl0 hu ht hl hcon
 obtain ⟨nb,fQ⟩:=eX (Uc s l)
 rw [fQ] at hN
 have bS:=Qq fQ
 clear fQ
 cases nb with
 | false=>
  go_enter func25,ntmps25
  go_wp2_with fail
  refine (hN.out _ (U8 _ _ _ _)).mono ?_
  rintro e w1 ⟨rfl,aJ⟩
  have A:=Qq ((aJ.block (w+2) Qxz).trans (Yz w _ _ _))
  have aE:=Qq ((U8 w _ _ _).thn aJ)
  have rz:=fun j=>Qn _ _ j _ _ A.out
  have rr:=fun j=>Qk _ _ j _ _ _ A.out
  obtain ⟨eB,eC,eD,eE,eF,eG,eH,eI,eJ,eK,bF,bG⟩:=Qyq rz
  obtain ⟨aN,aO,aP,aQ,aR,aS,aT,aU,aV,aW,J,M⟩:=Qyq rr
  simp only [Qf,Qg,Qh] at aN aO aP aQ aR aS aT aU aV aW J M
  clear rz rr aJ
  go_wp2_with fail
  show bodyPost _ _ _ _ _ (Y9 w1 (w+1+1) (.int .i64 1) Qxd Qxc Qxc Qxd Qxe Qxe Qxc Qxc Qxd Qxe Qxe)
  refine Q7 (v:=.agg #[.int .i64 1,Qxd,Qxc,Qxc,Qxd,Qxe,Qxe,Qxc,Qxc,Qxd,Qxe,Qxe]) (by simp [results,results25,go_sem,Ya A.out]) rfl ⟨⟨1,[],Val.zero,Val.zero⟩,fun h=>absurd bS.out (by rw [h];decide),fun _=>rfl,[.int .i64 1,Qxd,Qxc,Qxc,Qxd,Qxe,Qxe,Qxc,Qxc,Qxd,Qxe,Qxe],rfl,⟨_,_,rfl,Qxz,Yw _ _,Yw _ _⟩,Yv aE.out Qvu⟩
 | true=>
  go_enter func25,ntmps25
  go_wp2_with (go_at_call 58;refine (hN.out _ (U8 _ _ _ _)).mono ?_;rintro e w1 ⟨rfl,aJ⟩)
  generalize fN:w1.alloc _=W3
  have cI:=eqB fN (Ze _ _)
  have fL:=eqH (b:=w1.heap.size) fN (Qw _ _)
  have jD:w.heap.size+3<=w1.heap.size:=by have:=aJ.size;simp at this;omega
  have gZ:=(aJ.block w (by simp;omega)).trans (Yc w _ _ _)
  have hE:=(aJ.block (w+1) Qxz).trans (Y8 w _ _ _)
  have hK:=(aJ.block (w+2) Qxz).trans (Yz w _ _ _)
  have gI:=Qq (cI.block w Qvu |>.trans gZ)
  have gJ:=Qq (cI.block (w+1) Qvu |>.trans hE)
  have bU:=Qq (cI.block (w+2) Qvu |>.trans hK)
  have iE:=Qq fL
  have aZ:=Qq (((U8 w _ _ _).thn aJ).thn cI)
  have hT:w1.heap.size<W3.heap.size:=Z8 fL
  clear fN cI fL aJ gZ hE hK
  have hR:l.length=s.tables.length:=by
   refine Decidable.byContradiction fun h=>?_
   have T:=bS.out
   unfold Uc at T
   rw [Ut _ _ _ (fun e=>h e.symm)] at T
   cases T
  have fE:=Qq hR
  clear hR
  obtain ⟨n,hn⟩:=eX (s.tables.length)
  rw [hn] at iW
  rw [hn] at fE
  rw [hn] at HT
  rw [hn]
  have HN:=Qq hn
  clear hn
  have mixed:(prog).follows .mixedOrders=true:=Qxx
  go_loopw [21] (fun i wr=>∃ c:Nat,c<=5/\i=.int .i64 c/\Below W3 W3 wr/\Aside (∀ c' i',c'<c->i'<n->(cf c' i').code=0)) (fun i _=>5 - (intOf i).toNat)
  case atStart=>exact ⟨0,Q8 _,rfl,Qz _ _,fun _ _ h=>absurd h (Z6 _)⟩
  obtain ⟨c,jK,rfl,hC,hI⟩:=hrel
  generalize h6:wr=w6 at *
  have bQ:=Qq hC;have HI:=Qq hI.out
  clear hC hI
  by_cases hlt:c<5
  ·have jL:(0:Int)<=(c:Int):=Qvu
   have jM:(c:Int)<5:=Qvu
   have hH:=kE bQ.out hT iE.out
   have fM:w6.cell? ⟨w1,c,none⟩=some (.func (.func (Fr c)) #[] (Dn w (w+1) c)):=by
    rw [Qk _ _ _ _ _ _ hH]
    match c,hlt with
    | 0,_=>rfl
    | 1,_=>rfl
    | 2,_=>rfl
    | 3,_=>rfl
    | 4,_=>rfl
   have iQ:∀ args w,(callFunc (Fr c) args).run prog w=.ok (.enter (Fr c) args) w:=by
    match c,hlt with
    | 0,_=>exact enters_of func59 Qxx rfl
    | 1,_=>exact enters_of func60 Qxx rfl
    | 2,_=>exact enters_of func65 Qxx rfl
    | 3,_=>exact enters_of func67 Qxx rfl
    | 4,_=>exact enters_of func69 Qxx rfl
   have fK:=gL.out c hlt
   generalize Fr c=g at fM iQ fK
   have gK:=Qq (fun i t r h1 T W ct rv=>fK i t r h1 T (fun c' i' h3 h4=>HI.out c' i' h3 (by rw [<- HN.out];exact h4)) w (w+1) W ct rv)
   generalize Dn w (w+1) c=lb9 at fM gK
   have hA:=kB bQ.out gI.out
   have b1:=rA1 hA
   rw [HN.out] at b1
   clear hH fK hA
   go_wp2_with fail
   go_loopw [28] (fun i wr=>∃ k:Nat,k<=n/\i=.int .i64 k/\Below W3 W3 wr/\Aside (∀ i',i'<k->(cf c i').code=0)) (fun i _=>n - (intOf i).toNat)
   case atStart=>exact ⟨0,Q8 _,rfl,bQ.out,fun _ h=>absurd h (Z6 _)⟩
   obtain ⟨i,jO,rfl,hD,hJ⟩:=hrel
   have aF:=Qq hD;have HJ:=Qq hJ.out
   clear hD hJ b1 fM
   by_cases hli:i<n
   ·have jN:(0:Int)<=(i:Int):=Qvu
    have hO:(i:Int)<(n:Int):=Qvu
    obtain ⟨t,ht⟩:∃ t,s.tables[i]?=some t:=⟨_,Qx (by rw [HN.out];exact hli)⟩
    obtain ⟨r,hr⟩:∃ r,l[i]?=some r:=⟨_,Qx (by rw [fE.out];exact hli)⟩
    have eP:=Qq (aZ.out.trans (aF.out.mono aZ.out.size))
    obtain ⟨tb,jE,ct,rfl,iV,_,fU,fT,I⟩:=(HT.out.below eP.out).elem ht
    obtain ⟨lb,eY,cl,rfl,hP,_,fP,iS,hQ⟩:=(HL.out.below eP.out).elem hr
    obtain ⟨cD,cC,cU,cT,dY,dX,k9,eL,n9,eM,dK,cV,bZ,dL,cW,cA,dM,cX,cB,a9,z9,cN,hV,_⟩:=Yj fT
    simp only [tcs] at cN
    subst cN
    obtain ⟨rv,rfl,_,fR⟩:=iS
    obtain ⟨rp,rc,rfl,_⟩:=fR.len
    have l1:=hQ 1 _ rfl
    have d0:=I 0 _ rfl
    have d1:=I 1 _ rfl
    have d2:=I 2 _ rfl
    have d3:=I 3 _ rfl
    have d4:=I 4 _ rfl
    have d5:=I 5 _ rfl
    have d6:=I 6 _ rfl
    have d7:=I 7 _ rfl
    have d8:=I 8 _ rfl
    have d9:=I 9 _ rfl
    have gS:=I 10 _ rfl
    have gT:=I 11 _ rfl
    have gU:=I 12 _ rfl
    simp only [show Zl.k=13 from rfl,show Yx.k=2 from rfl,Nat.add_zero] at l1 d0 d1 d2 d3 d4 d5 d6 d7 d8 d9 gS gT gU
    have hF:=kB aF.out gJ.out
    have c0:=rA0 hF
    have jC:(i:Int)<(l.length:Int):=by rw [fE.out];exact hO
    obtain ⟨iI,iG,fH,iF⟩:=Qxo fT fR ht hr
    clear fT fR ht hr I hQ hF fU fP
    go_upto_region 10 with fail
    obtain ⟨N,cH⟩:=eX (wr.alloc (.cells (Qxg t cD cC cU cT dY dX k9 eL n9 eM dK cV bZ dL cW cA dM cX cB a9 z9) 61))
    rw [cH]
    have bJ:=eqB cH (Ze _ _)
    have fO:=eqH (b:=wr.heap.size) cH (Qw _ _)
    have eW:N=wr.heap.size+1:=by rw [<- cH];simp
    have eU:w.heap.size+1<wr.heap.size:=Qv wr _ c0
    have aY:=Qq (show w+2<=wr.heap.size from by have:=Z8 bU.out;have:=aF.out.size;omega)
    have hB:w.heap.size+2<=wr.heap.size:=by have:=Z8 bU.out;have:=aF.out.size;omega
    have cQ:lb<wr.heap.size:=hP
    refine let_mvar% ?Lq1:=fun w':World=>(Qya w' wr t.name (.slice cD t.columns.length cC) (.slice cU t.key.length cT) (.slice dY t.refs.length dX) k9 (.string eL) n9 (.string eM) (.slice dK cV bZ) (.slice dL cW cA) (.slice dM cX cB) a9 z9 (Qxw w' (w+1) 0 (Qxa lb eY l.length lc)/\Qxw w' lb (eY+i*2+1) (.slice rp r.rows.length rc)/\Below N N w'):Prop);?_
    have HS:∀ w',Below N N w'->?Lq1 w':=by
     intro w' h
     have hx:∀ {j:Nat} {u:Value},#[.string ⟨t.name.toArray⟩,.slice cD t.columns.length cC,.slice cU t.key.length cT,.slice dY t.refs.length dX,.int .i64 k9,.string eL,.int .i64 n9,.string eM,.slice dK cV bZ,.slice dL cW cA,.slice dM cX cB,.int .i64 a9,.int .i64 z9][j]?=some u->w'.cell? ⟨wr,j,none⟩=some u:=fun {j u} hu=>by
      rw [h.cell (p:=⟨wr,j,none⟩) (by show wr<N.heap.size;omega),Qk _ _ j _ _ _ fO];exact hu
     have hh:∀ {b j:Nat} {u:Value},b<wr->wr.cell? ⟨b,j,none⟩=some u->w'.cell? ⟨b,j,none⟩=some u:=fun {b j u} hlt hc=>kD (bJ.thn h) hlt hc
     exact ⟨hx rfl,hx rfl,hx rfl,hx rfl,hx rfl,hx rfl,hx rfl,hx rfl,hx rfl,hx rfl,hx rfl,hx rfl,hx rfl,hh eU c0,hh cQ l1,h⟩
    have O:∀ w',?Lq1 w'->Below N N w':=fun w' h=>h.2.2.2.2.2.2.2.2.2.2.2.2.2.2.2
    have fI:∀ w' eS,?Lq1 w'->Below w' w' eS->?Lq1 eS:=fun w' eS h T=>HS eS ((O w' h).thn T)
    have gH:∀ w' o,?Lq1 w'->?Lq1 (w'.alloc o):=fun w' o h=>fI w' _ h (Ze _ _)
    have fG:∀ w' g0 g1 g2 g3 g4 g5 g6 g7 g8 g9 gV gW,?Lq1 w'->?Lq1 (Y9 w' N g0 g1 g2 g3 g4 g5 g6 g7 g8 g9 gV gW):=fun w' g0 g1 g2 g3 g4 g5 g6 g7 g8 g9 gV gW h=>HS _ (Yv (O w' h) (Q9 _))
    unfold Y9 at fG
    have cL:Below w w N:=eP.out.trans (bJ.mono eP.out.size)
    have bR:∀ W',?Lq1 W'->Calls prog g (#[.agg (Qxg t cD cC cU cT dY dX k9 eL n9 eM dK cV bZ dL cW cA dM cX cB a9 z9),.slice rp r.rows.length rc]++lb9) W' fun e w2=>∃ p3 U p4 V q3 Y q4 Z,e=.returned (.agg #[.int .i64 (cf c i).code,.string ⟨(cf c i).table.toArray⟩,.int .i64 (cf c i).row.kind,.int .i64 (cf c i).row.n,.string ⟨(cf c i).row.s.toArray⟩,.slice p3 (cf c i).row.names.length U,.slice p4 (cf c i).row.kids.length V,.int .i64 (cf c i).other.kind,.int .i64 (cf c i).other.n,.string ⟨(cf c i).other.s.toArray⟩,.slice q3 (cf c i).other.names.length Y,.slice q4 (cf c i).other.kids.length Z])/\Mc (fun b=>b<w) w2 [.int .i64 (cf c i).code,.string ⟨(cf c i).table.toArray⟩,.int .i64 (cf c i).row.kind,.int .i64 (cf c i).row.n,.string ⟨(cf c i).row.s.toArray⟩,.slice p3 (cf c i).row.names.length U,.slice p4 (cf c i).row.kids.length V,.int .i64 (cf c i).other.kind,.int .i64 (cf c i).other.n,.string ⟨(cf c i).other.s.toArray⟩,.slice q3 (cf c i).other.names.length Y,.slice q4 (cf c i).other.kids.length Z] (cf c i)/\?Lq1 w2/\Below W' W' w2:=by
     intro W' h'
     have iO:=cL.trans ((O W' h').mono cL.size)
     have hL:=aF.out.trans (((bJ.thn (O W' h'))).mono aF.out.size)
     refine (gK.out i t r fH.out iF.out W' (Qxg t cD cC cU cT dY dX k9 eL n9 eM dK cV bZ dL cW cA dM cX cB a9 z9) (.slice rp r.rows.length rc) iO ?_ ?_ ?_ ?_).mono ?_
     ·exact kB hL gI.out
     ·have:=kB hL gJ.out
      rw [Qk _ _ _ _ _ _ this];rfl
     ·exact Zl.frame iI.out (.of_below (bJ.thn (O W' h')))
     ·exact iG.out.below (bJ.thn (O W' h'))
     rintro e w2 ⟨jG,rfl,bL,bI⟩
     obtain ⟨p3,U,p4,V,q3,Y,q4,Z,cN,_⟩:=Uu bL
     simp only [fcs] at cN
     subst cN
     exact ⟨p3,U,p4,V,q3,Y,q4,Z,rfl,bL,fI _ _ h' bI,bI⟩
    obtain ⟨fD,aX,bP,eQ⟩:=Qxo (HS N.drew (Qz _ _).drew) O gH bR
    have bT:=Qq fG;have fC:=Qq (fun o=>HS (N.alloc o).drew (Ze _ _).drew)
    have D:=Qq eW
    have gQ:=Qq fO;have bM:=Qq (aF.out.trans (bJ.mono aF.out.size))
    clear HS fG O fI gH bR cL fO bJ cH l1 c0 d0 d1 d2 d3 d4 d5 d6 d7 d8 d9 gS gT gU eU cQ iV hP eW hB
    generalize hM:cf c i=f at eQ
    have bN:=Qq hM;have gP:=Qq hV
    clear hM hV
    go_region_held3 ?Lq1 (first | with_reducible exact fD.out | with_reducible exact bA | with_reducible exact fC.out _ | with_reducible exact bP.out _ _ bA | with_reducible exact bT.out _ _ _ _ _ _ _ _ _ _ _ _ _ bA)
     (first
      | (go_at_fn g;refine (eQ.out _ Qxy).mono ?_;rintro e w2 ⟨p3,U,p4,V,q3,Y,q4,Z,rfl,bL,bA,bI⟩;try (have r2:=Nl bI;obtain ⟨f0,f1,f2,f3,f4,f5,f6,f7,f8,f9,jH,jI⟩:=frz12 r2;obtain ⟨y0,y1,y2,y3,y4,y5,y6,y7,y8,y9,jP,jQ⟩:=row12 r2;have jF:=Qq r2;clear r2)))
    ·obtain ⟨W6,aH⟩:=eX (w2.alloc (.cells (Qxi f.code f.table f.row p3 U p4 V f.other q3 Y q4 Z) 69))
     have bH:=eqH (b:=w2.heap.size) aH (Qw _ _)
     have eV:=eqB aH (Ze _ _)
     have bK:Below N N W6:=(aX.out _ bA).thn eV
     have cO:Mc (fun b=>b<w) W6 (Qxi f.code f.table f.row p3 U p4 V f.other q3 Y q4 Z) f:=bL.move (.of_below eV) Qyv
     have cE:N.heap.size<=w2.heap.size:=(aX.out _ bA).size
     rw [aH]
     obtain ⟨aE,fA,bV,aK⟩:=Qxo (bM.out.trans (bK.mono bM.out.size)) cO bH cE
     have cG:=kB bK gQ.out
     have t0:=rA0 cG
     have n0:=rA0 bH
     have iH:=Qq t0
     have A:=Qq (kB aE.out bU.out)
     clear aH bH bK cO cE cG bL bA bI fD fC aX bP bT eQ
     by_cases hz:f.code=0
     ·have hq:(f.code != 0)=false:=by rw [hz];rfl
      clear t0
      go_wp2_with fail
      go_roundw
      case measure=>simp [intOf];omega
      case rel=>
       refine ⟨i+1,Qvu,by go_num,aE.out,(show Aside _ from fun i' eR=>?_)⟩
       by_cases e:i'=i
       ·subst e
        rw [bN.out]
        exact hz
       exact HJ.out i' Qvu
     have hq:(f.code != 0)=true:=by simpa using hz
     have HZ:=Qq hz
     clear hz
     have nz:=fun j=>Qn _ _ j _ _ bV.out
     have nr:=fun j=>Qk _ _ j _ _ _ bV.out
     have rz:=fun j=>Qn _ _ j _ _ A.out
     have rr:=fun j=>Qk _ _ j _ _ _ A.out
     obtain ⟨fV,fW,fX,fY,fZ,gA,gB,gC,gD,gE,dI,dJ⟩:=Qyq nz
     obtain ⟨cY,cZ,dA,dB,dC,dD,dE,dF,dG,dH,bB,bC⟩:=Qyq nr
     obtain ⟨eB,eC,eD,eE,eF,eG,eH,eI,eJ,eK,bF,bG⟩:=Qyq rz
     obtain ⟨aN,aO,aP,aQ,aR,aS,aT,aU,aV,aW,J,M⟩:=Qyq rr
     simp only [Qf,Qg,Qh] at cY cZ dA dB dC dD dE dF dG dH bB bC aN aO aP aQ aR aS aT aU aV aW J M
     have cR:w2≠w.heap.size+1+1:=by have:=aY.out;have:=D.out;have:=aK.out;omega
     have cS:w.heap.size+1+1≠w2.heap.size:=fun e=>cR e.symm
     have hS:w2.heap.size≠wr.heap.size:=Qxq D.out aK.out
     clear nz nr rz rr n0
     go_wp2_with fail
     obtain ⟨V7,aG⟩:=eX (W6.setCell ⟨w2,1,none⟩ (.string ⟨t.name.toArray⟩))
     rw [aG]
     have cF:V7.heap[w.heap.size+1+1]?=some (.cells zF 69 (0,0)):=by rw [<- aG,Z9 cS];exact A.out
     have fF:=Qq (fun b (hb:b<w.heap.size)=>show V7.heap[b]?=W6.heap[b]? by rw [<- aG];exact Z9 (by show b≠w2;have:=aY.out;have:=D.out;have:=aK.out;omega))
     have cJ:Below W3 W3 V7:=by rw [<- aG];exact aE.out.setCell (p:=⟨w2,1,none⟩) (by show W3<=w2.heap.size;have:=aF.out.size;have:=D.out;have:=aK.out;omega) _
     have eZ:=Qq (aZ.out.trans (cJ.mono aZ.out.size))
     show bodyPost _ _ _ _ _ (Y9 V7 (w+1+1) f.code t.name f.row.kind f.row.n f.row.s (.slice p3 f.row.names.length U) (.slice p4 f.row.kids.length V) f.other.kind f.other.n f.other.s (.slice q3 f.other.names.length Y) (.slice q4 f.other.kids.length Z))
     have q:=fun j=>Ya (a0:=.int .i64 f.code) (a1:=.string ⟨t.name.toArray⟩) (a2:=.int .i64 f.row.kind) (a3:=.int .i64 f.row.n) (a4:=.string ⟨f.row.s.toArray⟩) (a5:=.slice p3 f.row.names.length U) (a6:=.slice p4 f.row.kids.length V) (a7:=.int .i64 f.other.kind) (a8:=.int .i64 f.other.n) (a9:=.string ⟨f.other.s.toArray⟩) (a10:=.slice q3 f.other.names.length Y) (a11:=.slice q4 f.other.kids.length Z) cF j
     generalize aL:Y9 V7 (w+1+1) f.code t.name f.row.kind f.row.n f.row.s (.slice p3 f.row.names.length U) (.slice p4 f.row.kids.length V) f.other.kind f.other.n f.other.s (.slice q3 f.other.names.length Y) (.slice q4 f.other.kids.length Z)=W9 at q
     have cK:Below w w W9:=by rw [<- aL];exact Yv eZ.out Qvu
     have cP:Mc (fun b=>b<w) W9 (Qxi f.code f.table f.row p3 U p4 V f.other q3 Y q4 Z) f:=fA.out.move (fun b hb _=>by rw [<- aL,Xz (by have:b<w.heap.size:=hb;omega)];exact fF.out b hb) Qyv
     obtain ⟨dN,dO,dP,dQ,dR,dS,dT,dU,dV,dW,bD,bE⟩:=Qyq q
     simp only [Qf,Qg,Qh] at dN dO dP dQ dR dS dT dU dV dW bD bE
     have O:=Qq cK;have fB:=Qq cP
     try rw [aL]
     clear q cK cP aL aG cF cJ fV cY eB aN fW cZ eC aO fX dA eD aP fY dB eE aQ fZ dC eF aR gA dD eG aS gB dE eH aT gC dF eI aU gD dG eJ aV gE dH eK aW dI bB bF J dJ bC bG M
     refine Q7 (v:=.agg (Qxi f.code t.name f.row p3 U p4 V f.other q3 Y q4 Z)) (by simp [results,results25,go_sem,dN,dO,dP,dQ,dR,dS,dT,dU,dV,dW,bD,bE]) rfl ⟨⟨f.code,t.name,f.row,f.other⟩,fun _=>.inr ⟨c,i,hlt,by rw [HN.out];exact hli,by rw [bN.out];exact HZ.out,?_,?_⟩,fun h=>absurd bS.out (by rw [h];decide),Qxi f.code t.name f.row p3 U p4 V f.other q3 Y q4 Z,rfl,?_,O.out⟩
     ·show (⟨_,_,_,_⟩:Ft)=⟨(cf c i).code,((s.tables[i]?).getD Tbl.zero).name,(cf c i).row,(cf c i).other⟩
      rw [bN.out,fH.out];rfl
     ·intro c' i' h1 T
      rcases T with T | ⟨rfl,T⟩
      ·exact HI.out c' i' T (by rw [<- HN.out];exact h1)
      exact HJ.out i' T
     obtain ⟨c1,c2,aM,_,T,h3⟩:=fB.out
     have cM:c1=[.int .i64 f.row.kind,.int .i64 f.row.n,.string ⟨f.row.s.toArray⟩,.slice p3 f.row.names.length U,.slice p4 f.row.kids.length V]/\c2=[.int .i64 f.other.kind,.int .i64 f.other.n,.string ⟨f.other.s.toArray⟩,.slice q3 f.other.names.length Y,.slice q4 f.other.kids.length Z]:=by
      have e1:=T.length;have e2:=h3.length
      match c1,e1,c2,e2,aM with
      | [_,_,_,_,_],_,[_,_,_,_,_],_,aM=>
       simp only [List.cons_append,List.nil_append,List.cons.injEq] at aM
       obtain ⟨-,-,rfl,rfl,rfl,rfl,rfl,rfl,rfl,rfl,rfl,rfl,-⟩:=aM
       exact ⟨rfl,rfl⟩
     exact ⟨_,_,rfl,gP.out,cM.1 ▸ T,cM.2 ▸ h3⟩
    obtain ⟨W6,aH⟩:=eX (Y9 w2 N f.code f.table f.row.kind f.row.n f.row.s (.slice p3 f.row.names.length U) (.slice p4 f.row.kids.length V) f.other.kind f.other.n f.other.s (.slice q3 f.other.names.length Y) (.slice q4 f.other.kids.length Z))
    have bH:W6.heap[N.heap.size]?=some (.cells (Qxi f.code f.table f.row p3 U p4 V f.other q3 Y q4 Z) 69 (0,0)):=by rw [<- aH];exact Lq (Nl bI)
    have bK:Below N N W6:=by rw [<- aH];exact Yv (aX.out _ bA) (Q9 _)
    have cO:Mc (fun b=>b<w) W6 (Qxi f.code f.table f.row p3 U p4 V f.other q3 Y q4 Z) f:=bL.move (fun b hb _=>by rw [<- aH];exact Xz (Qxq aY.out D.out)) Qyv
    have cE:N.heap.size<=N.heap.size:=Q9 _
    unfold Y9 at aH
    rw [aH]
    obtain ⟨aE,fA,bV,aK⟩:=Qxo (bM.out.trans (bK.mono bM.out.size)) cO bH cE
    have cG:=kB bK gQ.out
    have t0:=rA0 cG
    have n0:=rA0 bH
    have iH:=Qq t0
    have A:=Qq (kB aE.out bU.out)
    clear aH bH bK cO cE cG bL bA bI fD fC aX bP bT eQ
    by_cases hz:f.code=0
    ·have hq:(f.code != 0)=false:=by rw [hz];rfl
     clear t0
     go_wp2_with fail
     go_roundw
     case measure=>simp [intOf];omega
     case rel=>
      refine ⟨i+1,Qvu,by go_num,aE.out,(show Aside _ from fun i' eR=>?_)⟩
      by_cases e:i'=i
      ·subst e
       rw [bN.out]
       exact hz
      exact HJ.out i' Qvu
    have hq:(f.code != 0)=true:=by simpa using hz
    have HZ:=Qq hz
    clear hz
    have nz:=fun j=>Qn _ _ j _ _ bV.out
    have nr:=fun j=>Qk _ _ j _ _ _ bV.out
    have rz:=fun j=>Qn _ _ j _ _ A.out
    have rr:=fun j=>Qk _ _ j _ _ _ A.out
    obtain ⟨fV,fW,fX,fY,fZ,gA,gB,gC,gD,gE,dI,dJ⟩:=Qyq nz
    obtain ⟨cY,cZ,dA,dB,dC,dD,dE,dF,dG,dH,bB,bC⟩:=Qyq nr
    obtain ⟨eB,eC,eD,eE,eF,eG,eH,eI,eJ,eK,bF,bG⟩:=Qyq rz
    obtain ⟨aN,aO,aP,aQ,aR,aS,aT,aU,aV,aW,J,M⟩:=Qyq rr
    simp only [Qf,Qg,Qh] at cY cZ dA dB dC dD dE dF dG dH bB bC aN aO aP aQ aR aS aT aU aV aW J M
    have cR:N≠w.heap.size+1+1:=by have:=aY.out;have:=D.out;have:=aK.out;omega
    have cS:w.heap.size+1+1≠N.heap.size:=fun e=>cR e.symm
    have hS:N.heap.size≠wr.heap.size:=Qxq D.out aK.out
    clear nz nr rz rr n0
    go_wp2_with fail
    obtain ⟨V7,aG⟩:=eX (W6.setCell ⟨N,1,none⟩ (.string ⟨t.name.toArray⟩))
    rw [aG]
    have cF:V7.heap[w.heap.size+1+1]?=some (.cells zF 69 (0,0)):=by rw [<- aG,Z9 cS];exact A.out
    have fF:=Qq (fun b (hb:b<w.heap.size)=>show V7.heap[b]?=W6.heap[b]? by rw [<- aG];exact Z9 (by show b≠N;have:=aY.out;have:=D.out;have:=aK.out;omega))
    have cJ:Below W3 W3 V7:=by rw [<- aG];exact aE.out.setCell (p:=⟨N,1,none⟩) (by show W3<=N.heap.size;have:=aF.out.size;have:=D.out;have:=aK.out;omega) _
    have eZ:=Qq (aZ.out.trans (cJ.mono aZ.out.size))
    show bodyPost _ _ _ _ _ (Y9 V7 (w+1+1) f.code t.name f.row.kind f.row.n f.row.s (.slice p3 f.row.names.length U) (.slice p4 f.row.kids.length V) f.other.kind f.other.n f.other.s (.slice q3 f.other.names.length Y) (.slice q4 f.other.kids.length Z))
    have q:=fun j=>Ya (a0:=.int .i64 f.code) (a1:=.string ⟨t.name.toArray⟩) (a2:=.int .i64 f.row.kind) (a3:=.int .i64 f.row.n) (a4:=.string ⟨f.row.s.toArray⟩) (a5:=.slice p3 f.row.names.length U) (a6:=.slice p4 f.row.kids.length V) (a7:=.int .i64 f.other.kind) (a8:=.int .i64 f.other.n) (a9:=.string ⟨f.other.s.toArray⟩) (a10:=.slice q3 f.other.names.length Y) (a11:=.slice q4 f.other.kids.length Z) cF j
    generalize aL:Y9 V7 (w+1+1) f.code t.name f.row.kind f.row.n f.row.s (.slice p3 f.row.names.length U) (.slice p4 f.row.kids.length V) f.other.kind f.other.n f.other.s (.slice q3 f.other.names.length Y) (.slice q4 f.other.kids.length Z)=W9 at q
    have cK:Below w w W9:=by rw [<- aL];exact Yv eZ.out Qvu
    have cP:Mc (fun b=>b<w) W9 (Qxi f.code f.table f.row p3 U p4 V f.other q3 Y q4 Z) f:=fA.out.move (fun b hb _=>by rw [<- aL,Xz (by have:b<w.heap.size:=hb;omega)];exact fF.out b hb) Qyv
    obtain ⟨dN,dO,dP,dQ,dR,dS,dT,dU,dV,dW,bD,bE⟩:=Qyq q
    simp only [Qf,Qg,Qh] at dN dO dP dQ dR dS dT dU dV dW bD bE
    have O:=Qq cK;have fB:=Qq cP
    try rw [aL]
    clear q cK cP aL aG cF cJ fV cY eB aN fW cZ eC aO fX dA eD aP fY dB eE aQ fZ dC eF aR gA dD eG aS gB dE eH aT gC dF eI aU gD dG eJ aV gE dH eK aW dI bB bF J dJ bC bG M
    refine Q7 (v:=.agg (Qxi f.code t.name f.row p3 U p4 V f.other q3 Y q4 Z)) (by simp [results,results25,go_sem,dN,dO,dP,dQ,dR,dS,dT,dU,dV,dW,bD,bE]) rfl ⟨⟨f.code,t.name,f.row,f.other⟩,fun _=>.inr ⟨c,i,hlt,by rw [HN.out];exact hli,by rw [bN.out];exact HZ.out,?_,?_⟩,fun h=>absurd bS.out (by rw [h];decide),Qxi f.code t.name f.row p3 U p4 V f.other q3 Y q4 Z,rfl,?_,O.out⟩
    ·show (⟨_,_,_,_⟩:Ft)=⟨(cf c i).code,((s.tables[i]?).getD Tbl.zero).name,(cf c i).row,(cf c i).other⟩
     rw [bN.out,fH.out];rfl
    ·intro c' i' h1 T
     rcases T with T | ⟨rfl,T⟩
     ·exact HI.out c' i' T (by rw [<- HN.out];exact h1)
     exact HJ.out i' T
    obtain ⟨c1,c2,aM,_,T,h3⟩:=fB.out
    have cM:c1=[.int .i64 f.row.kind,.int .i64 f.row.n,.string ⟨f.row.s.toArray⟩,.slice p3 f.row.names.length U,.slice p4 f.row.kids.length V]/\c2=[.int .i64 f.other.kind,.int .i64 f.other.n,.string ⟨f.other.s.toArray⟩,.slice q3 f.other.names.length Y,.slice q4 f.other.kids.length Z]:=by
     have e1:=T.length;have e2:=h3.length
     match c1,e1,c2,e2,aM with
     | [_,_,_,_,_],_,[_,_,_,_,_],_,aM=>
      simp only [List.cons_append,List.nil_append,List.cons.injEq] at aM
      obtain ⟨-,-,rfl,rfl,rfl,rfl,rfl,rfl,rfl,rfl,rfl,rfl,-⟩:=aM
      exact ⟨rfl,rfl⟩
    exact ⟨_,_,rfl,gP.out,cM.1 ▸ T,cM.2 ▸ h3⟩
   obtain rfl:i=n:=Qvu
   have hO:¬ (i:Int)<(i:Int):=Qvu
   go_wp2_with fail
   go_roundw
   case measure=>simp [intOf];omega
   case rel=>
    refine ⟨c+1,Qvu,by go_num,aF.out,(show Aside _ from fun c' i' jJ eR=>?_)⟩
    by_cases e:c'=c
    ·subst e;exact HJ.out i' eR
    exact HI.out c' i' Qvu eR
  obtain rfl:c=5:=Qvu
  have A:=Qq (kB bQ.out bU.out)
  have aE:=Qq (aZ.out.trans (bQ.out.mono aZ.out.size))
  have rz:=fun j=>Qn _ _ j _ _ A.out
  have rr:=fun j=>Qk _ _ j _ _ _ A.out
  obtain ⟨eB,eC,eD,eE,eF,eG,eH,eI,eJ,eK,bF,bG⟩:=Qyq rz
  obtain ⟨aN,aO,aP,aQ,aR,aS,aT,aU,aV,aW,J,M⟩:=Qyq rr
  simp only [Qf,Qg,Qh] at aN aO aP aQ aR aS aT aU aV aW J M
  clear rz rr
  go_wp2_with fail
  show bodyPost _ _ _ _ _ (Y9 w6 (w+1+1) Qxc Qxd Qxc Qxc Qxd Qxe Qxe Qxc Qxc Qxd Qxe Qxe)
  refine Q7 (v:=.agg zF) (by simp [results,results25,go_sem,Ya A.out]) rfl ⟨Ft.zero,fun _=>.inl ⟨rfl,fun c i hc hi=>HI.out c i hc (by rw [<- HN.out];exact hi)⟩,fun h=>absurd bS.out (by rw [h];decide),[Qxc,Qxd,Qxc,Qxc,Qxd,Qxe,Qxe,Qxc,Qxc,Qxd,Qxe,Qxe],rfl,Ks _ _,Yv aE.out Qvu⟩
structure Rc (us:List Sm) (t:Tbl) (rows:List Val) (p2 p5:Val->Bool) (K:Val->List Int):Prop where
 srt:Srt Fq t.columns
 few:t.columns.length<=19
 some:t.columns≠[]
 typed:∀ x ∈ rows,X6 x/\Bb us x (Nm t) (p2 x)
 keys:(∀ x ∈ rows,p2 x=true)->Ob t rows K
 many:rows.length<=100000
 key:t.key.length<=1000
 check:(∀ x ∈ rows,p2 x=true)->∀ x ∈ rows,Cf t x (p5 x)
def cfOf (s:Sc) (l:List Rel) (p2 p5:Nat->Val->Bool) (K:Nat->Val->List Int) (c i:Nat):Ft:=
 let rows:=(l.getD i ⟨[],[]⟩).rows
 match c with
 | 0=>H9 rows
 | 1=>Xp 9 (p2 i) rows
 | 2=>Kj rows (ust rows.length (rows.map fun r=>kb (K i r)) rows.length)
 | 3=>Yl s l rows (s.tables.getD i Tbl.zero).refs
 | _=>Xp 13 (p5 i) rows
theorem badF_all {code:Int} (hc:code≠0) {p:Val->Bool} {rows:List Val} (h:(Xp code p rows).code=0):∀ x ∈ rows,p x=true:=by
 unfold Xp at h
 intro x hx
 cases hf:rows.findIdx? (fun r=>!p r) with
 | none=>
  have:=List.findIdx?_eq_none_iff.1 hf x hx
  simpa using this
 | some i=>
  rw [hf] at h
  exact absurd h hc
theorem conOk_of (w:World) (S0 S1:Nat->Prop) (s:Sc) (cs:List Value) (lv:Value) (l:List Rel) (p2 p5:Nat->Val->Bool) (K:Nat->Val->List Int) (hs:Vj S0 w cs s) (hl:Sl Yx S1 w lv l) (hkw:Vp w)
  (hkey:∀ t ∈ s.tables,t.key.length<=1000) (hok:∀ (i:Nat) (t:Tbl) (r:Rel),s.tables[i]?=some t->l[i]?=some r->Rc s.sums t r.rows (p2 i) (p5 i) (K i)):ConOk w s cs lv l (cfOf s l p2 p5 K):=by
 intro c hc i t r U hr M B C W I rv hb hB hC A D
 have J:=hok i t r U hr
 have N:(l.getD i ⟨[],[]⟩).rows=r.rows:=by rw [Qs,hr];rfl
 have h2:s.tables.getD i Tbl.zero=t:=by rw [Qs,U];rfl
 have Z:=hs.below hb
 have T:(cfOf s l p2 p5 K 1 i).code=0->∀ x ∈ r.rows,p2 i x=true:=fun h x hx=>by
  have h':(Xp 9 (p2 i) (l.getD i ⟨[],[]⟩).rows).code=0:=h
  rw [N] at h'
  exact badF_all Qxv h' x hx
 obtain ⟨uv,tv,rfl,hu,aA⟩:=hs
 have O:W.cell? ⟨B,0,none⟩=some uv:=by rw [Qk _ _ _ _ _ _ hB];rfl
 have Y:W.cell? ⟨B,1,none⟩=some tv:=by rw [Qk _ _ _ _ _ _ hB];rfl
 match c,hc with
 | 0,_=>
  show Calls _ _ #[I,rv] W (Gx _ W (H9 (l.getD i ⟨[],[]⟩).rows))
  rw [N]
  exact con1_any _ _ _ t I rv r.rows W A D
 | 1,_=>
  show Calls _ _ #[I,rv,Qxb B] W (Gx _ W (Xp 9 (p2 i) (l.getD i ⟨[],[]⟩).rows))
  rw [N]
  obtain ⟨ps,V,rfl,_⟩:=hu.len
  exact con2_any s.sums B _ _ ps _ V t I rv r.rows (p2 i) W O A D ((hu.below hb).mono (fun b hb _=>hb)) J.srt J.few J.some J.typed (hkw.below hb)
 | 2,_=>
  show Calls _ _ #[I,rv] W (Gx _ W (Kj (l.getD i ⟨[],[]⟩).rows (ust (l.getD i ⟨[],[]⟩).rows.length ((l.getD i ⟨[],[]⟩).rows.map fun r=>kb (K i r)) (l.getD i ⟨[],[]⟩).rows.length)))
  rw [N]
  exact con3_any _ _ t I rv r.rows (K i) W A D (J.keys (T (M 1 i Qxv (Qj U).1))) J.many J.key
 | 3,_=>
  show Calls _ _ #[I,rv,Qxb B,Qxb C] W (Gx _ W (Yl s l (l.getD i ⟨[],[]⟩).rows (s.tables.getD i Tbl.zero).refs))
  rw [N,h2]
  exact con4_any B C S0 S1 _ _ s uv tv lv l t I rv r.rows W O Y hC Z (hl.below hb) A D hkey
 | 4,_=>
  show Calls _ _ #[I,rv] W (Gx _ W (Xp 13 (p5 i) (l.getD i ⟨[],[]⟩).rows))
  rw [N]
  exact con5_any _ _ t I rv r.rows (p5 i) W A D (hkw.below hb) (J.check (T (M 1 i Qxv (Qj U).1)))
theorem checkOk (S0 S1:Nat->Prop) (s:Sc) (cs:List Value) (lv:Value) (l:List Rel) (p2 p5:Nat->Val->Bool) (K:Nat->Val->List Int) (w:World) (hs:Vj S0 w cs s) (hl:Sl Yx S1 w lv l) (hkw:Vp w)
  (hkey:∀ t ∈ s.tables,t.key.length<=1000) (hok:∀ (i:Nat) (t:Tbl) (r:Rel),s.tables[i]?=some t->l[i]?=some r->Rc s.sums t r.rows (p2 i) (p5 i) (K i)):
  Calls prog 25 #[cs,lv] w (Ku w s l (cfOf s l p2 p5 K)):=
 Qzi S0 S1 s cs lv l w hs hl _ (conOk_of w S0 S1 s cs lv l p2 p5 K hs hl hkw hkey hok)
theorem Je {code:Int} {p:Val->Bool} {rows:List Val} (h:∀ x ∈ rows,p x=true):Xp code p rows=Ft.zero:=by
 unfold Xp
 rw [List.findIdx?_eq_none_iff.2 (fun x hx=>by simp [h x hx])]
theorem Nu {rows:List Val} (h:rows.length<=256):H9 rows=Ft.zero:=by unfold H9;rw [if_neg Qvu]
theorem T3 (n:Nat) (ks:List Bs) (hd:∀ (i j:Nat) (a b:Bs),i<j->ks[i]?=some a->ks[j]?=some b->a≠b):∀ i,i<=ks.length->ust n ks i=(n,0)
 | 0,_=>rfl
 | i+1,hi=>by
  show Km (ks.take i) (ust n ks i) (ks.getD i [])=(n,0)
  rw [T3 n ks hd i Qvu]
  unfold Km
  have hk:ks[i]?=some ks[i]:=Qx Qvu
  have:X9 (ks.take i) (ks.getD i [])=none:=by
   unfold X9
   rw [List.findIdx?_eq_none_iff]
   intro x hx
   obtain ⟨j,A⟩:=Zk hx
   have D:=(Qj A).1
   rw [Qm] at D
   rw [List.getElem?_take_of_lt Qvu] at A
   have:=hd j i x ks[i] Qvu A hk
   rw [Qs,hk]
   simpa using this
  rw [this]
theorem No {rows:List Val} {ks:List Bs} (hl:ks.length=rows.length) (hd:∀ (i j:Nat) (a b:Bs),i<j->ks[i]?=some a->ks[j]?=some b->a≠b):Kj rows (ust rows.length ks rows.length)=Ft.zero:=by
 rw [T3 _ _ hd _ Qvu]
 unfold Kj
 rw [if_pos rfl]
def hasP (us:List Sm) (v:Val) (t:Ty):Bool:=if t.kind=3 then sumB us v t.name else v.kind==t.kind
def En (us:List Sm) (t:Tbl) (v:Val):Bool:=(v.kind==4)&&decide (v.names=(Di t.columns).1)&&eqL (hasP us) v.kids (Di t.columns).2
def K9 (t:Tbl) (v:Val):List Val:=(keyOf t.key v).getD []
def Ey (K:Val->List Val):List Val->Ft
 | []=>Ft.zero
 | v::l=>match l.find? (fun u=>eqL eqv (K v) (K u)) with
  | some u=>⟨11,[],v,u⟩
  | none=>Ey K l
def cfR (s:Sc) (l:List Rel) (c i:Nat):Ft:=
 match c with
 | 0=>H9 (l.getD i ⟨[],[]⟩).rows
 | 1=>Xp 9 (En s.sums (s.tables.getD i Tbl.zero)) (l.getD i ⟨[],[]⟩).rows
 | 2=>Ey (K9 (s.tables.getD i Tbl.zero)) (l.getD i ⟨[],[]⟩).rows
 | 3=>Yl s l (l.getD i ⟨[],[]⟩).rows (s.tables.getD i Tbl.zero).refs
 | _=>Xp 13 (F7 8 (s.tables.getD i Tbl.zero)) (l.getD i ⟨[],[]⟩).rows
section
variable {s:Sc} {l:List Rel} {c i k:Nat} {t:Tbl} {r:Rel} {x u:Val} {rows:List Val} {p:Val->Bool} {code:Int} {K:Val->List Val} {f:Rf} {fs:List Rf}
theorem cfR_0 (hr:l[i]?=some r):cfR s l 0 i=H9 r.rows:=by
 unfold cfR;rw [Qs,hr];rfl
theorem cfR_1 (hr:l[i]?=some r) (ht:s.tables[i]?=some t):cfR s l 1 i=Xp 9 (En s.sums t) r.rows:=by
 show Xp 9 (En s.sums (s.tables.getD i Tbl.zero)) (l.getD i ⟨[],[]⟩).rows=_
 rw [Qs,Qs,hr,ht];rfl
theorem cfR_2 (hr:l[i]?=some r) (ht:s.tables[i]?=some t):cfR s l 2 i=Ey (K9 t) r.rows:=by
 show Ey (K9 (s.tables.getD i Tbl.zero)) (l.getD i ⟨[],[]⟩).rows=_
 rw [Qs,Qs,hr,ht];rfl
theorem cfR_3 (hr:l[i]?=some r) (ht:s.tables[i]?=some t):cfR s l 3 i=Yl s l r.rows t.refs:=by
 show Yl s l (l.getD i ⟨[],[]⟩).rows (s.tables.getD i Tbl.zero).refs=_
 rw [Qs,Qs,hr,ht];rfl
theorem cfR_4 (hr:l[i]?=some r) (ht:s.tables[i]?=some t):cfR s l 4 i=Xp 13 (F7 8 t) r.rows:=by
 show Xp 13 (F7 8 (s.tables.getD i Tbl.zero)) (l.getD i ⟨[],[]⟩).rows=_
 rw [Qs,Qs,hr,ht];rfl
theorem M2 (hx:rows[k]?=some x) (hp:p x=false) (hb:∀ y ∈ rows.take k,p y=true):Xp code p rows=⟨code,[],x,Val.zero⟩:=by
 obtain ⟨hk,he⟩:=Qj hx
 have h:rows.findIdx? (fun r=>!p r)=some k:=by
  rw [List.findIdx?_eq_some_iff_getElem]
  refine ⟨hk,by rw [he,hp];rfl,fun i hi=>?_⟩
  have h2:=hb rows[i] (List.mem_take_iff_getElem.2 ⟨i,Qvu,rfl⟩)
  rw [h2];decide
 unfold Xp
 rw [h]
 show (⟨code,[],rows.getD k Val.zero,Val.zero⟩:Ft)=_
 rw [Qs,hx];rfl
theorem Eb (hb:∀ y ∈ rows.take rows.length,p y=true):(Xp code p rows).code=0:=by
 rw [List.take_length] at hb
 rw [Je hb];rfl
theorem Bg (hx:rows[k]?=some x) (hp:p x=true) (hb:∀ y ∈ rows.take k,p y=true):∀ y ∈ rows.take (k+1),p y=true:=by
 intro y hy
 rw [Bv hx] at hy
 rcases Z4.1 hy with h | h
 ·exact hb y h
 rw [Z5.1 h];exact hp
theorem U2 {T:Type} {xs:List T} {k:Nat} {x:T} (hx:xs[k]?=some x):xs.drop k=x::xs.drop (k+1):=by
 obtain ⟨hk,he⟩:=Qj hx
 rw [<- he];exact Qp hk
theorem keyR_hit (hx:rows[k]?=some x) (hf:(rows.drop (k+1)).find? (fun u=>eqL eqv (K x) (K u))=some u):Ey K (rows.drop k)=⟨11,[],x,u⟩:=by
 rw [U2 hx,Ey,hf]
theorem Qke (hx:rows[k]?=some x) (hf:(rows.drop (k+1)).find? (fun u=>eqL eqv (K x) (K u))=none):Ey K (rows.drop k)=Ey K (rows.drop (k+1)):=by
 rw [U2 hx,Ey,hf]
theorem find_at {q:Val->Bool} (hu:rows[k]?=some u) (hq:q u=true):(rows.drop k).find? q=some u:=by
 rw [U2 hu,List.find?_cons,hq]
theorem Qju {q:Val->Bool} (hu:rows[k]?=some u) (hq:q u=false):(rows.drop k).find? q=(rows.drop (k+1)).find? q:=by
 rw [U2 hu,List.find?_cons,hq]
theorem Sh (hf:fs[k]?=some f) (h:Xp 12 (Dw s l f) rows=⟨12,[],x,Val.zero⟩):Yl s l rows (fs.drop k)=⟨12,[],x,Val.zero⟩:=by
 rw [U2 hf,Yl,if_neg (by rw [h];show ¬ (12:Int)=0;decide),h]
theorem P9 (hf:fs[k]?=some f) (h:(Xp 12 (Dw s l f) rows).code=0):Yl s l rows (fs.drop k)=Yl s l rows (fs.drop (k+1)):=by
 rw [U2 hf,Yl,if_pos h]
theorem refP_is {b b':Bool} (hb:(Xj x f.column).isSome=b) (hu:(Xj x f.column).getD Val.zero=u) (hb':(J1 s l f.table [u]).isSome=b'):Dw s l f x=!(!b||!b'):=by
 unfold Dw
 cases h:Xj x f.column with
 | none=>rw [h] at hb;subst hb;rfl
 | some v=>
  rw [h] at hb hu
  subst hb
  obtain rfl:v=u:=hu
  subst hb'
  simp
def Fk (s:Sc) (l:List Rel) (c k:Nat):Prop:=∀ c' i',i'<s.tables.length->(c'<c\/c'=c/\i'<k)->(cfR s l c' i').code=0
theorem Qqr:Fk s l 0 0:=fun c' i' _ h=>Qvu
theorem Kn (h:Fk s l c k) (hk:(cfR s l c k).code=0):Fk s l c (k+1):=fun c' i' A D=>by
 by_cases e:c'=c/\i'=k
 ·obtain ⟨rfl,rfl⟩:=e;exact hk
 exact h c' i' A Qvu
theorem Jm (h:Fk s l c s.tables.length):Fk s l (c+1) 0:=fun c' i' A D=>h c' i' A Qvu
theorem Qzz (hn:Uc s l=true) (hr:l[i]?=some r):((s.tables[i]?).getD Tbl.zero).name=r.table:=by
 have h:∀ (a:List Tbl) (b:List Rel) (i:Nat),eqL (fun (t:Tbl) (r:Rel)=>Ul r.rows&&decide (t.name=r.table)) a b=true->b[i]?=some r->((a[i]?).getD Tbl.zero).name=r.table:=by
  intro a
  induction a with
  | nil=>
   intro b i h hb
   cases b with
   | nil=>simp at hb
   | cons y b=>simp [eqL] at h
  | cons x a ih=>
   intro b i h hb
   cases b with
   | nil=>simp at hb
   | cons y b=>
    simp only [eqL,Bool.and_eq_true] at h
    cases i with
    | zero=>
     simp only [Qg,Zv] at hb
     subst hb
     simpa using h.1.2
    | succ i=>exact ih b i h.2 (by simpa using hb)
 exact h s.tables l i hn hr
def RF (s:Sc) (l:List Rel) (f:Ft):Prop:=(Uc s l=true->J6 s.tables.length (cfR s l) (fun i=>((s.tables[i]?).getD Tbl.zero).name) f)/\(Uc s l=false->f=⟨1,[],Val.zero,Val.zero⟩)
theorem rf_arg (hn:Uc s l=false):RF s l ⟨1,[],Val.zero,Val.zero⟩:=⟨(fun h=>by rw [hn] at h;cases h),fun _=>rfl⟩
theorem rf_ok (hn:Uc s l=true) (h:Fk s l 5 0):RF s l Ft.zero:=⟨fun _=>.inl ⟨rfl,fun c i hc hi=>h c i hi (.inl hc)⟩,fun h=>by rw [hn] at h;cases h⟩
theorem Si (hn:Uc s l=true) (hU:Fk s l c i) (hc:c<5) (hr:l[i]?=some r) (hi:i<s.tables.length) (hf:cfR s l c i=⟨code,[],x,u⟩) (h0:code≠0):RF s l ⟨code,r.table,x,u⟩:=
 ⟨fun _=>.inr ⟨c,i,hc,hi,by rw [hf];exact h0,(by rw [hf];show _=(⟨code,((s.tables[i]?).getD Tbl.zero).name,x,u⟩:Ft);rw [Qzz hn hr]),hU⟩,fun h=>by rw [hn] at h;cases h⟩
end
theorem Ga {s:Sc} {l:List Rel} {f:Ft} {w W:World} {c1 c2:List Value} (h:RF s l f) (h1:Za (fun b=>b<w) W c1 f.row) (h2:Za (fun b=>b<w) W c2 f.other) (hl:f.table.length<=1000000) (hB:Below w w W):
  Ku w s l (cfR s l) (.returned (.agg (.int .i64 f.code::sv f.table::(c1++c2)).toArray)) W:=⟨f,h.1,h.2,_,rfl,⟨c1,c2,rfl,hl,h1,h2⟩,hB⟩
def E9 (us:List Sm):Prop:=∀ u ∈ us,∀ c ∈ u.ctors,Dm c.arg
structure Rp (t:Tbl):Prop where
 key:t.key.length<=1000
 cols:t.columns.length<=1000
 types:∀ c ∈ t.columns,Dm c.type\/c.type.kind=3
 check:Xi 8 t.check
structure Vo (v:Val):Prop where
 good:X6 v
 few:v.kids.length<=5
 kids:∀ u ∈ v.kids,Kq 70 u
 record:v.kind=4
theorem X6.lens {v:Val} (h:X6 v):v.names.length<=v.kids.length/\(v.kind=4->v.kids.length=v.names.length):=by
 cases h with
 | int n=>exact ⟨Q9 _,fun h=>by cases h⟩
 | text s=>exact ⟨Q9 _,fun h=>by cases h⟩
 | bool n _=>exact ⟨Q9 _,fun h=>by cases h⟩
 | make s kids _ _ _=>exact ⟨Q8 _,fun h=>by cases h⟩
 | record names kids hl _ _ _=>exact ⟨Nat.le_of_eq hl,fun _=>hl.symm⟩
 | list kids _=>exact ⟨Q8 _,fun h=>by cases h⟩
theorem rhasP (us:List Sm) (hu:E9 us) (v:Val) (t:Ty) (h:Dm t\/t.kind=3):Do us v t (hasP us v t):=by
 unfold hasP
 split
 ·rename_i h3
  obtain ⟨k,s,n,names,kids⟩:=t
  cases (show k=3 from h3)
  exact rhasSum us v s n names kids hu
 rename_i h3
 exact Ow us v t (h.resolve_right h3)
theorem rhasRow (us:List Sm) (hu:E9 us) (t:Tbl) (hT:Rp t) (v:Val) (hv:Vo v):Do us v (P8 t) (En us t v):=by
 obtain ⟨h1,h2,h3⟩:=Mw _ t.columns rfl
 exact rhasRec us v [] _ _ (hasP us) (by rw [h1,h2]) hv.good.lens.2 (fun x _ y hy=>by
  obtain ⟨c,hc,rfl⟩:=h3 y hy
  exact rhasP us hu x c.type (hT.types c hc))
theorem Ri (X:World) (p:Addr):X.drew.cell? p=X.cell? p:=rfl
theorem Zo {W:World} {R b j:Nat} {x0 x1 x2 x3 x4 x5 x6 x7 x8 x9 x10 x11 u:Value} (h:b≠R) (hc:W.cell? ⟨b,j,none⟩=some u):(Y9 W R x0 x1 x2 x3 x4 x5 x6 x7 x8 x9 x10 x11).drew.cell? ⟨b,j,none⟩=some u:=(Ri _ _).trans ((World.cell?_of_block (Xz h)).trans hc)
def Dp:Prop:=∀ (S0 S1:Nat->Prop) (s:Sc) (cs:List Value) (lv:Value) (l:List Rel) (w:World),Vj S0 w cs s->Sl Yx S1 w lv l->l.length=s.tables.length->E9 s.sums->(∀ t ∈ s.tables,Rp t)->(∀ r ∈ l,∀ v ∈ r.rows,Vo v) ->
  Calls prog 77 #[cs,lv] w (Ku w s l (cfR s l))
theorem Qvf (S:Nat->Prop) (v:Value) (l:List Int) (w:World) (hs:Xa S w v l) (hi:Uh l) (hk:Yo l 0 13=5):
  Calls prog 27 #[v,Qxc] w (J8 w (Gen.check 5)):=by
 have HP:=Qq (fun W (hb:Below w w W)=>Yr S v l 0 13 W (hs.below hb) hi Qvu Qvu)
 rw [hk] at HP
 obtain ⟨p,cap,rfl,_⟩:=hs.len
 clear hs hi hk
 go_enter func27,ntmps27
 go_upto_region 8 with fail
 generalize Z:(((((((w.alloc _).alloc _).alloc _).alloc _).alloc _).alloc _).alloc _).alloc _=W8
 have aN:=eqB Z (Zs (Zs (Zs (Zs (Zs (Zs (Zs (Ze w _) _) _) _) _) _) _) _)
 have bX:W8=w.heap.size+8:=by rw [<- Z];simp
 have r8:=eqH (b:=w.heap.size) Z (Zb (Zb (Zb (Zb (Zb (Zb (Zb (Y3 rfl _) _) _) _) _) _) _) _)
 have A:=((((Xq.row (show W8.heap[w.heap.size+1+1+1+1]?=some (.cells zQ 59 (0,0)) from by rw [<- Z];exact Zb (Zb (Zb (Y3 Qxz _) _) _) _)).app (Xq.row (show W8.heap[w.heap.size+1]?=some (.cells #[.int .i64 3,.string ⟨#[97]⟩,Qxc,Qxd,Qxe,Qxe,Qxe,Qxc,Qxc] 59 (0,0)) from by rw [<- Z];exact Zb (Zb (Zb (Zb (Zb (Zb (Y3 Qxz _) _) _) _) _) _) _))).app (Xq.row (show W8.heap[w.heap.size+1+1]?=some (.cells #[.int .i64 3,.string ⟨#[98]⟩,Qxc,Qxd,Qxe,Qxe,Qxe,Qxc,Qxc] 59 (0,0)) from by rw [<- Z];exact Zb (Zb (Zb (Zb (Zb (Y3 Qxz _) _) _) _) _) _))).app (Xq.row (show W8.heap[w.heap.size+1+1+1]?=some (.cells #[.int .i64 3,.string ⟨#[99]⟩,Qxc,Qxd,Qxe,Qxe,Qxe,Qxc,Qxc] 59 (0,0)) from by rw [<- Z];exact Zb (Zb (Zb (Zb (Y3 Qxz _) _) _) _) _)))
 have hG:=(Un (Un (Un (X8 (show w<w.heap.size+1+1+1+1 by omega) (.int .i64 3) (.string ⟨#[100]⟩) (.int .i64 0) (.string ⟨#[]⟩) (.slice none 0 0) (.slice none 0 0) (.slice none 0 0) (.int .i64 0) (.int .i64 0)) (X8 (show w<w.heap.size+1 by omega) (.int .i64 3) (.string ⟨#[97]⟩) (.int .i64 0) (.string ⟨#[]⟩) (.slice none 0 0) (.slice none 0 0) (.slice none 0 0) (.int .i64 0) (.int .i64 0))) (X8 (show w<w.heap.size+1+1 by omega) (.int .i64 3) (.string ⟨#[98]⟩) (.int .i64 0) (.string ⟨#[]⟩) (.slice none 0 0) (.slice none 0 0) (.slice none 0 0) (.int .i64 0) (.int .i64 0))) (X8 (show w<w.heap.size+1+1+1 by omega) (.int .i64 3) (.string ⟨#[99]⟩) (.int .i64 0) (.string ⟨#[]⟩) (.slice none 0 0) (.slice none 0 0) (.slice none 0 0) (.int .i64 0) (.int .i64 0)))
 have aK:=Qq aN;have HR:=Qq r8
 clear Z aN r8 bX
 go_upto_region 18 with (go_at_call 28;refine (HP.out _ aK.out).mono ?_;rintro e w' ⟨rfl,rfl⟩)
 refine let_mvar% ?Lq1:=fun w':World=>(Qyw w' (w+1+1+1+1) (.int .i64 3) (.string ⟨#[100]⟩) Qxc Qxd Qxe Qxe Qxe Qxc Qxc ((Qyw w' (w+1) (.int .i64 3) (.string ⟨#[97]⟩) Qxc Qxd Qxe Qxe Qxe Qxc Qxc ((Qyw w' (w+1+1) (.int .i64 3) (.string ⟨#[98]⟩) Qxc Qxd Qxe Qxe Qxe Qxc Qxc ((Qye w' (w+1+1+1) (.int .i64 3) (.string ⟨#[99]⟩) Qxc Qxd Qxe Qxe Qxe Qxc Qxc:Prop)):Prop)):Prop)):Prop);?_
 have HS:=Qq (fun w' (h:Xq (Jn (w+1+1+1+1) (.int .i64 3) (.string ⟨#[100]⟩) (.int .i64 0) (.string ⟨#[]⟩) (.slice none 0 0) (.slice none 0 0) (.slice none 0 0) (.int .i64 0) (.int .i64 0)++Jn (w+1) (.int .i64 3) (.string ⟨#[97]⟩) (.int .i64 0) (.string ⟨#[]⟩) (.slice none 0 0) (.slice none 0 0) (.slice none 0 0) (.int .i64 0) (.int .i64 0)++Jn (w+1+1) (.int .i64 3) (.string ⟨#[98]⟩) (.int .i64 0) (.string ⟨#[]⟩) (.slice none 0 0) (.slice none 0 0) (.slice none 0 0) (.int .i64 0) (.int .i64 0)++Jn (w+1+1+1) (.int .i64 3) (.string ⟨#[99]⟩) (.int .i64 0) (.string ⟨#[]⟩) (.slice none 0 0) (.slice none 0 0) (.slice none 0 0) (.int .i64 0) (.int .i64 0)) w')=>(show ?Lq1 w' from Xq.spread h))
 have HG:=Qq hG
 have aL:=Qq (fun w' z0 z1 z2 z3 z4 z5 z6 z7 z8 (h:Xq _ w')=>HS.out _ (h.put9 HG.out z0 z1 z2 z3 z4 z5 z6 z7 z8))
 unfold put9 at aL
 have D:=aK
 clear hG
 obtain ⟨aC,aD,aE,aF⟩:=Qxo True.intro True.intro True.intro True.intro
 go_region_held3 ?Lq1 (first | with_reducible exact HS.out _ A | with_reducible exact HS.out _ A.drew | with_reducible exact HS.out _ (A.alloc _) | with_reducible exact HS.out _ (A.alloc _).drew | with_reducible exact HS.out _ ((A.alloc _).alloc _) | with_reducible exact HS.out _ ((A.alloc _).alloc _).drew | with_reducible exact HS.out _ (((A.alloc _).alloc _).alloc _) | with_reducible exact aL.out _ _ _ _ _ _ _ _ _ _ A)
  (first
   | (have hn:=I.out;clear hn;(repeat (first
      | (have hn:=I.out;clear hn;have hk:=aE.out;clear aE hk;generalize aH:World.alloc _ (Obj.cells #[.int .i64 3,.string ⟨#[100]⟩,Qxc,Qxd,Qxe,Qxe,Qxe,Qxc,Qxc,bB,.string bF,bD,.string bH,.slice aT bL bR,.slice aV bN bT,.slice aX bP bV,aZ,bJ,bC,.string bG,bE,.string bI,.slice aU bM bS,.slice aW bO bU,.slice aY bQ bW,bA,bK] 59 _)=WK;have aB:=Ve aH;have aO:=Jr aH;have aP:=Fy aH HR.out;have Y:=A.later aB;clear A;have A:=Y;clear Y;have T:=Qq (Yh aB HR.out);clear HR;have HR:=T;clear T;have N:=Qq (D.out.thn aB);clear D;have D:=N;clear N;(try (have V:=Qq (U.out.move (.of_below aB) Qyv);clear U;have U:=V;clear V));(try (have V:=Qq (I.out.move (.of_below aB) Qyv);clear I;have I:=V;clear V));have O:=Qq aO;have aS:=Qq aP;clear aH aB aO aP)
      | fail));have hn:=O.out;clear hn;have hk:=aF.out;clear aF hk;obtain ⟨⟨f0,f1,f2,f3,f4,f5,f6,f7,f8⟩,y0,y1,y2,y3,y4,y5,y6,y7,y8⟩:=Qvv HR.out;go_simp)
   | (have hn:=U.out;clear hn;have hk:=aD.out;go_at_call 75;refine (Vg w [61,61] _ _ _ _ _ Qxz (by exact (Yq 3 [99] 0 [] Qxz Qxz)) (by exact (Yq 3 [99] 0 [] Qxz Qxz)) (by exact Z8 HR.out)).mono ?_;rintro e W2 ⟨bC,bG,bE,bI,aU,bM,bS,aW,bO,bU,aY,bQ,bW,bA,bK,rfl,aR,M⟩;clear aD hk;(try (have aG:=Vm M;clear M;have M:=aG;clear aG));have Y:=A.later M;clear A;have A:=Y;clear Y;have T:=Qq (Yh M HR.out);clear HR;have HR:=T;clear T;have N:=Qq (D.out.thn M);clear D;have D:=N;clear N;(try (have V:=Qq (Yh M O.out);clear O;have O:=V;clear V));(try (have V:=Qq (U.out.move (.of_below M) Qyv);clear U;have U:=V;clear V));have I:=Qq aR;clear aR M)
   | (have hk:=aC.out;go_at_call 75;refine (Vg w [60] _ _ _ _ _ Qxz (by exact (Yq 3 [97] 0 [] Qxz Qxz)) (by exact (Yq 3 [98] 0 [] Qxz Qxz)) (by exact Z8 HR.out)).mono ?_;rintro e W1 ⟨bB,bF,bD,bH,aT,bL,bR,aV,bN,bT,aX,bP,bV,aZ,bJ,rfl,aQ,J⟩;clear aC hk;(try (have aG:=Vm J;clear J;have J:=aG;clear aG));have Y:=A.later J;clear A;have A:=Y;clear Y;have T:=Qq (Yh J HR.out);clear HR;have HR:=T;clear T;have N:=Qq (D.out.thn J);clear D;have D:=N;clear N;(try (have V:=Qq (Yh J O.out);clear O;have O:=V;clear V));(try (have V:=Qq (I.out.move (.of_below J) Qyv);clear I;have I:=V;clear V));have U:=Qq aQ;clear aQ J)
   | fail)
 all_goals
  go_wp2_with fail
  show bodyPost _ _ _ _ _ (put9 _ w (.int .i64 12) Qxd Qxc Qxd Qxe Qxe (Qxa _ 0 3 3) Qxc Qxc)
  exact Q7 (v:=.agg #[.int .i64 12,Qxd,Qxc,Qxd,Qxe,Qxe,Qxa _ 0 3 3,Qxc,Qxc]) (by simp [results,results27,go_sem,Xb HR.out]) rfl (Ug (Xv (nm:=[]) (s:=[]) Qxz Qxz (Sl.nil _ _ _) (Sl.nil _ _ _) (Y2 (xs:=[Gen.d,Gen.op [60] [Gen.a,Gen.b],Gen.op [61,61] [Gen.c,Gen.c]]) O.out aS.out (((Cs.one (r:=Vw) (Yq 3 [100] 0 [] Qxz Qxz)).app (Cs.one (r:=Vw) U.out)).app (Cs.one (r:=Vw) I.out)) rfl rfl Qxz)) D.out rfl)
end Go.Proofs.YtlanplhphiikjaaGreatDoor
