import Derived.Test.YtlanplhphiikjaaGreatDoorF19
import Derived.Test.YtlanplhphiikjaaGreatDoorF26
set_option maxRecDepth 100000
set_option maxHeartbeats 400000000
namespace Go.Proofs.YtlanplhphiikjaaGreatDoor
open Go.RowKit Go.Shelf Go.Lib Tryz
def FirstF (n:Nat) (cf:Nat->Nat->Ft) (nm:Nat->Bs) (f:Ft):Prop:=
 (f=Ft.zero/\∀ c i,c<5->i<n->(cf c i).code=0) \/
 ∃ c i,c<5/\i<n/\(cf c i).code≠0/\f=⟨(cf c i).code,nm i,(cf c i).row,(cf c i).other⟩/\∀ c' i',i'<n->(c'<c\/c'=c/\i'<i)->(cf c' i').code=0
def J6:Nat->Nat
 | 0=>59
 | 1=>60
 | 2=>65
 | 3=>67
 | _=>69
def Ut (B C:Nat):Nat->Array Value
 | 1=>#[.pointer (some ⟨B,0,none⟩)]
 | 3=>#[.pointer (some ⟨B,0,none⟩),.pointer (some ⟨C,0,none⟩)]
 | _=>#[]
def ConOk (w:World) (s:Sc) (cs:List Value) (lv:Value) (l:List Rel) (cf:Nat->Nat->Ft):Prop:=
 ∀ c,c<5->∀ (i:Nat) (t:Tbl) (r:Rel),s.tables[i]?=some t->l[i]?=some r->(∀ c' i',c'<c->i'<s.tables.length->(cf c' i').code=0)->∀ (B C:Nat) (W:World) (ct:List Value) (rv:Value),Below w w W->W.heap[B]?=some (.cells cs.toArray 27 (0,0))->W.cell? ⟨C,0,none⟩=some lv ->
  Zg.R (fun b=>b<w) W ct t->Sl Zc (fun b=>b<w) W rv r.rows->Calls prog (J6 c) (#[.agg ct.toArray,rv]++Ut B C c) W (Gq (fun b=>b<w) W (cf c i))
def CheckIs (w:World) (s:Sc) (l:List Rel) (cf:Nat->Nat->Ft) (e:Ending) (w':World):Prop:=
 ∃ f,(Kr s l=true->FirstF s.tables.length cf (fun i=>((s.tables[i]?).getD Tbl.zero).name) f)/\(Kr s l=false->f=⟨1,[],Val.zero,Val.zero⟩)/\Gq (fun b=>b<w) w f e w'
theorem Gt {w W:World} {o:Obj} (h:Below (w.alloc o).drew.heap.size (w.alloc o).drew W):W.heap[w.heap.size]?=some o:=
 kE h Od (by rw [heap_drew];exact Qw w o)
theorem Nh (S0 S1:Nat->Prop) (s:Sc) (cs:List Value) (lv:Value) (l:List Rel) (w:World) (hs0:Ug S0 w cs s) (hl0:Sl Yd S1 w lv l) (cf:Nat->Nat->Ft) (hcon:ConOk w s cs lv l cf):
  Calls prog 25 #[cs,lv] w (CheckIs w s l cf):=by
 have hN:=Qq (fun W (hb:Below w w W)=>Mv S0 S1 s cs lv l W (hs0.below hb) (hl0.below hb))
 obtain ⟨uv,tv,rfl,hX,hV⟩:=hs0
 have hu:Sl Vi (fun b=>b<w) w uv s.sums:=hX.mono (fun b hb _=>hb)
 have ht:Sl Zg (fun b=>b<w) w tv s.tables:=hV.mono (fun b hb _=>hb)
 have hl:Sl Yd (fun b=>b<w) w lv l:=hl0.mono (fun b hb _=>hb)
 obtain ⟨up,uc,rfl,_⟩:=hu.len
 obtain ⟨tp,tc,rfl,iX⟩:=ht.len
 obtain ⟨lp,lc,rfl,_⟩:=hl.len
 obtain ⟨HT,HL,gK⟩:=Px ht hl hcon
 clear hX hV hl0 hu ht hl hcon
 obtain ⟨nb,fP⟩:=eX (Kr s l)
 rw [fP] at hN
 have bR:=Qq fP
 clear fP
 cases nb with
 | false=>
  go_enter func25,ntmps25
  go_wp2_with fail
  refine (hN.out _ (Yr _ _ _ _)).mono ?_
  rintro e w1 ⟨rfl,aI⟩
  have D:=Qq ((aI.block (w+2) Od).trans (Z9 w _ _ _))
  have aD:=Qq ((Yr w _ _ _).thn aI)
  have rz:=fun j=>Qg _ _ j _ _ D.out
  have rr:=fun j=>Qk _ _ j _ _ _ D.out
  obtain ⟨eA,eB,eC,eD,eE,eF,eG,eH,eI,eJ,bE,bF⟩:=P5 rz
  obtain ⟨aM,aN,aO,aP,aQ,aR,aS,aT,aU,aV,J,L⟩:=P5 rr
  simp only [Qa,Qb,Qc] at aM aN aO aP aQ aR aS aT aU aV J L
  clear rz rr aI
  go_wp2_with fail
  show bodyPost _ _ _ _ _ (Y8 w1 (w+1+1) (.int .i64 1) Oo On On Oo Ot Ot On On Oo Ot Ot)
  refine Q2 (v:=.agg #[.int .i64 1,Oo,On,On,Oo,Ot,Ot,On,On,Oo,Ot,Ot]) (by simp [results,results25,go_sem,Y4 D.out]) rfl ⟨⟨1,[],Val.zero,Val.zero⟩,fun h=>absurd bR.out (by rw [h];decide),fun _=>rfl,[.int .i64 1,Oo,On,On,Oo,Ot,Ot,On,On,Oo,Ot,Ot],rfl,⟨_,_,rfl,Od,Yk _ _,Yk _ _⟩,Yq aD.out Oa⟩
 | true=>
  go_enter func25,ntmps25
  go_wp2_with (go_at_call 58;refine (hN.out _ (Yr _ _ _ _)).mono ?_;rintro e w1 ⟨rfl,aI⟩)
  generalize fM:w1.alloc _=W3
  have cH:=eqB fM (Zb _ _)
  have fK:=eqH (b:=w1.heap.size) fM (Qw _ _)
  have jE:w.heap.size+3<=w1.heap.size:=by have:=aI.size;simp at this;omega
  have hA:=(aI.block w (by simp;omega)).trans (Ze w _ _ _)
  have hF:=(aI.block (w+1) Od).trans (Zf w _ _ _)
  have hL:=(aI.block (w+2) Od).trans (Z9 w _ _ _)
  have gH:=Qq (cH.block w Oa |>.trans hA)
  have gI:=Qq (cH.block (w+1) Oa |>.trans hF)
  have bT:=Qq (cH.block (w+2) Oa |>.trans hL)
  have iF:=Qq fK
  have aY:=Qq (((Yr w _ _ _).thn aI).thn cH)
  have hU:w1.heap.size<W3.heap.size:=Z3 fK
  clear fM cH fK aI hA hF hL
  have hS:l.length=s.tables.length:=by
   refine Decidable.byContradiction fun h=>?_
   have O:=bR.out
   unfold Kr at O
   rw [Jw _ _ _ (fun e=>h e.symm)] at O
   cases O
  have fD:=Qq hS
  clear hS
  obtain ⟨n,hn⟩:=eX (s.tables.length)
  rw [hn] at iX
  rw [hn] at fD
  rw [hn] at HT
  rw [hn]
  have HN:=Qq hn
  clear hn
  have mixed:(prog).follows .mixedOrders=true:=Og
  go_loopw [21] (fun i wr=>∃ c:Nat,c<=5/\i=.int .i64 c/\Below W3 W3 wr/\Aside (∀ c' i',c'<c->i'<n->(cf c' i').code=0)) (fun i _=>5 - (intOf i).toNat)
  case atStart=>exact ⟨0,Q3 _,rfl,Qz _ _,fun _ _ h=>absurd h (Z1 _)⟩
  obtain ⟨c,jL,rfl,hD,hI⟩:=hrel
  generalize h6:wr=w6 at *
  have bP:=Qq hD;have HI:=Qq hI.out
  clear hD hI
  by_cases hlt:c<5
  ·have jM:(0:Int)<=(c:Int):=Oa
   have jN:(c:Int)<5:=Oa
   have hK:=kE bP.out hU iF.out
   have fL:w6.cell? ⟨w1,c,none⟩=some (.func (.func (J6 c)) #[] (Ut w (w+1) c)):=by
    rw [Qk _ _ _ _ _ _ hK]
    match c,hlt with
    | 0,_=>rfl
    | 1,_=>rfl
    | 2,_=>rfl
    | 3,_=>rfl
    | 4,_=>rfl
   have iR:∀ args w,(callFunc (J6 c) args).run prog w=.ok (.enter (J6 c) args) w:=by
    match c,hlt with
    | 0,_=>exact enters_of func59 Og rfl
    | 1,_=>exact enters_of func60 Og rfl
    | 2,_=>exact enters_of func65 Og rfl
    | 3,_=>exact enters_of func67 Og rfl
    | 4,_=>exact enters_of func69 Og rfl
   have fJ:=gK.out c hlt
   generalize J6 c=g at fL iR fJ
   have gJ:=Qq (fun i t r h1 O W ct rv=>fJ i t r h1 O (fun c' i' h3 h4=>HI.out c' i' h3 (by rw [<- HN.out];exact h4)) w (w+1) W ct rv)
   generalize Ut w (w+1) c=lb9 at fL gJ
   have hB:=kB bP.out gH.out
   have b1:=rA1 hB
   rw [HN.out] at b1
   clear hK fJ hB
   go_wp2_with fail
   go_loopw [28] (fun i wr=>∃ k:Nat,k<=n/\i=.int .i64 k/\Below W3 W3 wr/\Aside (∀ i',i'<k->(cf c i').code=0)) (fun i _=>n - (intOf i).toNat)
   case atStart=>exact ⟨0,Q3 _,rfl,bP.out,fun _ h=>absurd h (Z1 _)⟩
   obtain ⟨i,jP,rfl,hE,hJ⟩:=hrel
   have aE:=Qq hE;have HJ:=Qq hJ.out
   clear hE hJ b1 fL
   by_cases hli:i<n
   ·have jO:(0:Int)<=(i:Int):=Oa
    have hP:(i:Int)<(n:Int):=Oa
    obtain ⟨t,ht⟩:∃ t,s.tables[i]?=some t:=⟨_,Qx (by rw [HN.out];exact hli)⟩
    obtain ⟨r,hr⟩:∃ r,l[i]?=some r:=⟨_,Qx (by rw [fD.out];exact hli)⟩
    have eO:=Qq (aY.out.trans (aE.out.mono aY.out.size))
    obtain ⟨tb,jF,ct,rfl,iW,_,fT,fS,I⟩:=(HT.out.below eO.out).elem ht
    obtain ⟨lb,eW,cl,rfl,hQ,_,fO,iT,hR⟩:=(HL.out.below eO.out).elem hr
    obtain ⟨cC,cB,cT,cS,dX,dW,k9,eK,n9,eL,dJ,cU,bY,dK,cV,bZ,dL,cW,cA,a9,z9,cM,hW,_⟩:=Zr fS
    simp only [tcs] at cM
    subst cM
    obtain ⟨rv,rfl,_,fQ⟩:=iT
    obtain ⟨rp,rc,rfl,_⟩:=fQ.len
    have l1:=hR 1 _ rfl
    have d0:=I 0 _ rfl
    have d1:=I 1 _ rfl
    have d2:=I 2 _ rfl
    have d3:=I 3 _ rfl
    have d4:=I 4 _ rfl
    have d5:=I 5 _ rfl
    have d6:=I 6 _ rfl
    have d7:=I 7 _ rfl
    have d8:=I 8 _ rfl
    have d9:=I 9 _ rfl
    have gT:=I 10 _ rfl
    have gU:=I 11 _ rfl
    have gV:=I 12 _ rfl
    simp only [show Zg.k=13 from rfl,show Yd.k=2 from rfl,Nat.add_zero] at l1 d0 d1 d2 d3 d4 d5 d6 d7 d8 d9 gT gU gV
    have hH:=kB aE.out gI.out
    have c0:=rA0 hH
    have jD:(i:Int)<(l.length:Int):=by rw [fD.out];exact hP
    obtain ⟨iJ,iH,fG,iG⟩:=Py fS fQ ht hr
    clear fS fQ ht hr I hR hH fT fO
    go_upto_region 10 with fail
    obtain ⟨M,cG⟩:=eX (wr.alloc (.cells (Pj t cC cB cT cS dX dW k9 eK n9 eL dJ cU bY dK cV bZ dL cW cA a9 z9) 61))
    rw [cG]
    have bI:=eqB cG (Zb _ _)
    have fN:=eqH (b:=wr.heap.size) cG (Qw _ _)
    have eV:M=wr.heap.size+1:=by rw [<- cG];simp
    have eT:w.heap.size+1<wr.heap.size:=Qv wr _ c0
    have aX:=Qq (show w+2<=wr.heap.size from by have:=Z3 bT.out;have:=aE.out.size;omega)
    have hC:w.heap.size+2<=wr.heap.size:=by have:=Z3 bT.out;have:=aE.out.size;omega
    have cP:lb<wr.heap.size:=hQ
    refine let_mvar% ?Lq1:=fun w':World=>(Pc w' wr t.name (.slice cC t.columns.length cB) (.slice cT t.key.length cS) (.slice dX t.refs.length dW) k9 (.string eK) n9 (.string eL) (.slice dJ cU bY) (.slice dK cV bZ) (.slice dL cW cA) a9 z9 (Oi w' (w+1) 0 (Ol lb eW l.length lc)/\Oi w' lb (eW+i*2+1) (.slice rp r.rows.length rc)/\Below M M w'):Prop);?_
    have HS:∀ w',Below M M w'->?Lq1 w':=by
     intro w' h
     have hx:∀ {j:Nat} {u:Value},#[.string ⟨t.name.toArray⟩,.slice cC t.columns.length cB,.slice cT t.key.length cS,.slice dX t.refs.length dW,.int .i64 k9,.string eK,.int .i64 n9,.string eL,.slice dJ cU bY,.slice dK cV bZ,.slice dL cW cA,.int .i64 a9,.int .i64 z9][j]?=some u->w'.cell? ⟨wr,j,none⟩=some u:=fun {j u} hu=>by
      rw [h.cell (p:=⟨wr,j,none⟩) (by show wr<M.heap.size;omega),Qk _ _ j _ _ _ fN];exact hu
     have hh:∀ {b j:Nat} {u:Value},b<wr->wr.cell? ⟨b,j,none⟩=some u->w'.cell? ⟨b,j,none⟩=some u:=fun {b j u} hlt hc=>kD (bI.thn h) hlt hc
     exact ⟨hx rfl,hx rfl,hx rfl,hx rfl,hx rfl,hx rfl,hx rfl,hx rfl,hx rfl,hx rfl,hx rfl,hx rfl,hx rfl,hh eT c0,hh cP l1,h⟩
    have N:∀ w',?Lq1 w'->Below M M w':=fun w' h=>h.2.2.2.2.2.2.2.2.2.2.2.2.2.2.2
    have fH:∀ w' eR,?Lq1 w'->Below w' w' eR->?Lq1 eR:=fun w' eR h O=>HS eR ((N w' h).thn O)
    have gG:∀ w' o,?Lq1 w'->?Lq1 (w'.alloc o):=fun w' o h=>fH w' _ h (Zb _ _)
    have fF:∀ w' g0 g1 g2 g3 g4 g5 g6 g7 g8 g9 gW gX,?Lq1 w'->?Lq1 (Y8 w' M g0 g1 g2 g3 g4 g5 g6 g7 g8 g9 gW gX):=fun w' g0 g1 g2 g3 g4 g5 g6 g7 g8 g9 gW gX h=>HS _ (Yq (N w' h) (Q4 _))
    unfold Y8 at fF
    have cK:Below w w M:=eO.out.trans (bI.mono eO.out.size)
    have bQ:∀ W',?Lq1 W'->Calls prog g (#[.agg (Pj t cC cB cT cS dX dW k9 eK n9 eL dJ cU bY dK cV bZ dL cW cA a9 z9),.slice rp r.rows.length rc]++lb9) W' fun e w2=>∃ Z T p4 U q3 V q4 Y,e=.returned (.agg #[.int .i64 (cf c i).code,.string ⟨(cf c i).table.toArray⟩,.int .i64 (cf c i).row.kind,.int .i64 (cf c i).row.n,.string ⟨(cf c i).row.s.toArray⟩,.slice Z (cf c i).row.names.length T,.slice p4 (cf c i).row.kids.length U,.int .i64 (cf c i).other.kind,.int .i64 (cf c i).other.n,.string ⟨(cf c i).other.s.toArray⟩,.slice q3 (cf c i).other.names.length V,.slice q4 (cf c i).other.kids.length Y])/\Dl (fun b=>b<w) w2 [.int .i64 (cf c i).code,.string ⟨(cf c i).table.toArray⟩,.int .i64 (cf c i).row.kind,.int .i64 (cf c i).row.n,.string ⟨(cf c i).row.s.toArray⟩,.slice Z (cf c i).row.names.length T,.slice p4 (cf c i).row.kids.length U,.int .i64 (cf c i).other.kind,.int .i64 (cf c i).other.n,.string ⟨(cf c i).other.s.toArray⟩,.slice q3 (cf c i).other.names.length V,.slice q4 (cf c i).other.kids.length Y] (cf c i)/\?Lq1 w2/\Below W' W' w2:=by
     intro W' h'
     have iP:=cK.trans ((N W' h').mono cK.size)
     have hM:=aE.out.trans (((bI.thn (N W' h'))).mono aE.out.size)
     refine (gJ.out i t r fG.out iG.out W' (Pj t cC cB cT cS dX dW k9 eK n9 eL dJ cU bY dK cV bZ dL cW cA a9 z9) (.slice rp r.rows.length rc) iP ?_ ?_ ?_ ?_).mono ?_
     ·exact kB hM gH.out
     ·have:=kB hM gI.out
      rw [Qk _ _ _ _ _ _ this];rfl
     ·exact Zg.frame iJ.out (.of_below (bI.thn (N W' h')))
     ·exact iH.out.below (bI.thn (N W' h'))
     rintro e w2 ⟨jH,rfl,bK,bH⟩
     obtain ⟨Z,T,p4,U,q3,V,q4,Y,cM,_⟩:=Va bK
     simp only [fcs] at cM
     subst cM
     exact ⟨Z,T,p4,U,q3,V,q4,Y,rfl,bK,fH _ _ h' bH,bH⟩
    obtain ⟨fC,aW,bO,eP⟩:=Py (HS M.drew (Qz _ _).drew) N gG bQ
    have bS:=Qq fF;have fB:=Qq (fun o=>HS (M.alloc o).drew (Zb _ _).drew)
    have G:=Qq eV
    have gP:=Qq fN;have bL:=Qq (aE.out.trans (bI.mono aE.out.size))
    clear HS fF N fH gG bQ cK fN bI cG l1 c0 d0 d1 d2 d3 d4 d5 d6 d7 d8 d9 gT gU gV eT cP iW hQ eV hC
    generalize hO:cf c i=f at eP
    have bM:=Qq hO;have gO:=Qq hW
    clear hO hW
    go_region_held3 ?Lq1 (first | with_reducible exact fC.out | with_reducible exact aZ | with_reducible exact fB.out _ | with_reducible exact bO.out _ _ aZ | with_reducible exact bS.out _ _ _ _ _ _ _ _ _ _ _ _ _ aZ)
     (first
      | (go_at_fn g;refine (eP.out _ Oh).mono ?_;rintro e w2 ⟨Z,T,p4,U,q3,V,q4,Y,rfl,bK,aZ,bH⟩;try (have r2:=Gt bH;obtain ⟨f0,f1,f2,f3,f4,f5,f6,f7,f8,f9,jI,jJ⟩:=frz12 r2;obtain ⟨y0,y1,y2,y3,y4,y5,y6,y7,y8,y9,jQ,jR⟩:=row12 r2;have jG:=Qq r2;clear r2)))
    ·obtain ⟨W6,aG⟩:=eX (w2.alloc (.cells (Pz f.code f.table f.row Z T p4 U f.other q3 V q4 Y) 69))
     have bG:=eqH (b:=w2.heap.size) aG (Qw _ _)
     have eU:=eqB aG (Zb _ _)
     have bJ:Below M M W6:=(aW.out _ aZ).thn eU
     have cN:Dl (fun b=>b<w) W6 (Pz f.code f.table f.row Z T p4 U f.other q3 V q4 Y) f:=bK.move (.of_below eU) P8
     have cD:M.heap.size<=w2.heap.size:=(aW.out _ aZ).size
     rw [aG]
     obtain ⟨aD,eZ,bU,aJ⟩:=Py (bL.out.trans (bJ.mono bL.out.size)) cN bG cD
     have cF:=kB bJ gP.out
     have t0:=rA0 cF
     have n0:=rA0 bG
     have iI:=Qq t0
     have D:=Qq (kB aD.out bT.out)
     clear aG bG bJ cN cD cF bK aZ bH fC fB aW bO bS eP
     by_cases hz:f.code=0
     ·have hq:(f.code != 0)=false:=by rw [hz];rfl
      clear t0
      go_wp2_with fail
      go_roundw
      case measure=>simp [intOf];omega
      case rel=>
       refine ⟨i+1,Oa,by go_num,aD.out,(show Aside _ from fun i' eQ=>?_)⟩
       by_cases e:i'=i
       ·subst e
        rw [bM.out]
        exact hz
       exact HJ.out i' Oa
     have hq:(f.code != 0)=true:=by simpa using hz
     have HZ:=Qq hz
     clear hz
     have nz:=fun j=>Qg _ _ j _ _ bU.out
     have nr:=fun j=>Qk _ _ j _ _ _ bU.out
     have rz:=fun j=>Qg _ _ j _ _ D.out
     have rr:=fun j=>Qk _ _ j _ _ _ D.out
     obtain ⟨fU,fV,fW,fX,fY,fZ,gA,gB,gC,gD,dH,dI⟩:=P5 nz
     obtain ⟨cX,cY,cZ,dA,dB,dC,dD,dE,dF,dG,bA,bB⟩:=P5 nr
     obtain ⟨eA,eB,eC,eD,eE,eF,eG,eH,eI,eJ,bE,bF⟩:=P5 rz
     obtain ⟨aM,aN,aO,aP,aQ,aR,aS,aT,aU,aV,J,L⟩:=P5 rr
     simp only [Qa,Qb,Qc] at cX cY cZ dA dB dC dD dE dF dG bA bB aM aN aO aP aQ aR aS aT aU aV J L
     have cQ:w2≠w.heap.size+1+1:=by have:=aX.out;have:=G.out;have:=aJ.out;omega
     have cR:w.heap.size+1+1≠w2.heap.size:=fun e=>cQ e.symm
     have hT:w2.heap.size≠wr.heap.size:=Oc G.out aJ.out
     clear nz nr rz rr n0
     go_wp2_with fail
     obtain ⟨V7,aF⟩:=eX (W6.setCell ⟨w2,1,none⟩ (.string ⟨t.name.toArray⟩))
     rw [aF]
     have cE:V7.heap[w.heap.size+1+1]?=some (.cells zF 69 (0,0)):=by rw [<- aF,Z4 cR];exact D.out
     have fE:=Qq (fun b (hb:b<w.heap.size)=>show V7.heap[b]?=W6.heap[b]? by rw [<- aF];exact Z4 (by show b≠w2;have:=aX.out;have:=G.out;have:=aJ.out;omega))
     have cI:Below W3 W3 V7:=by rw [<- aF];exact aD.out.setCell (p:=⟨w2,1,none⟩) (by show W3<=w2.heap.size;have:=aE.out.size;have:=G.out;have:=aJ.out;omega) _
     have eY:=Qq (aY.out.trans (cI.mono aY.out.size))
     show bodyPost _ _ _ _ _ (Y8 V7 (w+1+1) f.code t.name f.row.kind f.row.n f.row.s (.slice Z f.row.names.length T) (.slice p4 f.row.kids.length U) f.other.kind f.other.n f.other.s (.slice q3 f.other.names.length V) (.slice q4 f.other.kids.length Y))
     have q:=fun j=>Y4 (a0:=.int .i64 f.code) (a1:=.string ⟨t.name.toArray⟩) (a2:=.int .i64 f.row.kind) (a3:=.int .i64 f.row.n) (a4:=.string ⟨f.row.s.toArray⟩) (a5:=.slice Z f.row.names.length T) (a6:=.slice p4 f.row.kids.length U) (a7:=.int .i64 f.other.kind) (a8:=.int .i64 f.other.n) (a9:=.string ⟨f.other.s.toArray⟩) (a10:=.slice q3 f.other.names.length V) (a11:=.slice q4 f.other.kids.length Y) cE j
     generalize aK:Y8 V7 (w+1+1) f.code t.name f.row.kind f.row.n f.row.s (.slice Z f.row.names.length T) (.slice p4 f.row.kids.length U) f.other.kind f.other.n f.other.s (.slice q3 f.other.names.length V) (.slice q4 f.other.kids.length Y)=W9 at q
     have cJ:Below w w W9:=by rw [<- aK];exact Yq eY.out Oa
     have cO:Dl (fun b=>b<w) W9 (Pz f.code f.table f.row Z T p4 U f.other q3 V q4 Y) f:=eZ.out.move (fun b hb _=>by rw [<- aK,Y9 (by have:b<w.heap.size:=hb;omega)];exact fE.out b hb) P8
     obtain ⟨dM,dN,dO,dP,dQ,dR,dS,dT,dU,dV,bC,bD⟩:=P5 q
     simp only [Qa,Qb,Qc] at dM dN dO dP dQ dR dS dT dU dV bC bD
     have N:=Qq cJ;have fA:=Qq cO
     try rw [aK]
     clear q cJ cO aK aF cE cI fU cX eA aM fV cY eB aN fW cZ eC aO fX dA eD aP fY dB eE aQ fZ dC eF aR gA dD eG aS gB dE eH aT gC dF eI aU gD dG eJ aV dH bA bE J dI bB bF L
     refine Q2 (v:=.agg (Pz f.code t.name f.row Z T p4 U f.other q3 V q4 Y)) (by simp [results,results25,go_sem,dM,dN,dO,dP,dQ,dR,dS,dT,dU,dV,bC,bD]) rfl ⟨⟨f.code,t.name,f.row,f.other⟩,fun _=>.inr ⟨c,i,hlt,by rw [HN.out];exact hli,by rw [bM.out];exact HZ.out,?_,?_⟩,fun h=>absurd bR.out (by rw [h];decide),Pz f.code t.name f.row Z T p4 U f.other q3 V q4 Y,rfl,?_,N.out⟩
     ·show (⟨_,_,_,_⟩:Ft)=⟨(cf c i).code,((s.tables[i]?).getD Tbl.zero).name,(cf c i).row,(cf c i).other⟩
      rw [bM.out,fG.out];rfl
     ·intro c' i' h1 O
      rcases O with O | ⟨rfl,O⟩
      ·exact HI.out c' i' O (by rw [<- HN.out];exact h1)
      exact HJ.out i' O
     obtain ⟨c1,c2,aL,_,O,h3⟩:=fA.out
     have cL:c1=[.int .i64 f.row.kind,.int .i64 f.row.n,.string ⟨f.row.s.toArray⟩,.slice Z f.row.names.length T,.slice p4 f.row.kids.length U]/\c2=[.int .i64 f.other.kind,.int .i64 f.other.n,.string ⟨f.other.s.toArray⟩,.slice q3 f.other.names.length V,.slice q4 f.other.kids.length Y]:=by
      have e1:=O.length;have e2:=h3.length
      match c1,e1,c2,e2,aL with
      | [_,_,_,_,_],_,[_,_,_,_,_],_,aL=>
       simp only [List.cons_append,List.nil_append,List.cons.injEq] at aL
       obtain ⟨-,-,rfl,rfl,rfl,rfl,rfl,rfl,rfl,rfl,rfl,rfl,-⟩:=aL
       exact ⟨rfl,rfl⟩
     exact ⟨_,_,rfl,gO.out,cL.1 ▸ O,cL.2 ▸ h3⟩
    obtain ⟨W6,aG⟩:=eX (Y8 w2 M f.code f.table f.row.kind f.row.n f.row.s (.slice Z f.row.names.length T) (.slice p4 f.row.kids.length U) f.other.kind f.other.n f.other.s (.slice q3 f.other.names.length V) (.slice q4 f.other.kids.length Y))
    have bG:W6.heap[M.heap.size]?=some (.cells (Pz f.code f.table f.row Z T p4 U f.other q3 V q4 Y) 69 (0,0)):=by rw [<- aG];exact Fr (Gt bH)
    have bJ:Below M M W6:=by rw [<- aG];exact Yq (aW.out _ aZ) (Q4 _)
    have cN:Dl (fun b=>b<w) W6 (Pz f.code f.table f.row Z T p4 U f.other q3 V q4 Y) f:=bK.move (fun b hb _=>by rw [<- aG];exact Y9 (Oc aX.out G.out)) P8
    have cD:M.heap.size<=M.heap.size:=Q4 _
    unfold Y8 at aG
    rw [aG]
    obtain ⟨aD,eZ,bU,aJ⟩:=Py (bL.out.trans (bJ.mono bL.out.size)) cN bG cD
    have cF:=kB bJ gP.out
    have t0:=rA0 cF
    have n0:=rA0 bG
    have iI:=Qq t0
    have D:=Qq (kB aD.out bT.out)
    clear aG bG bJ cN cD cF bK aZ bH fC fB aW bO bS eP
    by_cases hz:f.code=0
    ·have hq:(f.code != 0)=false:=by rw [hz];rfl
     clear t0
     go_wp2_with fail
     go_roundw
     case measure=>simp [intOf];omega
     case rel=>
      refine ⟨i+1,Oa,by go_num,aD.out,(show Aside _ from fun i' eQ=>?_)⟩
      by_cases e:i'=i
      ·subst e
       rw [bM.out]
       exact hz
      exact HJ.out i' Oa
    have hq:(f.code != 0)=true:=by simpa using hz
    have HZ:=Qq hz
    clear hz
    have nz:=fun j=>Qg _ _ j _ _ bU.out
    have nr:=fun j=>Qk _ _ j _ _ _ bU.out
    have rz:=fun j=>Qg _ _ j _ _ D.out
    have rr:=fun j=>Qk _ _ j _ _ _ D.out
    obtain ⟨fU,fV,fW,fX,fY,fZ,gA,gB,gC,gD,dH,dI⟩:=P5 nz
    obtain ⟨cX,cY,cZ,dA,dB,dC,dD,dE,dF,dG,bA,bB⟩:=P5 nr
    obtain ⟨eA,eB,eC,eD,eE,eF,eG,eH,eI,eJ,bE,bF⟩:=P5 rz
    obtain ⟨aM,aN,aO,aP,aQ,aR,aS,aT,aU,aV,J,L⟩:=P5 rr
    simp only [Qa,Qb,Qc] at cX cY cZ dA dB dC dD dE dF dG bA bB aM aN aO aP aQ aR aS aT aU aV J L
    have cQ:M≠w.heap.size+1+1:=by have:=aX.out;have:=G.out;have:=aJ.out;omega
    have cR:w.heap.size+1+1≠M.heap.size:=fun e=>cQ e.symm
    have hT:M.heap.size≠wr.heap.size:=Oc G.out aJ.out
    clear nz nr rz rr n0
    go_wp2_with fail
    obtain ⟨V7,aF⟩:=eX (W6.setCell ⟨M,1,none⟩ (.string ⟨t.name.toArray⟩))
    rw [aF]
    have cE:V7.heap[w.heap.size+1+1]?=some (.cells zF 69 (0,0)):=by rw [<- aF,Z4 cR];exact D.out
    have fE:=Qq (fun b (hb:b<w.heap.size)=>show V7.heap[b]?=W6.heap[b]? by rw [<- aF];exact Z4 (by show b≠M;have:=aX.out;have:=G.out;have:=aJ.out;omega))
    have cI:Below W3 W3 V7:=by rw [<- aF];exact aD.out.setCell (p:=⟨M,1,none⟩) (by show W3<=M.heap.size;have:=aE.out.size;have:=G.out;have:=aJ.out;omega) _
    have eY:=Qq (aY.out.trans (cI.mono aY.out.size))
    show bodyPost _ _ _ _ _ (Y8 V7 (w+1+1) f.code t.name f.row.kind f.row.n f.row.s (.slice Z f.row.names.length T) (.slice p4 f.row.kids.length U) f.other.kind f.other.n f.other.s (.slice q3 f.other.names.length V) (.slice q4 f.other.kids.length Y))
    have q:=fun j=>Y4 (a0:=.int .i64 f.code) (a1:=.string ⟨t.name.toArray⟩) (a2:=.int .i64 f.row.kind) (a3:=.int .i64 f.row.n) (a4:=.string ⟨f.row.s.toArray⟩) (a5:=.slice Z f.row.names.length T) (a6:=.slice p4 f.row.kids.length U) (a7:=.int .i64 f.other.kind) (a8:=.int .i64 f.other.n) (a9:=.string ⟨f.other.s.toArray⟩) (a10:=.slice q3 f.other.names.length V) (a11:=.slice q4 f.other.kids.length Y) cE j
    generalize aK:Y8 V7 (w+1+1) f.code t.name f.row.kind f.row.n f.row.s (.slice Z f.row.names.length T) (.slice p4 f.row.kids.length U) f.other.kind f.other.n f.other.s (.slice q3 f.other.names.length V) (.slice q4 f.other.kids.length Y)=W9 at q
    have cJ:Below w w W9:=by rw [<- aK];exact Yq eY.out Oa
    have cO:Dl (fun b=>b<w) W9 (Pz f.code f.table f.row Z T p4 U f.other q3 V q4 Y) f:=eZ.out.move (fun b hb _=>by rw [<- aK,Y9 (by have:b<w.heap.size:=hb;omega)];exact fE.out b hb) P8
    obtain ⟨dM,dN,dO,dP,dQ,dR,dS,dT,dU,dV,bC,bD⟩:=P5 q
    simp only [Qa,Qb,Qc] at dM dN dO dP dQ dR dS dT dU dV bC bD
    have N:=Qq cJ;have fA:=Qq cO
    try rw [aK]
    clear q cJ cO aK aF cE cI fU cX eA aM fV cY eB aN fW cZ eC aO fX dA eD aP fY dB eE aQ fZ dC eF aR gA dD eG aS gB dE eH aT gC dF eI aU gD dG eJ aV dH bA bE J dI bB bF L
    refine Q2 (v:=.agg (Pz f.code t.name f.row Z T p4 U f.other q3 V q4 Y)) (by simp [results,results25,go_sem,dM,dN,dO,dP,dQ,dR,dS,dT,dU,dV,bC,bD]) rfl ⟨⟨f.code,t.name,f.row,f.other⟩,fun _=>.inr ⟨c,i,hlt,by rw [HN.out];exact hli,by rw [bM.out];exact HZ.out,?_,?_⟩,fun h=>absurd bR.out (by rw [h];decide),Pz f.code t.name f.row Z T p4 U f.other q3 V q4 Y,rfl,?_,N.out⟩
    ·show (⟨_,_,_,_⟩:Ft)=⟨(cf c i).code,((s.tables[i]?).getD Tbl.zero).name,(cf c i).row,(cf c i).other⟩
     rw [bM.out,fG.out];rfl
    ·intro c' i' h1 O
     rcases O with O | ⟨rfl,O⟩
     ·exact HI.out c' i' O (by rw [<- HN.out];exact h1)
     exact HJ.out i' O
    obtain ⟨c1,c2,aL,_,O,h3⟩:=fA.out
    have cL:c1=[.int .i64 f.row.kind,.int .i64 f.row.n,.string ⟨f.row.s.toArray⟩,.slice Z f.row.names.length T,.slice p4 f.row.kids.length U]/\c2=[.int .i64 f.other.kind,.int .i64 f.other.n,.string ⟨f.other.s.toArray⟩,.slice q3 f.other.names.length V,.slice q4 f.other.kids.length Y]:=by
     have e1:=O.length;have e2:=h3.length
     match c1,e1,c2,e2,aL with
     | [_,_,_,_,_],_,[_,_,_,_,_],_,aL=>
      simp only [List.cons_append,List.nil_append,List.cons.injEq] at aL
      obtain ⟨-,-,rfl,rfl,rfl,rfl,rfl,rfl,rfl,rfl,rfl,rfl,-⟩:=aL
      exact ⟨rfl,rfl⟩
    exact ⟨_,_,rfl,gO.out,cL.1 ▸ O,cL.2 ▸ h3⟩
   obtain rfl:i=n:=Oa
   have hP:¬ (i:Int)<(i:Int):=Oa
   go_wp2_with fail
   go_roundw
   case measure=>simp [intOf];omega
   case rel=>
    refine ⟨c+1,Oa,by go_num,aE.out,(show Aside _ from fun c' i' jK eQ=>?_)⟩
    by_cases e:c'=c
    ·subst e;exact HJ.out i' eQ
    exact HI.out c' i' Oa eQ
  obtain rfl:c=5:=Oa
  have D:=Qq (kB bP.out bT.out)
  have aD:=Qq (aY.out.trans (bP.out.mono aY.out.size))
  have rz:=fun j=>Qg _ _ j _ _ D.out
  have rr:=fun j=>Qk _ _ j _ _ _ D.out
  obtain ⟨eA,eB,eC,eD,eE,eF,eG,eH,eI,eJ,bE,bF⟩:=P5 rz
  obtain ⟨aM,aN,aO,aP,aQ,aR,aS,aT,aU,aV,J,L⟩:=P5 rr
  simp only [Qa,Qb,Qc] at aM aN aO aP aQ aR aS aT aU aV J L
  clear rz rr
  go_wp2_with fail
  show bodyPost _ _ _ _ _ (Y8 w6 (w+1+1) On Oo On On Oo Ot Ot On On Oo Ot Ot)
  refine Q2 (v:=.agg zF) (by simp [results,results25,go_sem,Y4 D.out]) rfl ⟨Ft.zero,fun _=>.inl ⟨rfl,fun c i hc hi=>HI.out c i hc (by rw [<- HN.out];exact hi)⟩,fun h=>absurd bR.out (by rw [h];decide),[On,Oo,On,On,Oo,Ot,Ot,On,On,Oo,Ot,Ot],rfl,U1 _ _,Yq aD.out Oa⟩
theorem zig_full (n:Int) (h0:-9223372036854775808<=n) (h1:n<=9223372036854775807) (w:World):Calls prog 86 #[n] w fun e w'=>e=.returned (.int .u64 (zz n))/\w=w':=by
 by_cases h:0<=n
 ·have D:bits BinOp.xor IntKind.u64 (n*2) (n / 9223372036854775808)=(zz n:Nat):=by
   rw [show n / 9223372036854775808=0 by omega,xor_zero _ Oa Oa]
   unfold zz;rw [if_pos h];omega
  have G:=Qq D
  clear D
  go_enter func86,ntmps86
  go_wp2_with fail
  go_ret
  exact ⟨Jq G.out,rfl⟩
 have h':n<0:=Oa
 have D:bits BinOp.xor IntKind.u64 (IntKind.u64.wrap (IntKind.u64.wrap n*2)) (IntKind.u64.wrap (n / 9223372036854775808))=(zz n:Nat):=by
  rw [IntKind.wrap_u64,IntKind.wrap_u64,IntKind.wrap_u64,show n / 9223372036854775808 % 18446744073709551616=18446744073709551615 by omega,xor_ones _ Oa Oa]
  unfold zz;rw [if_neg h];omega
 have G:=Qq D
 clear D h
 go_enter func86,ntmps86
 go_wp2_with fail
 go_ret
 exact ⟨Jq G.out,rfl⟩
theorem zz_big {n:Int} (h0:-9223372036854775808<=n) (h1:n<=9223372036854775807):zz n<18446744073709551616:=by unfold zz;split <;> omega
theorem B6 {n:Int} (h0:-9223372036854775808<=n) (h1:n<=9223372036854775807):(wI n).length<=10:=Lf (zz_big h0 h1)
theorem int_full (g:Nat) (w:World) (v:Value) (bs:Bs) (n:Int) (h:WAt g w v bs) (h0:-9223372036854775808<=n) (h1:n<=9223372036854775807) (hl:bs.length<=100000):
  Calls prog 33 #[Om g,n] w (Kf g w v (bs++wI n)):=by
 have HZ:=Qq (zig_full n h0 h1 w)
 have D:=Qq (Hb g w v bs (zz n) h (zz_big h0 h1) hl)
 clear h h0 h1 hl
 unfold wI
 generalize zz n=m at HZ D |-
 generalize G:bs++vb m=b2 at D |-
 clear G
 go_enter func33,ntmps33
 go_wp2_with (first | (go_at_call 86;refine HZ.out.mono ?_;rintro e w' ⟨rfl,rfl⟩) | (go_at_call 85;refine D.out.mono ?_;rintro e w' ⟨rfl,hw⟩))
 go_end0
 exact ⟨rfl,hw⟩
theorem leftS {B:Nat} {w w1:World} {v v1:Value} (hg:w.grownBy w1 v.ownBlock) (hv:∀ g,v.ownBlock=some g->B<=g) (hB:B<=w) (hat:v1.ownBlock=v.ownBlock\/v1.ownBlock=some w.heap.size):Gz B w w1 v v1:=by
 have hb:Below B w w1:=(Qz B w).grown hg hB hv
 refine ⟨hb,hb.size,fun b D G=>hg.block b D (fun e=>G e),?_⟩
 rcases hat with h | h
 ·exact .inl h
 exact .inr ⟨_,h,Q4 _⟩
section
variable {P:Program}
theorem M3 (w:World) (base:Nat) (t u ty e:TypeId) (i:TypeInfo) (ht:P.underlying t=some (.slice e)) (hu:P.underlying u=some .string) (hi:P.info? e=some i) (hz:i.zero=some (.int .u8 0))
  (hsize:i.size=1) (hby:i.bytes=1) (v:Value) (n:Nat) (xs:List Value) (hown:w.ownsRow base e 1 v n xs) (s:ByteArray) (h63:n+s.size<=1000000) (hbase:base<=w):
  ∃ v' w',(Builtin.append_ #[t,u] ty #[v,.string s]).run P w=.ok v' w'/\w'.ownsRow base e 1 v' (n+s.size) (xs++strCells s)/\w.grownBy w' v.ownBlock/\(v'.ownBlock=v.ownBlock\/v'.ownBlock=some w.heap.size):=by
 obtain ⟨v',w',G,h2,h3,h4⟩:=run_append_own_string (P:=P) w base t u ty e i ht hu hi hz hsize hby v n xs hown s (by unfold maxLen;omega) Oa hbase
 refine ⟨v',w',G,h2,h3,?_⟩
 have M:xs.length=n:=by simpa using hown.1
 rcases hown.2 with ⟨rfl,rfl⟩ | ⟨g,cap,I,rfl,N,hg,T,O,J,L⟩
 ·by_cases hm:s.size=0
  ·rw [h4.2 ⟨rfl,hm⟩];exact .inl rfl
  have D:=run_append_nil_string (P:=P) w t u ty e i (.int .u8 0) ht hu hi hz s Oa Oa (by rw [hby];omega)
  rw [G] at D
  injection D with a b
  rw [a];exact .inr rfl
 by_cases hroom:n+s.size<=cap
 ·have D:=run_append_room_string (P:=P) w t u ty e i ht hu hi hsize g n cap I hg s hroom (by simp at J;omega)
  rw [G] at D
  injection D with a b
  rw [a];exact .inl rfl
 have D:=run_append_grow_string (P:=P) w t u ty e i (.int .u8 0) ht hu hi hz ⟨g,0,none⟩ n cap xs (by rw [hsize];simpa using M) (hown.cells (g:=g) rfl) s Oa Oa (by rw [hby];exact growslice_fits Oa Oa)
 rw [G] at D
 injection D with a b
 rw [a];exact .inr rfl
theorem Gk (s:Bs):strCells ⟨s.toArray⟩=(s.map fun b=>[Value.int .u8 b.toNat]).flatten:=by
 unfold strCells
 induction s with
 | nil=>rfl
 | cons a s ih=>simpa using ih
theorem byteCs (S:Nat->Prop) (w:World):∀ s:Bs,Cs Yl S w (s.map fun b=>[Value.int .u8 b.toNat]) s:=fun s=>
 ⟨Od,fun i c x hc hx=>by
  rw [List.getElem?_map,hx] at hc
  exact (Q6 hc).symm⟩
theorem Fs {ops:Array Oper} {rest:List Oper} {o:Oper} {a:Act} {Q:Exit->Act->World->Prop} (hgd:o.guard=none) (sl x:Operand) (t u:TypeId)
  (ho:o.op=.call { callee:=.builtin .append,args:=#[sl,x],argTypes:=#[t,u] }) (E:TypeId) (i:TypeInfo) (ht:P.underlying t=some (.slice E)) (hu:P.underlying u=some .string) (hi:P.info? E=some i) (hz:i.zero=some (.int .u8 0)) (hsize:i.size=1) (hby:i.bytes=1)
  (S:Nat->Prop) (B:Nat) (w:World) (v:Value) (xs:Bs) (css:List (List Value)) (hs:a.eval sl=v) (hO:Own Yl E S B w v xs css) (s:Bs) (hx:a.eval x=.string ⟨s.toArray⟩) (n:Nat) (hn:xs.length+s.length=n) (hl:n<=1000000) (hB:B<=w)
  (h:∀ p cap css' w1,Own Yl E S B w1 (.slice p n cap) (xs++s) css'->Gz B w w1 v (.slice p n cap)->wpList P ops Q rest (a.put o.dst (.slice p n cap)) w1):wpList P ops Q (o::rest) a w:=by
 subst hn
 have G:(⟨s.toArray⟩:ByteArray).size=s.length:=by show s.toArray.size=_;simp
 refine wpList_plain hgd fun K hK=>?_
 obtain ⟨v',w',hr,h2,h3,h4⟩:=M3 (P:=P) w B t u o.type E i ht hu hi hz hsize hby v xs.length css.flatten hO.row ⟨s.toArray⟩ Oa hB
 unfold Oper.wp execOp
 simp only [ho,resolve,invoke,builtin,Sem.run_bind,Sem.run_pure,Result.andThen_ok,List.map_toArray,List.map_cons,List.map_nil,hs,hx,hr]
 rw [G,Gk] at h2
 have D:=hO.append (byteCs (But S v) w s) (v':=v') (w2:=w') h2 h3 h4
 obtain ⟨p,cap,hf⟩:=D.form
 rw [Qe] at hf
 subst hf
 exact hK _ _ (h p cap _ w' D (leftS h3 (fun g hg=>(hO.row.lt g hg).1) hB h4))
end
theorem F7 (g:Nat) (w:World) (v:Value) (bs s:Bs) (h:WAt g w v bs) (hl:bs.length+s.length<=90000):
  Calls prog 34 #[Om g,s] w (Kf g w v (bs++wT s)):=by
 obtain ⟨m,V⟩:=eX (s.length)
 have HU:=Qq (Hb g w v bs m h Oa Oa)
 have hz:(⟨s.toArray⟩:ByteArray).size=m:=by rw [<- V];show s.toArray.size=_;simp
 have aF:=Lf (n:=m) Oa
 obtain ⟨i5,j1,j2,j3,j4⟩:=Y3 (P:=prog) (t:=5) (z:=.int .u8 0) (n:=1) (b:=1) Og
 obtain ⟨HJ,Z,aA,aB,HM⟩:=Pw j1 j2 j3 j4 V
 unfold wT
 rw [V] at hl |-
 obtain ⟨U,J⟩:=eX (bs++vb m)
 have aH:U.length+m<=100000:=by rw [<- J,Qe];omega
 rw [<- List.append_assoc]
 rw [J] at HU |-
 clear h j1 j2 j3 j4 J V aF hl
 go_enter func34,ntmps34
 go_upto_region 1 with (go_at_call 85;refine HU.out.mono ?_;rintro e w1 ⟨rfl,u,L,hS⟩)
 have c0:=Qk _ _ 0 _ _ _ L.cell;have f0:=fA 0 L.cell
 simp only [Qa,Qb] at c0
 obtain ⟨css,hO⟩:=L.own
 obtain ⟨up,T,rfl⟩:=hO.form
 have O:=Z3 L.cell
 obtain ⟨HA,HS,HO⟩:=Px L.cell hS hO
 clear L hS hO
 go_wp2_with (at_builtin;refine Fs rfl (.tmp 13) (.tmp 14) _ _ rfl 5 i5 underlying23 underlying9 HJ.out Z.out aA.out aB.out (fun _=>False) (g+1) w1 (.slice up U.length T) U css rfl HO.out s rfl (U.length+m) (by rw [HM.out]) Oa Oa ?_;intro p5 aG css5 w5 N I;have M:=Qq N;have D:=Qq I;have G:=(I.other g O (fun e=>by have:=(HO.out.row.lt g e.symm).1;omega)).trans HA.out;have aJ:=fA 0 G;have aI:=rA0 G;have Y:=Qq G;clear N I G)
 go_end0
 refine ⟨rfl,_,⟨by rw [Qd _ _ _ _ _ _ Y.out];rfl,css5,M.out.move (Q4 _) (fun b _ h=>Z4 ?_)⟩,HS.out.trans ⟨(D.out.below.mono (Nat.le_succ g)).setCell (p:=⟨g,0,none⟩) (Q4 _) _,by simp [World.setCell];exact D.out.size,fun b hb aD aE=>?_,D.out.at'⟩⟩
 ·rcases h with h | h
  ·exact h.elim
  have:=(M.out.row.lt b h).1
  show b≠g
  omega
 rw [Z4 aD,D.out.other b hb aE]
end Go.Proofs.YtlanplhphiikjaaGreatDoor
