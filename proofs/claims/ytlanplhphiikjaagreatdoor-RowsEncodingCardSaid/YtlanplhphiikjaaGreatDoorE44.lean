import Derived.Test.YtlanplhphiikjaaGreatDoorE39
import Derived.Test.YtlanplhphiikjaaGreatDoorE38
import Derived.Test.YtlanplhphiikjaaGreatDoorE37
import Derived.Test.YtlanplhphiikjaaGreatDoorE36
import Derived.Test.YtlanplhphiikjaaGreatDoorE35
import Derived.Test.YtlanplhphiikjaaGreatDoorE41
set_option maxRecDepth 100000
set_option maxHeartbeats 400000000
namespace Go.Proofs.YtlanplhphiikjaaGreatDoor
open Go.RowKit Go.Shelf Go.Lib Tryz
theorem Tt (S0 S1:Nat->Prop) (s:Sc) (cs:List Value) (lv:Value) (l:List Rel) (w:World) (hs:Vj S0 w cs s) (hl0:Sl Yx S1 w lv l) (hlen:l.length=s.tables.length) (hsm:E9 s.sums) (hT:∀ t ∈ s.tables,Rp t) (hR:∀ r ∈ l,∀ v ∈ r.rows,Vo v):
  Calls prog 77 #[cs,lv] w (Ku w s l (cfR s l)):=
 Kt.all Qkw Qzt Qzj (Nw.all (Gk.all Qqa Qzp)) Qkm S0 S1 s cs lv l w hs hl0 hlen hsm hT hR
def Qqg (w:World) (b:Bs) (e:Ending) (w':World):Prop:=
 Below w w w'/\((e=.returned (.tuple #[Qxe,.int .i64 2])/\∀ l,Gu l->b≠Ju l) \/
  ∃ xs rv,e=.returned (.tuple #[rv,Qxc])/\Ju xs=b/\Sl Yx (fun y=>w<=y) w' rv xs/\(∀ r ∈ xs,∀ x ∈ r.rows,WOk x)/\∀ l,Gu l->b=Ju l->xs=l)
theorem Es (S0:Nat->Prop) (v:Value) (b:Bs) (w:World) (hs:Sl Zt S0 w v b) (hl:b.length<=25000) (hT:J7 w):Calls prog 8 #[v] w (Qqg w b):=by
 obtain ⟨p,cap,rfl,_⟩:=hs.len
 obtain ⟨HV,HT,HL⟩:=Qxn hs hT hl
 obtain ⟨i0,j1,j2,j3,j4⟩:=Y4 (P:=prog) (t:=48) (z:=.agg zV) (n:=5) (b:=80) Qxx
 obtain ⟨HJ,jN,jO,jP⟩:=Qxo j1 j2 j3 j4
 obtain ⟨i9,r1,r2,r3,r4⟩:=Y4 (P:=prog) (t:=42) (z:=.agg #[Qxd,Qxe]) (n:=2) (b:=40) Qxx
 obtain ⟨jV,jW,cA,fX⟩:=Qxo r1 r2 r3 r4
 clear hs hT hl j1 j2 j3 j4 r1 r2 r3 r4
 go_enter func8,ntmps8
 go_wp2_with fail
 obtain ⟨W1,cK⟩:=eX (w.alloc (.cells #[.slice p b.length cap] 23))
 rw [cK]
 have hV:=eqB cK (Ze _ _)
 have aW:=eqH (b:=w.heap.size) cK (Qw _ _)
 have fI:=Qq hV;have dP:=Qq aW
 clear cK hV aW
 refine (L6 S0 _ b W1 (HV.out.below fI.out)).mono ?_
 rintro e w2 ⟨g,rfl,hK,hg,hW⟩
 obtain ⟨dU,HG,bX⟩:=Qxn hK hg hW
 clear hK hg hW
 go_upto_region 5 with fail
 have bO:=Zu w2 (.cells #[Qxb g] 35) (.cells #[.bool true] 4)
 have h4:=Q5 w2 (.cells #[Qxb g] 35) (.cells #[.bool true] 4)
 have h6:=Q6 w2 (.cells #[Qxb g] 35) (.cells #[.bool true] 4)
 have eO:=dU.out.lt
 obtain ⟨WB,hQ⟩:=eX ((w2.alloc (.cells #[Qxb g] 35)).alloc (.cells #[.bool true] 4))
 rw [hQ] at bO h4 h6 |-
 obtain ⟨c4,hX⟩:=eX (w2.heap.size)
 rw [hX] at h4 h6 eO |-
 obtain ⟨A,bP⟩:=eX (c4+1)
 rw [bP] at h6 |-
 have aW:=Z8 dP.out
 have iP:=fI.out.thn (bX.out.thn bO)
 have gK:=(bO.block w (Qxj bX.out.size)).trans (kE bX.out aW dP.out)
 have dA:w<W1.heap.size/\W1<=g/\g<c4/\c4<A/\A<WB.heap.size:=⟨aW,HG.out,eO,Qvu,Z8 h6⟩
 have I:=Qq dA;have gF:=Qq iP
 have fL:Hid (∀ (W:World) (o:Option Bs) (f:Bool),(∀ y,y<WB.heap.size->y≠g->y≠A->W.heap[y]?=WB.heap[y]?)->RAt (fun y=>W1.heap.size<=y/\y<g) g W o->W.heap[A]?=some (.cells #[.bool f] 4 (0,0)) ->
   Calls prog 37 #[Qxb c4,Qxb w,Qxb A] W (C0 (fun y=>W1<=y/\y<g) g A b.length W o f)):=Qq (fun W o f hk hR h=>by
  have k4:=(hk c4 Qvu Qvu Qvu).trans h4
  have k1:=(hk w Qvu Qvu Qvu).trans gK
  have y4:=rA0 k4;have y1:=rA0 k1
  exact Qzg _ g c4 w A b.length cap p f W o (fun y D=>⟨Qvu,Qvu⟩) Qvu Qvu hR y4 y1 h)
 have gI:=Qq h4
 have fZ:=Qq (dU.out.below bO);have fD:=Qq h6
 clear bO h4 h6 eO hQ hX bP aW iP gK dA dU HG bX dP
 go_wp2_with fail
 refine (fL.out WB (some b) true (fun _ _ _ _=>rfl) fZ.out fD.out).mono ?_
 rintro e w3 ⟨kz,o1,cM,rfl,hE,dZ,gV⟩
 have eL:b.length<=1000000:=Qxj HL.out
 have bJ:=Pd.start eL cM
 have hM:Bf b ([]++wI kz) (true&&!(U6 b.length kz)) o1:=Bf.int (fun _ r e=>by rw [<- Qb e];rfl) cM
 have gX:Jx o1<=b.length:=Vv cM
 obtain ⟨m,hm,iG⟩:∃ m:Nat,(if U6 b.length kz then 0 else kz)=(m:Int)/\m<=b.length:=by
  by_cases h:U6 b.length kz=true
  ·rw [if_pos h];exact ⟨0,rfl,Q8 _⟩
  rw [if_neg h]
  unfold U6 at h
  simp only [Bool.or_eq_true,decide_eq_true_eq,not_or] at h
  exact ⟨kz.toNat,Qvu,Qvu⟩
 have eJ:Bf b (wI m) (true&&!(U6 b.length kz)) o1:=fun hf r e=>by
  have h9:=hM hf r e
  have h8:U6 b.length kz=false:=by simpa using hf
  rw [if_neg (by rw [h8];decide)] at hm
  rw [hm] at h9;exact h9
 rw [hm] at bJ
 rw [show ((m:Int)).toNat=m by omega] at bJ
 obtain ⟨f0,iB⟩:=eX ((true&&!(U6 b.length kz)))
 rw [iB] at bJ eJ dZ
 obtain ⟨fN,gB,fS,cA,fB,fP,dS,O⟩:=Qxt bJ eJ gX hE dZ gV iG eL
 clear bJ hM eJ gX hE dZ gV cM iB iG eL fZ fD
 rw [hm]
 clear hm
 have kT:m<=1000000:=Qc dS.out O.out
 go_wp2_with fail
 go_loopw [5,16] (fun v5 i wr=>∃ (k:Nat) (q:Option Addr) (qc:Nat) (xs:List Rel) (css:List (List Value)) (o:Option Bs) (f:Bool),k<=m/\i=.int .i64 k/\v5=.slice q k qc/\Aside (xs.length=k)/\Aside (Own Yx 42 (fun y=>WB<=y) WB wr (.slice q k qc) xs css) /\
   Aside (RAt (fun y=>W1<=y/\y<g) g wr o)/\Aside (wr.heap[A]?=some (.cells #[.bool f] 4 (0,0)))/\Aside (Zr (fun y=>y=g\/y=A) (min g A) WB wr)/\Aside (Jx o<=b.length)/\Aside (Bf b (wI m++xs.flatMap Xh) f o)/\Aside (Pd b m k xs f o)/\Aside (∀ r ∈ xs,∀ x ∈ r.rows,WOk x)) (fun _ i _=>m - (intOf i).toNat)
 case atStart=>
  exact ⟨0,none,0,[],[],o1,f0,Q8 _,rfl,rfl,rfl,Own.nil _ _ _ _ _,cA.out,fB.out,fP.out,fS.out,by rw [List.flatMap_nil,List.append_nil];exact gB.out,fN.out,fun r h=>(by cases h)⟩
 clear fN gB fS cA fB fP
 obtain ⟨k,q,qc,xs,css,o,f,kR,rfl,rfl,iR,hO,hR,h6,hG,iI,hN,gU,hU⟩:=hrel
 obtain ⟨cC,HO,HR,H6,aH⟩:=Qxp iR.out hO.out hR.out h6.out hG.out;obtain ⟨dW,dV,bD,gG⟩:=Qxo iI.out hN.out gU.out hU.out
 have k4:=(aH.out.keep c4 (Qxj I.out) (Qxj I.out)).trans gI.out
 have y4:=rA0 k4
 have y6:=rA0 H6.out
 clear iR hO hR h6 hG iI hN gU hU k4
 by_cases iE:k<m
 ·have iS:∀ y,(W1.heap.size<=y/\y<g)->y≠g:=fun y h=>Qvu
  have aN:=I.out
  obtain ⟨⟨V,o2⟩,bS⟩:∃ r,rdT o=r:=⟨_,rfl⟩
  have cB:=Qq (Ki _ g wr o iS HR.out)
  rw [bS] at cB
  simp only at cB
  have eR:=Kf bS
  have cU:=Qq (dV.out.text bS)
  have gC:=Qq bS;have gD:=Qq (show V.length<=b.length/\Jx o2<=b.length from ⟨Qc eR.1 dW.out,Qc eR.2 dW.out⟩)
  clear bS eR iS
  go_wp2_with fail
  refine cB.out.mono ?_
  rintro e w7 ⟨rfl,hI,cI⟩
  have cL:=Ze w7 (.cells #[V,Qxe] 42)
  have aM:=Qw w7 (.cells #[V,Qxe] 42)
  have eQ:=cI.size
  have iL:=aH.out.size
  have bR:∀ y,y<wr.heap.size->y≠g->(w7.alloc (.cells #[V,Qxe] 42)).heap[y]?=wr.heap[y]?:=fun y D hg=>(cL.block y Qvu).trans (cI.keep y D hg)
  have eA:=(bR A (Z8 H6.out) Qvu).trans H6.out
  have eI:=hI.below cL
  have eE:Zr (fun y=>y=g) g wr (w7.alloc (.cells #[V,Qxe] 42)):=cI.trans (Zr.of_below cL (Qxj HR.out.lt))
  obtain ⟨W8,eK⟩:=eX (w7.alloc (.cells #[V,Qxe] 42))
  obtain ⟨Y,eM⟩:=eX (w7.heap.size)
  rw [eK] at aM bR eA eI eE
  rw [eM] at aM eQ
  obtain ⟨aV,dR,fQ⟩:=Qxn aM bR eE
  have N:=Qq (show WB<=wr.heap.size/\wr<=Y/\Y<W8 from ⟨iL,eQ,Z8 aM⟩)
  have cS:=Qq (fL.out W8 o2 f (fun y D h1 h2=>(bR y Qvu h1).trans (aH.out.keep y D Qvu)) eI eA)
  clear hI cI cL aM eQ iL bR eA eI eE aN cB y6 y4 HR H6 dW
  have gE:=Qq eK;have fK:=Qq eM
  clear eK eM
  go_wp2_with fail
  rw [gE.out,fK.out]
  clear gE fK
  refine cS.out.mono ?_
  rintro e w9 ⟨aF,o3,aS,rfl,hJ,eB,eF⟩
  have dB:Bf b (wI m++xs.flatMap Xh++wT V++wI aF) (f&&!(U6 b.length aF)) o3:=cU.out.int aS
  have bK:=bD.out.row iE O.out gC.out aS
  have gZ:Jx o3<=b.length:=Qc (Vv aS) gD.out.2
  obtain ⟨n,hn,iH⟩:∃ n:Nat,(if U6 b.length aF then 0 else aF)=(n:Int)/\n<=b.length:=by
   by_cases h:U6 b.length aF=true
   ·rw [if_pos h];exact ⟨0,rfl,Q8 _⟩
   rw [if_neg h]
   unfold U6 at h
   simp only [Bool.or_eq_true,decide_eq_true_eq,not_or] at h
   exact ⟨aF.toNat,Qvu,Qvu⟩
  have aA:Bf b (wI m++xs.flatMap Xh++wT V++wI n) (f&&!(U6 b.length aF)) o3:=fun hf r e=>by
   have h9:=dB hf r e
   have h8:U6 b.length aF=false:=by cases f;cases hf;simpa using hf
   rw [if_neg (by rw [h8];decide)] at hn
   rw [hn] at h9;exact h9
  rw [hn] at bK
  rw [show ((n:Int)).toNat=n by omega] at bK
  obtain ⟨f3,iC⟩:=eX ((f&&!(U6 b.length aF)))
  rw [iC] at bK aA eB
  have gO:=(eF.keep Y (Qxj N.out) (Qxq N.out I.out)).trans aV.out
  obtain ⟨fO,aJ,fT,fY,fC,J,fR,fF⟩:=Qxt bK aA gZ hJ eB eF iH gO
  clear bK dB aA gZ hJ eB eF aS iC iH gO cS aV
  rw [hn]
  clear hn
  have kU:n<=1000000:=Qc fR.out O.out
  go_wp2_with fail
  go_loopw [23] (fun i bT=>∃ (j:Nat) (rq:Option Addr) (M:Nat) (ys:List Val) (aR:List (List Value)) (o4:Option Bs) (f4:Bool),j<=n/\i=.int .i64 j/\Aside (ys.length=j)/\Aside (bT.heap[Y]?=some (.cells #[V,.slice rq j M] 42 (0,0))) /\
    Aside (Own Zc 48 (fun y=>w9<=y) w9 bT (.slice rq j M) ys aR)/\Aside (RAt (fun y=>W1<=y/\y<g) g bT o4)/\Aside (bT.heap[A]?=some (.cells #[.bool f4] 4 (0,0))) /\
    Aside (Zr (fun y=>y=g\/y=A\/y=Y) (min g A) w9 bT)/\Aside (Jx o4<=b.length)/\Aside (Bf b (wI m++xs.flatMap Xh++wT V++wI n++ys.flatMap Vf) f4 o4)/\Aside (M9 b m k xs V n j ys f4 o4)/\Aside (∀ x ∈ ys,WOk x)) (fun i _=>n - (intOf i).toNat)
  case atStart=>exact ⟨0,none,0,[],[],o3,f3,Q8 _,rfl,rfl,fF.out,Own.nil _ _ _ _ _,fY.out,fC.out,Zr.refl _ _ _,fT.out,by rw [List.flatMap_nil,List.append_nil];exact aJ.out,fO.out,fun r h=>(by cases h)⟩
  clear fO aJ fT fY fC fF bD dV cU gC
  obtain ⟨j,rq,M,ys,aR,o4,f4,kQ,rfl,iT,aM,gY,hF,gL,gW,dI,aA,cZ,dD⟩:=hrel
  obtain ⟨cE,aV,dT,fW,bW⟩:=Qxp iT.out aM.out gY.out hF.out gL.out;obtain ⟨T,bG,aJ,bE,cV⟩:=Qxp gW.out dI.out aA.out cZ.out dD.out
  clear iT aM gY hF gL gW dI aA cZ dD
  by_cases hjl:j<n
  ·have aN:=I.out
   have bM:=N.out
   have bA:∀ y,y<WB.heap.size->y≠g->y≠A->wr.heap[y]?=WB.heap[y]?:=fun y h1 h2 h3=>(T.out.keep y (Qxj J.out.size) Qvu).trans ((J.out.keep y Qvu Qvu).trans ((dR.out y Qvu h2).trans (aH.out.keep y h1 Qvu)))
   have k4:=(bA c4 Qvu Qvu Qvu).trans gI.out
   have y4:=rA0 k4
   have gT:Below w w wr:=gF.out.trans ((((aH.out.below.trans (fQ.out.below.mono Qvu)).trans J.out.below).trans T.out.below).mono Qvu)
   have kF:=Z8 bW.out
   have kG:=Z8 aV.out
   obtain ⟨⟨eT,o5⟩,aL⟩:∃ r,rdT o4=r:=⟨_,rfl⟩
   have aP:=Qq (Lx _ g wr o4 (fun y D=>Qvu) fW.out)
   rw [aL] at aP
   simp only at aP
   have eP:=Kf aL
   have iK:eT.length<=b.length/\Jx o5<=b.length:=⟨Qc eP.1 bG.out,Qc eP.2 bG.out⟩
   obtain ⟨jK,gA,bF⟩:=Qxn gT aL iK
   have dO:=Qq (bE.out.bytes hjl O.out aL)
   clear bA k4 gT aL eP iK
   go_wp2_with fail
   refine aP.out.mono ?_
   rintro e bU ⟨p2,kK,kL,rfl,hD,hH,aX⟩
   have bN:=jK.out.trans (aX.below.mono Qvu)
   have fM:=Qq (Th (fun y=>wr<=y) _ eT bU (hD.sl (Qxq bF.out O.out) (fun _ h=>h) (fun _ _ h=>h.elim)) (Qxq bF.out HL.out) (HT.out.of_below (bN.mono (Q9 _))))
   have gM:=(aX.keep A kF Qvu).trans bW.out
   have gP:=(aX.keep Y kG Qvu).trans aV.out
   have cT:=Qq (dT.out.move (w':=bU) (Q9 _) (fun y D h=>aX.keep y D (by
    have:w9.heap.size<=y:=by rcases h with h | h;exact h;exact (dT.out.row.lt y h).1
    have:=J.out.size
    omega)))
   obtain ⟨jX,bY,cR,dM,fG⟩:=Qxp hH aX bN gM gP
   clear hD hH aX bN gM gP y4 aP
   go_wp2_with fail
   refine fM.out.mono ?_
   rintro e bC ⟨aB,iJ⟩
   have bI:=(aB.block A (Z8 dM.out)).trans dM.out
   have y6:=Qk _ _ 0 _ _ _ bI;have f6:=fA 0 bI
   simp only [Qf,Qg] at y6
   have gQ:=(aB.block Y (Z8 fG.out)).trans fG.out
   obtain ⟨aO,aC,aQ,jH,fH⟩:=Qxp (cR.out.thn aB) (show w<=bC.heap.size from (cR.out.thn aB).size) aB bI gQ
   have kN:=Z8 bI
   clear aB bI gQ fM
   rcases iJ with ⟨cs,rfl,rfl,dF⟩ | ⟨x,cs,rfl,iA,eH,dJ,iO⟩
   ·have fJ:=Qq dF
    clear dF
    cases f4
    ·go_wp2_with fail
     go_ret2
     refine ⟨(aO.out.setCell (p:=⟨A,0,none⟩) (by show w<=A;omega) _).alloc (by have:=aC.out;simpa [World.setCell] using this) _,.inl ⟨rfl,fun l hl e=>?_⟩⟩
     cases (dO.out l hl e).1
    go_wp2_with fail
    go_ret2
    refine ⟨(aO.out.setCell (p:=⟨A,0,none⟩) (by show w<=A;omega) _).alloc (by have:=aC.out;simpa [World.setCell] using this) _,.inl ⟨rfl,fun l hl e=>?_⟩⟩
    obtain ⟨_,x,h1,h2,h3⟩:=dO.out l hl e
    exact fJ.out x h1 h2 h3
   obtain ⟨q3,l3,q4,l4,hZ,_⟩:=eH.cells
   simp only [vcs] at hZ
   subst hZ
   obtain ⟨jM,jL,fU,jY⟩:=Qxo eH iA dJ iO
   clear iA eH dJ iO
   cases f4
   ·go_wp2_with fail
    go_ret2
    refine ⟨(aO.out.setCell (p:=⟨A,0,none⟩) (by show w<=A;omega) _).alloc (by have:=aC.out;simpa [World.setCell] using this) _,.inl ⟨rfl,fun l hl e=>?_⟩⟩
    cases (dO.out l hl e).1
   go_upto_region 12 with fail
   obtain ⟨Wc,aZ⟩:=eX (bC.setCell ⟨A,0,none⟩ (.bool true))
   have dC:Wc.heap.size=bC.heap.size:=by rw [<- aZ];simp [World.setCell]
   have bQ:∀ y,y≠A->Wc.heap[y]?=bC.heap[y]?:=fun y D=>by rw [<- aZ];exact Z9 D
   have bP:Wc.heap[A]?=some (.cells #[.bool true] 4 (0,0)):=by rw [<- aZ,Qi _ _ _ _ _ _ jH.out];rfl
   have eN:Below A bC Wc:=by rw [<- aZ];exact (Qz _ _).setCell (p:=⟨A,0,none⟩) (Q9 _) _
   rw [aZ]
   have U:=Ze Wc (.cells (Qxf x q3 l3 q4 l4) 48)
   have aE:=Qw Wc (.cells (Qxf x q3 l3 q4 l4) 48)
   obtain ⟨WD,hS⟩:=eX (Wc.alloc (.cells (Qxf x q3 l3 q4 l4) 48))
   rw [hS] at U aE |-
   rw [dC] at aE
   obtain ⟨cD,hY⟩:=eX (bC.heap.size)
   have cJ:=fun y (h:(Value.slice rq j M).ownBlock=some y)=>cT.out.row.lt y h
   have kC:=aQ.out.size
   have eD:w9.heap.size<=bU.heap.size:=Qc T.out.size bY.out.size
   have eC:=(U.block A Qvu).trans bP
   have cH:=(U.block Y (by have:=Z8 fH.out;omega)).trans ((bQ Y Qvu).trans fH.out)
   have hC:Own Zc 48 (fun y=>w9<=y) w9 WD (.slice rq j M) ys aR:=((cT.out.below aQ.out).move (w':=Wc) (Q9 _) (fun y D h=>bQ y (by
    have:w9.heap.size<=y:=by rcases h with h | h;exact h;exact (cJ y h).1
    have:=J.out.size
    omega))).below U
   have hP:Zc.R (But (fun y=>w9<=y) (.slice rq j M)) WD (Qxf x q3 l3 q4 l4) x:=
    jM.out.move (fun y D iE=>(U.block y Qvu).trans (bQ y (by have:=Z8 dM.out;omega))) (fun y _ D=>⟨Qvu,fun e=>by have:=(cJ y e.symm).2;omega⟩)
   have iN:w9.heap.size<=WD.heap.size:=Qxj U.size
   have kH:Below w w WD:=(aO.out.trans (eN.mono Qvu)).trans (U.mono (Qxj aC.out))
   have eG:Zr (fun y=>y=A) (min g A) bU WD:=⟨(aQ.out.mono (Qxj bY.out.size)).trans ((eN.mono Qvu).trans (U.mono Qvu)),fun y D hn=>(U.block y Qvu).trans ((bQ y hn).trans (aQ.out.block y D))⟩
   have y6:=rA0 eC;have x1:=rA1 cH
   rw [hY] at aE |-
   have d0:=N6 aE;have d1:=Oj aE;have d2:=Oy aE;have d3:=N7 aE;have d4:=Nb aE
   obtain ⟨jT,kA,dQ,fE,jI,fV,jJ,jQ⟩:=Qxt hC hP eG eC cH cJ eD (show j<1000000 from by omega)
   have gR:=Z8 cH
   have kM:=eG.size
   clear aZ dC bQ bP eN U aE hS hY cJ kC eD eC cH hC hP kH eG f6 aN bM
   go_wp2_with (at_builtin;refine Yf (r:=Zc) Qxv rfl (.tmp 39) (.tmp 41) _ rfl 48 i0 (.agg zV) 80 underlying40 HJ.out jN.out jO.out jP.out rfl Qvu (fun y=>w9<=y) w9 WD (.slice rq j M) ys aR (Qxf x q3 l3 q4 l4) x rfl jT.out rfl kA.out (by simp [Value.oneCell']) j cE.out jQ.out iN ?_;intro p7 Z bH eU bL aY;have aT:=(aY.other Y gR (fun e=>by have:=(fV.out Y e.symm).1;have:=J.out.size;have:=N.out;omega)).trans jI.out;have z1:=Qk _ _ 1 _ _ _ aT;have g1:=fA 1 aT;simp only [Qf,Qg,Qh] at z1;obtain ⟨gH,bZ,aI⟩:=Qxn aT bL aY;clear bL aY aT)
   go_roundw
   case measure=>simp [intOf];omega
   case rel=>
    have aN:=I.out
    have bM:=N.out
    have kO:=J.out.size
    have eD:=jJ.out
    have aD:∀ y,y<w9.heap.size->some y≠(Value.slice rq j M).ownBlock:=fun y D e=>by have:=(fV.out y e.symm).1;omega
    have dG:∀ y,y<WD.heap.size->y≠Y->some y≠(Value.slice rq j M).ownBlock->(eU.setCell ⟨Y,1,none⟩ (.slice p7 (j+1) Z)).heap[y]?=WD.heap[y]?:=fun y D h8 ho=>(Z9 h8).trans (aI.out.other y D ho)
    have dE:Below (min g A) WD (eU.setCell ⟨Y,1,none⟩ (.slice p7 (j+1) Z)):=(aI.out.below.mono Qvu).setCell (p:=⟨Y,1,none⟩) (by show min g A<=Y;omega) _
    have cN:Zr (fun y=>y=A\/y=Y\/some y=(Value.slice rq j M).ownBlock) (min g A) bU (eU.setCell ⟨Y,1,none⟩ (.slice p7 (j+1) Z)):=⟨dQ.out.below.trans dE,fun y D hn=>(dG y Qvu (fun e=>hn (.inr (.inl e))) (fun e=>hn (.inr (.inr e)))).trans (dQ.out.keep y D (fun e=>hn (.inl e)))⟩
    refine ⟨j+1,p7,Z,ys++[x],bH,o5,true,Qvu,by go_num,(show Aside _ from ?_),(show Aside _ from ?_),(show Aside _ from ?_),(show Aside _ from ?_),(show Aside _ from ?_),(show Aside _ from ⟨?_,fun y D hn=>?_⟩),(show Aside _ from bF.out.2),(show Aside _ from ?_),(show Aside _ from bE.out.next hjl O.out gA.out (fun v0 h1 h2=>jY.out v0 h1 h2)),(show Aside _ from ?_)⟩
    ·show _=_;rw [Ql,cE.out];rfl
    ·show _=_;rw [Qi _ _ _ _ _ _ gH.out];rfl
    ·exact bZ.out.move (Q9 _) (fun y D h=>Z9 (show y≠Y by
      have:w9.heap.size<=y:=by rcases h with h | h;exact h;exact (bZ.out.row.lt y h).1
      omega))
    ·exact jX.out.step cN (fun y D e=>by rcases e with e | e | e;omega;omega;exact aD y Qvu e) (fun e=>by rcases e with e | e | e;omega;omega;exact aD g Qvu e)
    ·exact (dG A (Z8 fE.out) Qvu (aD A Qvu)).trans fE.out
    ·exact ((T.out.below.trans (bY.out.below.mono Qvu)).trans dQ.out.below).trans dE
    ·exact (cN.keep y Qvu (fun e=>by rcases e with e | e | e;exact hn (.inr (.inl e));exact hn (.inr (.inr e));exact aD y D e)).trans ((bY.out.keep y (Qxj T.out.size) (fun e=>hn (.inl e))).trans (T.out.keep y D hn))
    ·have e:wI m++xs.flatMap Xh++wT V++wI n++(ys++[x]).flatMap Vf=wI m++xs.flatMap Xh++wT V++wI n++ys.flatMap Vf++wT eT:=by rw [List.flatMap_append,<- jL.out];simp [Vf]
     rw [e];exact aJ.out.text gA.out
    intro r hr
    rcases Z4.1 hr with h | h
    ·exact cV.out r h
    rw [Z5.1 h];exact fU.out
  have iD:j=n:=Qvu
  subst iD
  have bA:∀ y,y<W8.heap.size->y≠g->y≠A->y≠Y->wr.heap[y]?=W8.heap[y]?:=fun y h1 h2 h3 h4=>(T.out.keep y (Qa h1 J.out.size) Qvu).trans (J.out.keep y h1 Qvu)
  have bM:=N.out
  have aN:=I.out
  have hA:=HO.out.move (w':=wr) (Q9 _) (fun y D h=>by
   have hB:WB.heap.size<=y:=by rcases h with h | h;exact h;exact (HO.out.row.lt y h).1
   exact (bA y Qvu Qvu Qvu Qvu).trans (dR.out y D Qvu))
  have cO:=fun y (h:(Value.slice q k qc).ownBlock=some y)=>HO.out.row.lt y h
  have hL:Yx.R (But (fun y=>WB<=y) (.slice q k qc)) wr [V,.slice rq j M] ⟨V,ys⟩:=⟨.slice rq j M,rfl,(show V.length<=1000000 from by have:=gD.out;have:=O.out;omega),dT.out.sl (by have:=cE.out;have:=fR.out;have:=O.out;omega) (fun y D=>⟨by have:=J.out.size;omega,fun e=>by have:=(cO y e.symm).2;have:=J.out.size;omega⟩) (fun y _ D=>⟨by have:=J.out.size;omega,fun e=>by have:=(cO y e.symm).2;have:=J.out.size;omega⟩)⟩
  obtain ⟨x0,x1⟩:=row2 aV.out
  have iM:WB.heap.size<=wr.heap.size:=Qxq J.out.size T.out.size
  obtain ⟨jS,bF,jZ,jR⟩:=Qxo hA hL cO bA;have kB:=Qq (show k<1000000 from by have:=dS.out;have:=O.out;omega)
  clear hA hL cO bA aN bM
  go_wp2_with (at_builtin;refine Yf (r:=Yx) Qxv rfl (.tmp 45) (.tmp 47) _ rfl 42 i9 (.agg #[Qxd,Qxe]) 40 underlying29 jV.out jW.out cA.out fX.out rfl Qvu (fun y=>WB<=y) WB wr (.slice q k qc) xs css [V,.slice rq j M] ⟨V,ys⟩ rfl jS.out rfl bF.out (by simp [Value.oneCell']) k cC.out kB.out iM ?_;intro p7 Z bH w7 bL aY;have bZ:=Qq bL;have aI:=Qq aY;clear bL aY)
  go_roundw
  case measure=>simp [intOf];omega
  case rel=>
   have aN:=I.out
   have bM:=N.out
   have kS:W8.heap.size<=wr.heap.size:=Qc J.out.size T.out.size
   have aD:∀ y,y<WB.heap.size->some y≠(Value.slice q k qc).ownBlock:=fun y D e=>by have:=(jZ.out y e.symm).1;omega
   have cN:Zr (fun y=>some y=(Value.slice q k qc).ownBlock) WB wr _:=⟨aI.out.below,fun y D h=>aI.out.other y D h⟩
   refine ⟨k+1,p7,Z,xs++[Rel.mk V ys],bH,o4,f4,Qvu,by go_num,rfl,(show Aside _ from ?_),(show Aside _ from bZ.out),(show Aside _ from ?_),(show Aside _ from ?_),(show Aside _ from ⟨?_,fun y D hn=>?_⟩),(show Aside _ from bG.out),(show Aside _ from ?_),(show Aside _ from bE.out.done),(show Aside _ from ?_)⟩
   ·show _=_;rw [Ql,cC.out];rfl
   ·exact fW.out.step cN (fun y D e=>aD y Qvu e) (fun e=>aD g Qvu e)
   ·exact (aI.out.other A (Z8 bW.out) (aD A Qvu)).trans bW.out
   ·exact (((aH.out.below.trans (fQ.out.below.mono Qvu)).trans J.out.below).trans T.out.below).trans (aI.out.below.mono Qvu)
   ·exact (aI.out.other y Qvu (aD y D)).trans ((jR.out y Qvu Qvu Qvu Qvu).trans ((dR.out y Qvu Qvu).trans (aH.out.keep y D hn)))
   ·have e:wI m++(xs++[Rel.mk V ys]).flatMap Xh=wI m++xs.flatMap Xh++wT V++wI j++ys.flatMap Vf:=by rw [List.flatMap_append];simp [Xh,cE.out]
    rw [e];exact aJ.out
   intro r hr
   rcases Z4.1 hr with h | h
   ·exact gG.out r h
   rw [Z5.1 h];exact cV.out
 have kI:k=m:=Qvu
 subst kI
 have HD:=Qq (Hu _ g _ o HR.out)
 have dN:=Qq (gF.out.trans (aH.out.below.mono (Qxj I.out)))
 cases f with
 | false=>
  go_wp2_with fail
  go_ret2
  exact ⟨dN.out,.inl ⟨rfl,fun l hl e=>by cases (bD.out.done l hl e).1⟩⟩
 | true=>
  go_wp2_with fail
  refine HD.out.mono ?_
  rintro e w6 ⟨⟨xe,rfl,cP⟩,rfl⟩
  by_cases ho:o=some []
  ·obtain rfl:=cP.2 ho
   have HE:=Qq (dV.out rfl [] ho)
   clear ho cP
   go_wp2_with fail
   go_ret2
   refine ⟨dN.out,.inr ⟨xs,_,rfl,?_,HO.out.sl (by have:=cC.out;have:=dS.out;have:=O.out;omega) (fun y D=>Qxj I.out) (fun y _ D=>Qxj I.out),gG.out,fun l hl e=>(bD.out.done l hl e).2.1⟩⟩
   have:=HE.out
   rw [List.append_nil,<- cC.out] at this
   exact this
  have iQ:¬ xe=0:=fun h=>ho (cP.1 h)
  have kP:(xe==0)=false:=by simpa using iQ
  have jU:=Qq ho
  clear ho cP
  go_wp2_with fail
  go_ret2
  exact ⟨dN.out,.inl ⟨rfl,fun l hl e=>jU.out (bD.out.done l hl e).2.2⟩⟩
end Go.Proofs.YtlanplhphiikjaaGreatDoor
