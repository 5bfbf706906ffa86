import Derived.Test.YtlanplhphiikjaaGreatDoorE44
import Derived.Test.YtlanplhphiikjaaGreatDoorE45
import Derived.Test.YtlanplhphiikjaaGreatDoorE48
import Derived.Test.YtlanplhphiikjaaGreatDoorE43
set_option maxRecDepth 100000
set_option maxHeartbeats 400000000
namespace Go.Proofs.YtlanplhphiikjaaGreatDoor
open Go.RowKit Go.Shelf Go.Lib Tryz
theorem Ef (HCk:Dp) (S1 S2 S3 S4:Nat->Prop) (lv nv mv:Value) (ls ns ms:List Int) (x y:Int) (rp:Option Addr) (rn rc:Nat) (rs:Bs) (w:World) (hl0:Xa S1 w lv ls) (hn0:Xa S2 w nv ns) (hm0:Xa S3 w mv ms) (hi1:Uh ls) (hi2:Uh ns) (hi3:Uh ms)
  (hx1:-9223372036854775808<=x) (hx2:x<=9223372036854775807) (hy1:0<=y) (hy2:y<=255) (hrc:rn<=rc) (hrn:(if rn<=40 then rn else 40)=rs.length) (hr0:Sl Zt S4 w (.slice rp rs.length rc) rs) (hT:J7 w):
  Calls prog 3 #[lv,nv,mv,x,.int .u8 y,.slice rp rn rc] w fun e w'=>e=.returned (.bool true)/\Below w w w':=by
 obtain ⟨s,bP⟩:=eX (Gen.schema (Yo ls 0 13).toNat (Yo ls 1 3==0) (decide (0<Yo ls 2 3)) (Yo ls 3 2==0))
 have hG:R9 s:=by rw [<- bP];exact O6 _ _ _ _
 have gT:0<s.tables.length:=by rw [<- bP];simp [Gen.schema]
 have fW:∀ t ∈ s.tables,t.name.length<=16:=by rw [<- bP];exact fun t ht=>Qkq ht
 have cT:=Qq ((S6 S1 lv ls (Yo ls 0 13).toNat _ _ _ w hl0 hi1 (fun W hW=>Su S1 lv ls W (hl0.below hW) hi1) rfl rfl rfl).mono (R':=fun e w'=>∃ up m1 uc tp m2 tc,e=.returned (.agg #[.slice up m1 uc,.slice tp m2 tc])/\Vj (fun _=>True) w' [.slice up m1 uc,.slice tp m2 tc] s/\Below w w w') (by
  rintro e w' ⟨cs,rfl,M,h2⟩
  rw [bP] at M
  obtain ⟨uv,tv,rfl,hu,ht⟩:=M
  obtain ⟨up,uc,rfl,_⟩:=hu.len
  obtain ⟨tp,tc,rfl,_⟩:=ht.len
  exact ⟨_,_,_,_,_,_,rfl,⟨_,_,rfl,hu.mono (fun _ _ _=>trivial),ht.mono (fun _ _ _=>trivial)⟩,h2⟩))
 obtain ⟨bA,iS,dM,iT,iQ,iK,iL,fF⟩:=Qxt hG gT hT hn0 hm0 hi2 hi3 fW;obtain ⟨HX,HY,bD⟩:=Qxn (Qe hx1 hx2) (Qe hy1 hy2) (Qe hrc (Qe hrn hr0))
 obtain ⟨lp,lc,rfl,_⟩:=hl0.len
 obtain ⟨np,nc,rfl,_⟩:=hn0.len
 obtain ⟨mp,mc,rfl,_⟩:=hm0.len
 clear bP hG gT fW hT hn0 hm0 hl0 hi1 hi2 hi3 hx1 hx2 hy1 hy2 hrc hrn hr0
 go_enter func3,ntmps3
 go_upto_region 2 with (go_at_call 5;refine cT.out.mono ?_;rintro e w1 ⟨up,m1,uc,tp,m2,tc,rfl,cZ,gH⟩;have cR:=Qq cZ;have iD:=Qq gH;clear cZ gH)
 generalize dR:w1.alloc _=W2
 have dT:=eqB dR (Ze _ _)
 have gD:=eqH (b:=w1.heap.size) dR (Qw _ _)
 have cS:=Qq (cR.out.below dT);have dD:=Qq (iD.out.thn dT)
 obtain ⟨c0,c1⟩:=row2 gD
 clear dR dT gD cR cT
 have eV:=Qq (Au HCk s bA.out iS.out _ S2 S3 _ (.slice np ns.length nc) (.slice mp ms.length mc) ns ms W2 cS.out (iT.out.below dD.out) (iQ.out.below dD.out) iK.out iL.out)
 go_upto_region 3 with (go_at_call 6;refine eV.out.mono ?_;rintro e w3 ⟨a,ap,ac,rfl,gE,gG,gF,gB,gI⟩;obtain ⟨aS,dB,eJ,aL,iE⟩:=Qxp gE gG gF gB.rel (dD.out.thn gI);clear gE gG gF gB gI)
 clear c0 c1 eV cS
 have bC:Hid (∀ r ∈ a,r.table.length<=16):=Qq (by obtain ⟨d,hd⟩:=eJ.out;exact T9 hd fF.out)
 have O:=Qq (Az aS.out bC.out)
 have gC:=T7 aS.out bC.out (Qc dB.out bA.out.few)
 have cW:=encR_pos a
 obtain ⟨an,dS⟩:=eX (a.length)
 have aT:=Qq dS
 have kI:an<=3:=by have M:=dB.out;have h2:=bA.out.few;omega
 have J:=Qq (Hq _ (.slice ap a.length ac) a w3 aL.out (fun r hr x hx=>(O.out r hr |>.2 x hx).1.wok) Qvu)
 obtain ⟨b,dU⟩:=eX (Ju a)
 obtain ⟨bn,dV⟩:=eX (b.length)
 unfold Uv at J
 rw [dS] at J aL |-
 rw [dU] at J gC cW
 rw [dV] at J gC cW
 have bR:=Qq dU;have N:=Qq dV
 clear dS dU dV dB eJ fF bC
 go_upto_region 4 with (go_at_call 7;refine J.out.mono ?_;rintro e w4 ⟨bp,bc,css,rfl,hO,gJ⟩;have dJ:=Qq hO;have cH:=Qq gJ;clear hO gJ)
 have jK:bn<=bc:=by have h:=Rq dJ.out;rw [N.out] at h;exact h
 have bG:Hid (Sl Zt (fun y=>w3<=y) w4 (.slice bp bn bc) b):=Qq ((Kr (S':=fun _=>False) dJ.out).sl (by rw [N.out];omega) (fun _ h=>h) (fun _ _ h=>h.elim))
 have eL:=Qq (iE.out.thn cH.out)
 have cM:=Qq (aL.out.below cH.out)
 have eS:=Qq ((Es _ (.slice bp bn bc) b w4 bG.out (by rw [N.out];omega) (dM.out.of_below eL.out)).mono (R':=fun e w5=>∃ xp xc,e=.returned (.tuple #[.slice xp an xc,Qxc])/\Sl Yx (fun y=>w4<=y) w5 (.slice xp an xc) a/\Below w4 w4 w5) (by
  rintro e w5 ⟨M,⟨_,h2⟩ | ⟨xs,rv,rfl,_,hs,_,hf⟩⟩
  ·exact absurd bR.out.symm (h2 a O.out)
  obtain rfl:=hf a O.out bR.out.symm
  obtain ⟨p,c,rfl,_⟩:=hs.len
  rw [aT.out] at hs |-
  exact ⟨p,c,rfl,hs,M⟩))
 clear J dJ
 go_upto_region 5 with (go_at_call 8;refine eS.out.mono ?_;rintro e w5 ⟨xp,xc,rfl,gW,gK⟩;have cU:=Qq gW;have aV:=Qq gK;clear gW gK)
 have eM:=Qq (eL.out.thn aV.out)
 have bH:=Qq (bG.out.below aV.out);have cN:=Qq (cM.out.below aV.out)
 have aG:=Qq (L6 _ (.slice bp bn bc) b w5 bH.out)
 clear eS
 go_upto_region 6 with (go_at_call 9;refine aG.out.mono ?_;rintro e U ⟨g,rfl,hR,hg,gL⟩;obtain ⟨bW,dH,aK⟩:=Qxn hR hg gL;clear hR hg gL)
 obtain ⟨V,dQ⟩:∃ V:Nat->Prop,(fun b:Nat=>w5<=b/\b<g)=V:=⟨_,rfl⟩
 have bX:Hid (∀ b,V b->b≠g):=Qq (by rw [<- dQ];intro b h;have:=h.2;omega)
 rw [dQ] at bW
 have dY:g<U.heap.size:=bW.out.lt
 have iF:=Qq (eM.out.thn aK.out)
 have bE:=Qq (((cN.out.mono (S':=fun y=>y<g) (fun y hy _=>Qxj dH.out)).below aK.out))
 have cO:=Qq (((bH.out.mono (S':=fun y=>y<g) (fun y hy _=>Qxj dH.out)).below aK.out))
 have eY:=Qq ((Cj _ _ (.slice xp an xc) (.slice ap an ac) a a U (cU.out.below aK.out) bE.out).mono (R':=fun e w2=>e=.returned (.bool true)/\Below U U w2) (by
  rintro e w2 ⟨rfl,h⟩
  rw [Wr]
  exact ⟨rfl,h.bl⟩))
 have fB:=Qq (fun W (h:RAt V g W (some b))=>(U0 V g W _ bX.out h).mono (R':=fun e w2=>e=.returned (.int .i64 an)/\RAt V g w2 (some (a.flatMap Xh))/\Zr (fun b=>b=g) g W w2) (by
  rintro e w2 ⟨rfl,M,h2⟩
  rw [(Br bR.out.symm (by rw [N.out];omega)).1,aT.out] at M
  rw [(Br bR.out.symm (by rw [N.out];omega)).1,aT.out]
  exact ⟨rfl,M,h2⟩))
 have jS:((bn:Int)==0)=false:=by rw [<- Qt,beq_iff_eq];omega
 have jT:((an:Int) != (an:Int))=false:=Qxz
 clear aG dQ cU
 go_upto_region 8 with (first
  | (go_at_call 10;refine eY.out.mono ?_;rintro e w7 ⟨rfl,gM⟩;have aW:=Qq gM;clear gM)
  | (go_at_call 11;refine (fB.out _ (bW.out.below aW.out)).mono ?_;rintro e w8 ⟨rfl,fY,fS⟩;have fG:=Qq fY;have cK:=Qq fS;clear fY fS))
 have iI:Hid (Zr (fun b=>b=g) g U w8):=Qq ((Zr.of_below aW.out Qvu).trans cK.out)
 have fH:Hid (RAt V g w8 (some ((a.drop 0).flatMap Xh))):=fG
 have fN:Hid (∀ W,Zr (fun b=>b=g) g U W->Sl Yx (fun y=>y<g) W (.slice ap an ac) a):=Qq (fun W h=>bE.out.frame (h.agree (fun b hb=>Nat.ne_of_lt hb)))
 have cP:Hid (∀ W,Zr (fun b=>b=g) g U W->Sl Zt (fun y=>y<g) W (.slice bp bn bc) b):=Qq (fun W h=>cO.out.frame (h.agree (fun b hb=>Nat.ne_of_lt hb)))
 have eQ:Hid (∀ W,Zr (fun b=>b=g) g U W->Below w w W):=Qq (fun W h=>iF.out.trans (h.below.mono (Qxq dH.out eM.out.size)))
 clear eY fB jS jT aL cM cN bG bH bE cO fG aW cK bW
 go_wp2_with fail
 go_loopw [19,20] (fun eA _ wr=>∃ i:Nat,i<=an/\eA=.int .i64 i/\Aside (RAt V g wr (some ((a.drop i).flatMap Xh))/\Zr (fun b=>b=g) g U wr)) (fun eA _ _=>an - (intOf eA).toNat)
 case atStart=>exact ⟨0,Q8 _,rfl,⟨fH.out,iI.out⟩⟩
 obtain ⟨i,hi2,rfl,hA⟩:=hrel
 have dK:=Qq hA.out.1;have bB:=Qq hA.out.2
 clear hA
 by_cases hi:i<an
 ·have g1:(i:Int)<(an:Int):=Qvu
  have g2:(0:Int)<=(i:Int):=Qvu
  obtain ⟨r,hr⟩:∃ r,a[i]?=some r:=⟨_,Qx (by rw [aT.out];exact hi)⟩
  obtain ⟨nr,cB⟩:=eX (r.rows.length)
  have kJ:nr<=8:=by rw [<- cB];exact (aS.out r (Qy hr)).2
  obtain ⟨ab,bI,ct,hp,_,cA,_,jU,cE⟩:=(fN.out U (Zr.refl _ _ _)).elem hr
  subst hp
  obtain ⟨rv,rfl,_,cC⟩:=jU
  obtain ⟨qp,qc,rfl,_⟩:=cC.len
  rw [cB] at cC cE
  have e0:=cE 0 _ rfl;have e1:=cE 1 _ rfl
  simp only [show Yx.k=2 from rfl,Nat.add_zero] at e0 e1
  unfold sv at e0
  have HD:Hid (∀ W,Zr (fun b=>b=g) g U W->Qxw W ab (bI+i*2) r.table/\Qxw W ab (bI+i*2+1) (.slice qp nr qc)):=Qq (fun W h=>⟨h.cellAt e0 rfl (Nat.lt_trans cA dY) (Nat.ne_of_lt cA),h.cellAt e1 rfl (Nat.lt_trans cA dY) (Nat.ne_of_lt cA)⟩)
  have iY:Hid (∀ W,Zr (fun b=>b=g) g U W->Sl Zc (fun y=>y<g) W (.slice qp nr qc) r.rows):=Qq (fun W h=>cC.frame (h.agree (fun b hb=>Nat.ne_of_lt hb)))
  have HR:=Qq hr;have dI:=Qq cB
  obtain ⟨tl,gY⟩:=eX ((a.drop (i+1)).flatMap Xh)
  have fP:=Qq gY
  have fQ:=Qq (fun W (h:RAt V g W (some ((a.drop i).flatMap Xh)))=>(Ki V g W _ bX.out h).mono (R':=fun e w2=>e=.returned (.string ⟨r.table.toArray⟩)/\RAt V g w2 (some (wI (nr:Int)++(r.rows.flatMap Vf++tl)))/\Zr (fun b=>b=g) g W w2) (by
   rintro e w2 ⟨rfl,M,h2⟩
   rw [Bp O.out HR.out,dI.out,fP.out] at M
   rw [Bp O.out HR.out]
   exact ⟨rfl,M,h2⟩))
  have fC:=Qq (fun W (h:RAt V g W (some (wI (nr:Int)++(r.rows.flatMap Vf++tl))))=>(U0 V g W _ bX.out h).mono (R':=fun e w2=>e=.returned (.int .i64 nr)/\RAt V g w2 (some (r.rows.flatMap Vf++tl))/\Zr (fun b=>b=g) g W w2) (by
   rintro e w2 ⟨rfl,M,h2⟩
   rw [Gi Qvu Qvu] at M
   rw [Gi Qvu Qvu]
   exact ⟨rfl,M,h2⟩))
  clear hr cB cE cC e0 e1 gY
  go_upto_region 11 with fail
  go_cut [90] from 66 to 113 (fun kD wx=>kD=.bool false/\RAt V g wx (some ((r.rows.drop 0).flatMap Vf++tl))/\Zr (fun b=>b=g) g U wx)
  case first=>
   refine wp_region_held_drew (S:=fun W=>Zr (fun b=>b=g) g U W) Qxx (bB.out.drew) (fun D=>?_)
   refine tkD (v:=?_) 0 (fun I A=>?_) ?_;rotate_left
   ·(go_simp;try with_reducible rfl)
   refine tkD (v:=?_) 2 (fun I A=>?_) ?_;rotate_left
   ·(go_simp;try with_reducible rfl)
   refine tkD (v:=?_) 3 (fun I A=>?_) ?_;rotate_left
   ·(go_simp;try with_reducible rfl)
   refine tkD (v:=?_) 4 (fun I A=>?_) ?_;rotate_left
   ·(go_simp;try with_reducible rfl)
   refine tkD (v:=?_) 5 (fun I A=>?_) ?_;rotate_left
   ·(go_simp;try with_reducible rfl)
   refine tkD (v:=?_) 6 (fun I A=>?_) ?_;rotate_left
   ·(obtain ⟨y0,-⟩:=HD.out I A;go_simp;try with_reducible rfl)
   have aG:Hid (RAt V g wr.drew (some ((a.drop i).flatMap Xh))):=Qq dK.out.drew
   have aZ:Hid (Zr (fun b=>b=g) g U wr.drew):=Qq bB.out.drew
   generalize wr.drew=wd at D aG aZ |-
   refine rdD 1 (fun K T=>?_) ?_
   ·go_simp
    refine (fQ.out wd aG.out).mono ?_
    rintro e wa ⟨rfl,hR,hG⟩
    have iU:=Qq hR;have aI:=Qq (aZ.out.trans hG)
    clear hR hG
    try dsimp only
    refine T.out _ _ (aI.out) (fun D=>?_)
    clear T K
    refine tkD (v:=?_) 7 (fun I A=>?_) ?_;rotate_left
    ·(go_simp;try with_reducible rfl)
    refine tkD (v:=?_) 8 (fun I A=>?_) ?_;rotate_left
    ·(go_simp;try with_reducible rfl)
    refine tkD (v:=?_) 9 (fun I A=>?_) ?_;rotate_left
    ·(go_simp;try with_reducible rfl)
    refine tkD (v:=?_) 11 (fun I A=>?_) ?_;rotate_left
    ·(go_simp;try with_reducible rfl)
    refine tkD (v:=?_) 12 (fun I A=>?_) ?_;rotate_left
    ·(go_simp;try with_reducible rfl)
    refine tkD (v:=?_) 13 (fun I A=>?_) ?_;rotate_left
    ·(go_simp;try with_reducible rfl)
    refine tkD (v:=?_) 14 (fun I A=>?_) ?_;rotate_left
    ·(go_simp;try with_reducible rfl)
    refine tkD (v:=?_) 15 (fun I A=>?_) ?_;rotate_left
    ·(obtain ⟨-,y1⟩:=HD.out I A;go_simp;try with_reducible rfl)
    refine tkD (v:=?_) 16 (fun I A=>?_) ?_;rotate_left
    ·(go_simp;try with_reducible rfl)
    refine rdD 10 (fun K T=>?_) ?_
    ·go_simp
     refine (fC.out wa iU.out).mono ?_
     rintro e wb ⟨rfl,hR,hG⟩
     have iV:=Qq hR;have aP:=Qq (aI.out.trans hG)
     clear hR hG
     try dsimp only
     refine T.out _ _ (aP.out) (fun D=>?_)
     clear T K
     refine tkD (v:=?_) 17 (fun I A=>?_) ?_;rotate_left
     ·(go_simp;try with_reducible rfl)
     refine tkD (v:=?_) 18 (fun I A=>?_) ?_;rotate_left
     ·(go_simp;try with_reducible rfl)
     refine wpAnyH_done Qxx ?_ _
     clear D
     go_wp2_with fail
     go_meet
     exact ⟨rfl,iV.out,aP.out⟩
    exact Qo
   exact Qo
  obtain ⟨rfl,fZ,fT⟩:=hcut
  have iW:=Qq fZ;have iJ:=Qq fT
  clear fZ fT fQ fC
  go_upto_region 14 with fail
  go_loopw [20] (fun eB wr=>∃ k:Nat,k<=nr/\eB=.int .i64 k/\Aside (RAt V g wr (some ((r.rows.drop k).flatMap Vf++tl))/\Zr (fun b=>b=g) g U wr)) (fun eB _=>nr - (intOf eB).toNat)
  case atStart=>exact ⟨0,Q8 _,rfl,⟨iW.out,iJ.out⟩⟩
  obtain ⟨k,kO,rfl,hA⟩:=hrel
  have fI:=Qq hA.out.1;have bT:=Qq hA.out.2
  clear hA
  obtain ⟨y0,y1⟩:=HD.out _ bT.out
  by_cases hk:k<nr
  ·have g3:(k:Int)<(nr:Int):=Qvu
   have g4:(0:Int)<=(k:Int):=Qvu
   obtain ⟨v,hv⟩:∃ v,r.rows[k]?=some v:=⟨_,Qx (by rw [dI.out];exact hk)⟩
   obtain ⟨vb,dA,hH,hp,_,hC,_,dZ,aQ⟩:=(iY.out U (Zr.refl _ _ _)).elem hv
   subst hp
   obtain ⟨p3,k3,p4,k4,gN,_⟩:=Za.cells (show Za _ U hH v from dZ)
   simp only [vcs] at gN
   subst gN
   have z0:=aQ 0 _ rfl;have z1:=aQ 1 _ rfl;have z2:=aQ 2 _ rfl;have z3:=aQ 3 _ rfl;have z4:=aQ 4 _ rfl
   simp only [show Zc.k=5 from rfl,Nat.add_zero] at z0 z1 z2 z3 z4
   have iH:Hid (U7 v):=Qq (O.out r (Qy HR.out) |>.2 v (Qy hv)).1
   have jV:(Y6 v).length<=500:=((aS.out r (Qy HR.out)).1 v (Qy hv)).size
   have HV:=Qq hv
   obtain ⟨ev,dX⟩:=eX (Y6 v)
   obtain ⟨en,dW⟩:=eX (ev.length)
   rw [dX,dW] at jV
   have aO:=Qq dX;have J:=Qq dW
   have eR:Hid (∀ W,Zr (fun b=>b=g) g U W->Qxw W ab (bI+i*2+1) (Qxa vb dA nr qc)/\Qyg W vb (dA+k*5) v.kind v.n v.s (.slice p3 v.names.length k3) (.slice p4 v.kids.length k4)):=Qq (fun W h=>by
    have hh:∀ {j:Nat} {u:Value},U.cell? ⟨vb,j,none⟩=some u->W.cell? ⟨vb,j,none⟩=some u:=fun hc=>h.cellAt hc rfl (Nat.lt_trans hC dY) (Nat.ne_of_lt hC)
    exact ⟨(HD.out W h).2,hh z0,hh z1,hh z2,hh z3,hh z4⟩)
   have jB:Hid (∀ W,Zr (fun b=>b=g) g U W->Za (fun y=>y<g) W (Qxf v p3 k3 p4 k4) v):=Qq (fun W h=>Za.move dZ (h.agree (fun b hb=>Nat.ne_of_lt hb)) Qyv)
   have fL:=Qq (fun W (h:RAt V g W (some ((r.rows.drop k).flatMap Vf++tl)))=>(Lx V g W _ bX.out h).mono (R':=fun e w2=>∃ p c,e=.returned (.slice p en c)/\Sl Zt (fun y=>W<=y) w2 (.slice p en c) ev/\RAt V g w2 (some ((r.rows.drop (k+1)).flatMap Vf++tl))/\Zr (fun b=>b=g) g W w2) (by
    rintro e w2 ⟨p,c,css,rfl,hO,M,h2⟩
    rw [Oa HV.out (by rw [aO.out,J.out];omega),aO.out] at hO M
    rw [Oa HV.out (by rw [aO.out,J.out];omega),aO.out]
    rw [J.out] at hO |-
    exact ⟨p,c,rfl,hO.sl (by rw [J.out];omega) (fun _ h=>h) (fun _ _ h=>h.elim),M,h2⟩))
   have eZ:=Qq (fun W (h:Zr (fun b=>b=g) g U W)=>(Gy _ v _ W iH.out.wok (jB.out W h) (by rw [aO.out,J.out];omega)).mono (R':=fun e w2=>∃ p c,e=.returned (.slice p en c)/\Sl Zt (fun y=>W<=y) w2 (.slice p en c) ev/\Below W W w2) (by
    rintro e w2 ⟨p,c,css,rfl,hO,M⟩
    rw [aO.out] at hO |-
    rw [J.out] at hO |-
    exact ⟨p,c,rfl,(Kr (S':=fun _=>False) hO).sl (by rw [J.out];omega) (fun _ h=>h) (fun _ _ h=>h.elim),M⟩))
   have bY:=Qq (fun W p1 c1 p2 c2 (M:Sl Zt (fun _=>True) W (.slice p1 en c1) ev) (h2:Sl Zt (fun _=>True) W (.slice p2 en c2) ev)=>(Fp _ _ _ ev ev W M h2).mono (R':=fun e w2=>e=.returned (.bool true)/\Below W W w2) (by
    rintro e w2 ⟨rfl,h⟩
    rw [Hn,decide_eq_true rfl]
    exact ⟨rfl,h⟩))
   clear hv dZ aQ z0 z1 z2 z3 z4 dX dW
   go_upto_region 16 with fail
   clear y0 y1
   go_cut [113] from 91 to 113 (fun hE wx=>hE=.bool false/\RAt V g wx (some ((r.rows.drop (k+1)).flatMap Vf++tl))/\Zr (fun b=>b=g) g U wx)
   case first=>
    refine wp_region_held_drew (S:=fun W=>Zr (fun b=>b=g) g U W) Qxx (bT.out.drew) (fun D=>?_)
    refine tkD (v:=?_) 0 (fun I A=>?_) ?_;rotate_left
    ·(go_simp;try with_reducible rfl)
    refine tkD (v:=?_) 2 (fun I A=>?_) ?_;rotate_left
    ·(go_simp;try with_reducible rfl)
    refine tkD (v:=?_) 3 (fun I A=>?_) ?_;rotate_left
    ·(go_simp;try with_reducible rfl)
    refine tkD (v:=?_) 4 (fun I A=>?_) ?_;rotate_left
    ·(go_simp;try with_reducible rfl)
    refine tkD (v:=?_) 5 (fun I A=>?_) ?_;rotate_left
    ·(go_simp;try with_reducible rfl)
    refine tkD (v:=?_) 6 (fun I A=>?_) ?_;rotate_left
    ·(obtain ⟨q1,-,-,-,-,-⟩:=eR.out I A;go_simp;try with_reducible rfl)
    refine tkD (v:=?_) 7 (fun I A=>?_) ?_;rotate_left
    ·(go_simp;try with_reducible rfl)
    refine tkD (v:=?_) 8 (fun I A=>?_) ?_;rotate_left
    ·(go_simp;try with_reducible rfl)
    refine tkD (v:=?_) 9 (fun I A=>?_) ?_;rotate_left
    ·(obtain ⟨-,z0,z1,z2,z3,z4⟩:=eR.out I A;go_simp;try with_reducible rfl)
    have aG:Hid (RAt V g wr.drew (some ((r.rows.drop k).flatMap Vf++tl))):=Qq fI.out.drew
    have aZ:Hid (Zr (fun b=>b=g) g U wr.drew):=Qq bT.out.drew
    generalize wr.drew=wd at D aG aZ |-
    refine rdD 1 (fun K T=>?_) ?_
    ·go_simp
     refine (fL.out wd aG.out).mono ?_
     rintro e wa ⟨pr,cr,rfl,hs,hR,hG⟩
     obtain ⟨fO,fK,aI,kL⟩:=Qxo hs hR (aZ.out.trans hG) hG
     clear hs hR hG
     try dsimp only
     refine T.out _ _ (aI.out) (fun D=>?_)
     clear T K
     refine rdD 10 (fun K T=>?_) ?_
     ·go_simp
      refine (eZ.out wa aI.out).mono ?_
      rintro e wb ⟨pe,ce,rfl,hs,hb⟩
      obtain ⟨fM,eO,aP⟩:=Qxn hs hb (aI.out.trans (Zr.of_below hb (Qxj aI.out.size)))
      clear hs hb
      try dsimp only
      refine T.out _ _ (aP.out) (fun D=>?_)
      clear T K
      refine rdD 11 (fun K T=>?_) ?_
      ·go_simp
       refine (bY.out wb _ _ _ _ ((fO.out.below eO.out).mono (fun _ _ _=>trivial)) (fM.out.mono (fun _ _ _=>trivial))).mono ?_
       rintro e kQ ⟨rfl,hb⟩
       have dL:=Qq ((fK.out.below eO.out).below hb);have bU:=Qq (aP.out.trans (Zr.of_below hb (Qxj aP.out.size)))
       clear hb
       try dsimp only
       refine T.out _ _ (bU.out) (fun D=>?_)
       clear T K
       refine tkD (v:=?_) 12 (fun I A=>?_) ?_;rotate_left
       ·(go_simp;try with_reducible rfl)
       refine wpAnyH_done Qxx ?_ _
       clear D
       go_wp2_with fail
       go_meet
       exact ⟨rfl,dL.out,bU.out⟩
      exact Qo
     exact Qo
    exact Qo
   obtain ⟨rfl,gA,fU⟩:=hcut
   have dL:=Qq gA;have bU:=Qq fU
   clear gA fU fL eZ bY
   go_wp2_with fail
   go_roundw
   case measure=>simp [intOf];omega
   case rel=>exact ⟨k+1,Qvu,by go_num,⟨dL.out,bU.out⟩⟩
  have jQ:k=nr:=Qvu
  subst jQ
  have g3:¬ (k:Int)<(k:Int):=Qvu
  have iX:Hid (RAt V g wr (some ((a.drop (i+1)).flatMap Xh))):=Qq (by
   have h:=fI.out
   rw [List.drop_of_length_le (by rw [dI.out];exact Q9 _),List.flatMap_nil,List.nil_append,<- fP.out] at h
   exact h)
  go_wp2_with fail
  go_roundw
  case measure=>simp [intOf];omega
  case rel=>exact ⟨i+1,Qvu,by go_num,⟨iX.out,bT.out⟩⟩
 have jO:i=an:=Qvu
 subst jO
 have g1:¬ (i:Int)<(i:Int):=Qvu
 have eW:=Qq ((Hu V g wr (some []) (by
  have h:=dK.out
  rw [List.drop_of_length_le (by rw [aT.out];exact Q9 _),List.flatMap_nil] at h
  exact h)).mono (R':=fun e w'=>e=.returned (.int .i64 0)/\wr=w') (by
  rintro e w' ⟨⟨z,rfl,hz⟩,rfl⟩
  obtain rfl:=hz.2 rfl
  exact ⟨rfl,rfl⟩))
 have dF:=Qq (eQ.out wr bB.out)
 have cQ:=Qq (cP.out wr bB.out)
 have kM:=Qq (dM.out.of_below dF.out)
 have fJ:=Qq (bD.out.2.2.below dF.out)
 obtain ⟨k,gQ,hk⟩:∃ k:Nat,k<bn/\Vh x bn=(k:Int):=by
  have h9:=Hy x bn Qvu
  exact ⟨(Vh x bn).toNat,Qvu,Qvu⟩
 have dC:=Qq (fun W=>Ma x bn W HX.out.1 HX.out.2 Qvu Qvu)
 rw [hk] at dC
 obtain ⟨i5,j1,j2,j3,j4⟩:=Y4 (P:=prog) (t:=5) (z:=.int .u8 0) (n:=1) (b:=1) Qxx
 obtain ⟨HJ,iM,iN,iO⟩:=Qxo j1 j2 j3 j4
 clear j1 j2 j3 j4 hk fN eQ cP O aS dK
 go_upto_region 21 with (first
  | (go_at_call 16;refine eW.out.mono ?_;rintro e w' ⟨rfl,rfl⟩)
  | (go_at_call 17;refine (dC.out _).mono ?_;rintro e w' ⟨rfl,rfl⟩))
 clear eW dC
 have iR:=Qq (show ([]:Bs).length+b.length=bn by rw [N.out];simp)
 go_upto_region 22 with (at_builtin;refine Yn (r:=Zt) Qxv Bz rfl (.tmp 121) (.tmp 122) _ rfl 5 i5 (.int .u8 0) 1 underlying23 HJ.out iM.out iN.out iO.out rfl Qvu (fun _=>True) wr _ _ [] [] rfl (own_zero wr) (.slice bp bn bc) b rfl ((cQ.out.below (Ze wr _)).mono (S':=But (fun _=>True) (.slice (some ⟨wr,0,none⟩) 0 0)) (fun y _ h=>⟨trivial,fun e=>by have h2:y=wr.heap.size:=Qb e;have h3:y<g:=h;have:=bB.out.size;omega⟩)) bn iR.out Qvu (Ze wr _).size ?_;intro cp cc kH w9 fX fV;have bV:=Qq fX;have fD:=Qq fV;clear fX fV)
 obtain ⟨c,hc,jN⟩:∃ c,cp=some ⟨c,0,none⟩/\wr.heap.size<=c:=by
  rcases bV.out.row.2 with ⟨h,_⟩ | ⟨c,cap,kN,h,hB,_⟩
  ·simp only [Qr] at h;omega
  simp only [Qr] at h;exact ⟨c,h.1,hB⟩
 subst hc
 have bO:=bV.out.row
 rw [show (([]:Bs)++b).length=bn by rw [List.nil_append];exact N.out] at bO
 have jH:=bO.frozenAt k
 have dG:Hid (Sl Zt (fun y=>wr<=y) w9 (.slice (some ⟨c,0,none⟩) bn cc) b):=Qq (by
  have h:=(Kr (S':=fun _=>False) bV.out).sl (S':=fun y=>wr<=y) (by rw [List.nil_append,N.out];omega) (fun _ h=>h) (fun _ _ h=>h.elim)
  rw [List.nil_append] at h
  exact h)
 have l9:∃ u,w9.cell? ⟨c,k,none⟩=some (.int .u8 u):=by
  obtain ⟨yk,jW⟩:∃ yk,b[k]?=some yk:=⟨_,Qx (by rw [N.out];exact gQ)⟩
  obtain ⟨b',kK,e',M,_⟩:=dG.out.byte jW
  simp only [Zv,Addr.mk.injEq,and_true] at e'
  obtain ⟨rfl,rfl⟩:=e'
  rw [Nat.zero_add] at M
  exact ⟨_,M⟩
 obtain ⟨u9,l9⟩:=l9
 have g2:(0:Int)<=(k:Int):=Qvu
 have g3:(k:Int)<(bn:Int):=Qvu
 clear bO
 go_upto_region 23 with fail
 generalize bL:World.setCell w9 _ _=Y
 have cI:Hid (Sl Zt (fun y=>wr<=y) Y (.slice (some ⟨c,0,none⟩) bn cc) (b.set k (UInt8.ofNat y.toNat))):=Qq (by
  have h:=setByte dG.out k gQ (UInt8.ofNat y.toNat)
  rw [Qqm HY.out.1 HY.out.2,Nat.zero_add] at h
  rw [<- bL]
  exact h)
 have aU:Hid (Below wr wr Y):=Qq (by
  rw [<- bL]
  exact ((Ze wr _).trans fD.out.below).setCell (p:=⟨c,k,none⟩) jN _)
 clear bL bV fD dG l9 jH
 have bF:=cQ.out.below aU.out
 obtain ⟨V1,V2,gV,_,cD,_⟩:=Va 23 5 underlying23 sizeOf5 bF ⟨bp,bc,by rw [N.out],by rw [N.out];exact jK⟩ k (by rw [N.out];omega)
 obtain ⟨kp,kc,rfl,_⟩:=cD.len
 have gR:(b.take k).length=k:=by rw [Qm,N.out];omega
 rw [gR] at cD gV
 have cL:=Qq cD
 have fA:=Qq (fun W (h:Below Y Y W)=>(few_any S4 rp rn rc rs W bD.out.1 bD.out.2.1 (fJ.out.below (aU.out.thn h))).mono (R':=fun e w2=>∃ fp fc,e=.returned (.slice fp rs.length fc)/\Sl Zt (fun y=>W<=y) w2 (.slice fp rs.length fc) rs/\Below W W w2) (by
  rintro e w2 ⟨p,c,css,rfl,hO,M⟩
  have jJ:rs.length<=40:=by have h:=bD.out.2.1;split at h <;> omega
  exact ⟨p,c,rfl,(Kr (S':=fun _=>False) hO).sl Qvu (fun _ h=>h) (fun _ _ h=>h.elim),M⟩))
 clear cD bF gR
 refine wp_region_held_drew (S:=fun W=>Below Y Y W) Qxx ((Qz _ _).drew) (fun D=>?_)
 refine tkD (v:=?_) 0 (fun I A=>?_) ?_;rotate_left
 ·(go_simp;try with_reducible rfl)
 refine tkD (v:=?_) 1 (fun I A=>?_) ?_;rotate_left
 ·(go_simp;try with_reducible rfl)
 refine tkD (v:=?_) 2 (fun I A=>?_) ?_;rotate_left
 ·(go_simp;try with_reducible rfl)
 refine tkD (v:=?_) 3 (fun I A=>?_) ?_;rotate_left
 ·(go_simp;try with_reducible rfl)
 refine tkD (v:=?_) 4 (fun I A=>?_) ?_;rotate_left
 ·(go_simp;try with_reducible rfl)
 have aH:Hid (Below Y Y Y.drew):=Qq (Qz _ _).drew
 generalize Y.drew=wd at D aH |-
 refine rdD 5 (fun K T=>?_) ?_
 ·go_simp
  refine (fA.out wd aH.out).mono ?_
  rintro e bQ ⟨fp,fc,rfl,hs,hb⟩
  have cJ:=Qq hs;have aF:=Qq (aH.out.thn hb)
  clear hs hb
  try dsimp only
  refine T.out _ _ (aF.out) (fun D=>?_)
  clear T K
  refine rdD 6 (fun K T=>?_) ?_
  ·go_simp
   generalize bM:World.alloc bQ _=Z
   have cX:=eqH (b:=bQ.heap.size) bM (Qw _ _)
   have aC:=eqB bM (Ze _ _)
   have cG:=Qq (dF.out.thn (aU.out.thn (aF.out.thn aC)))
   try dsimp only
   refine T.out _ _ (aF.out.thn aC) (fun D=>?_)
   clear T K
   refine tkD (v:=?_) 7 (fun I A=>?_) ?_;rotate_left
   ·(go_simp;try with_reducible rfl)
   refine wpAnyH_done Qxx ?_ _
   clear D
   have fE:Hid (∀ W,Below Z Z W->∀ j,j<3->∃ p n c bs,Qxw W bQ j (.slice p n c)/\bs.length=n/\n<=25000/\Sl Zt (fun _=>True) W (.slice p n c) bs):=Qq (by
    intro W h j hj
    have hx:=kB h cX
    have jJ:rs.length<=40:=by have h:=bD.out.2.1;split at h <;> omega
    obtain rfl | rfl | rfl:j=0\/j=1\/j=2:=Qvu
    ·exact ⟨_,_,_,_,(Qk _ _ 0 _ _ _ hx).trans rfl,by rw [List.length_set];exact N.out,Qvu,((cI.out.below (aF.out.thn (aC.thn h))).mono (fun _ _ _=>trivial))⟩
    ·exact ⟨_,_,_,_,(Qk _ _ 1 _ _ _ hx).trans rfl,by rw [Qm,N.out];omega,Qvu,((cL.out.below (aF.out.thn (aC.thn h))).mono (fun _ _ _=>trivial))⟩
    exact ⟨_,_,_,_,(Qk _ _ 2 _ _ _ hx).trans rfl,rfl,Qvu,((cJ.out.below (aC.thn h)).mono (fun _ _ _=>trivial))⟩)
   have cV:=Qq (dM.out.of_below cG.out)
   have iP:=Qq (fun W (h:Below Z Z W)=>Qjp W (cV.out.of_below h).kws)
   clear bM cX aC fA cI cL cJ gV
   go_wp2_with fail
   go_loopw [24,25,26] (fun eC _ _ wr=>∃ j:Nat,j<=3/\eC=.int .i64 j/\Aside (Below Z Z wr)) (fun eC _ _ _=>3 - (intOf eC).toNat)
   case atStart=>exact ⟨0,Q8 _,rfl,Qz _ _⟩
   obtain ⟨j,hj,rfl,hB⟩:=hrel
   have aX:=Qq (show Below Z Z wr from hB)
   clear hB
   by_cases hj3:j<3
   ·have g4:(j:Int)<3:=Qvu
    have g5:(0:Int)<=(j:Int):=Qvu
    obtain ⟨p,n,bZ,bs,bN,jL,gS,hs⟩:=fE.out _ aX.out j hj3
    have bS:=Qq jL
    have eT:=Qq ((Es _ (.slice p n bZ) bs wr hs (by rw [bS.out];exact gS) (cV.out.of_below aX.out)).mono (R':=fun e wk=>∃ v z,e=.returned (.tuple #[v,.int .i64 z])/\Below wr wr wk/\((z=2/\v=.slice none 0 0)\/(z=0/\∃ q m d xs,v=.slice q m d/\Ju xs=bs/\Sl Yx (fun y=>wr<=y) wk v xs/\∀ r ∈ xs,∀ x ∈ r.rows,WOk x))) (by
     rintro e wk ⟨M,⟨rfl,_⟩ | ⟨xs,rv,rfl,he,h2,h3,_⟩⟩
     ·exact ⟨_,_,rfl,M,.inl ⟨rfl,rfl⟩⟩
     obtain ⟨q,d,rfl,_⟩:=h2.len
     exact ⟨_,_,rfl,M,.inr ⟨rfl,q,_,d,xs,rfl,he,h2,h3⟩⟩))
    have eU:Hid (∀ W,Below wr wr W->Qxw W bQ j (.slice p n bZ)/\Sl Zt (fun _=>True) W (.slice p n bZ) bs):=Qq (fun W h=>⟨kC h bN,hs.below h⟩)
    clear hs
    go_upto_region 28 with (go_at_call 8;refine eT.out.mono ?_;rintro e wk ⟨v,z,rfl,hb,hz⟩;have aY:=Qq hb;have HZ:=Qq hz;clear hb hz)
    clear eT bN
    have eP:=Qq (aX.out.thn aY.out)
    have HD:Hid (∀ W,Below wk wk W->W.cell? ⟨bQ,j,none⟩=some (.slice p n bZ)):=Qq (fun W h=>(eU.out W (aY.out.thn h)).1)
    have iZ:=Qq (eU.out wk aY.out).2
    go_cut [171] from 135 to 171 (fun hF wx=>hF=.bool false/\Below Z Z wx)
    case first=>
     rcases HZ.out with ⟨rfl,rfl⟩ | ⟨rfl,q,m,d,xs,rfl,he,gX,gU⟩
     ·refine wp_region_held_drew (S:=fun W=>Below wk wk W) Qxx ((Qz _ _).drew) (fun D=>?_)
      refine tkD (v:=?_) 0 (fun I A=>?_) ?_;rotate_left
      ·(go_simp;try with_reducible rfl)
      refine tkD (v:=?_) 1 (fun I A=>?_) ?_;rotate_left
      ·(go_simp;try with_reducible rfl)
      refine tkD (v:=?_) 2 (fun I A=>?_) ?_;rotate_left
      ·(go_simp;try with_reducible rfl)
      refine tkD (v:=?_) 3 (fun I A=>?_) ?_;rotate_left
      ·(go_simp;try with_reducible rfl)
      refine tkD (v:=?_) 4 (fun I A=>?_) ?_;rotate_left
      ·(go_simp;try with_reducible rfl)
      refine tkD (v:=?_) 5 (fun I A=>?_) ?_;rotate_left
      ·(go_simp;try with_reducible rfl)
      refine tkD (v:=?_) 6 (fun I A=>?_) ?_;rotate_left
      ·(go_simp;try with_reducible rfl)
      refine tkD (v:=?_) 7 (fun I A=>?_) ?_;rotate_left
      ·(go_simp;try with_reducible rfl)
      refine tkD (v:=?_) 8 (fun I A=>?_) ?_;rotate_left
      ·(go_simp;try with_reducible rfl)
      refine tkD (v:=?_) 9 (fun I A=>?_) ?_;rotate_left
      ·(go_simp;try with_reducible rfl)
      refine tkD (v:=?_) 10 (fun I A=>?_) ?_;rotate_left
      ·(go_simp;try with_reducible rfl)
      refine tkD (v:=?_) 11 (fun I A=>?_) ?_;rotate_left
      ·(go_simp;try with_reducible rfl)
      refine tkD (v:=?_) 12 (fun I A=>?_) ?_;rotate_left
      ·(go_simp;try with_reducible rfl)
      refine tkD (v:=?_) 13 (fun I A=>?_) ?_;rotate_left
      ·(go_simp;try with_reducible rfl)
      refine tkD (v:=?_) 14 (fun I A=>?_) ?_;rotate_left
      ·(go_simp;try with_reducible rfl)
      refine tkN 15 ?_
      refine tkN 16 ?_
      refine tkN 17 ?_
      refine tkN 18 ?_
      refine tkN 19 ?_
      refine tkN 20 ?_
      refine tkN 21 ?_
      refine tkN 22 ?_
      refine tkD (v:=?_) 23 (fun I A=>?_) ?_;rotate_left
      ·(go_simp;try with_reducible rfl)
      refine tkD (v:=?_) 24 (fun I A=>?_) ?_;rotate_left
      ·(go_simp;try with_reducible rfl)
      have aN:Hid (Below wk wk wk.drew):=Qq (Qz _ _).drew
      generalize wk.drew=wd at D aN |-
      refine wpAnyH_done Qxx ?_ _
      clear D
      go_wp2_with fail
      go_meet
      exact ⟨rfl,eP.out.thn aN.out⟩
     have J:=Qq (fun W (h:Below wk wk W)=>(Hq _ (.slice q m d) xs W (gX.below h) gU (by rw [he,bS.out];omega)).mono (R':=fun e w2=>∃ p2 c2,e=.returned (.slice p2 n c2)/\Sl Zt (fun y=>W<=y) w2 (.slice p2 n c2) bs/\Below W W w2) (by
      rintro e w2 ⟨p2,c2,css,rfl,hO,M⟩
      rw [he] at hO |-
      have h:=(Kr (S':=fun _=>False) hO).sl (S':=fun y=>W<=y) (by rw [bS.out];omega) (fun _ h=>h) (fun _ _ h=>h.elim)
      rw [bS.out] at h |-
      exact ⟨p2,c2,rfl,h,M⟩))
     have bY:=Qq (fun W p1 c1 p2 c2 (M:Sl Zt (fun _=>True) W (.slice p1 n c1) bs) (h2:Sl Zt (fun _=>True) W (.slice p2 n c2) bs)=>(Fp _ _ _ bs bs W M h2).mono (R':=fun e w2=>e=.returned (.bool true)/\Below W W w2) (by
      rintro e w2 ⟨rfl,h⟩
      rw [Hn,decide_eq_true rfl]
      exact ⟨rfl,h⟩))
     clear gX gU he
     refine wp_region_held_drew (S:=fun W=>Below wk wk W) Qxx ((Qz _ _).drew) (fun D=>?_)
     refine tkD (v:=?_) 0 (fun I A=>?_) ?_;rotate_left
     ·(go_simp;try with_reducible rfl)
     refine tkD (v:=?_) 1 (fun I A=>?_) ?_;rotate_left
     ·(go_simp;try with_reducible rfl)
     refine tkD (v:=?_) 2 (fun I A=>?_) ?_;rotate_left
     ·(go_simp;try with_reducible rfl)
     refine tkN 3 ?_
     refine tkN 4 ?_
     refine tkN 5 ?_
     refine tkN 6 ?_
     refine tkN 7 ?_
     refine tkN 8 ?_
     refine tkN 9 ?_
     refine tkD (v:=?_) 10 (fun I A=>?_) ?_;rotate_left
     ·(go_simp;try with_reducible rfl)
     refine tkD (v:=?_) 11 (fun I A=>?_) ?_;rotate_left
     ·(go_simp;try with_reducible rfl)
     refine tkD (v:=?_) 12 (fun I A=>?_) ?_;rotate_left
     ·(go_simp;try with_reducible rfl)
     refine tkD (v:=?_) 13 (fun I A=>?_) ?_;rotate_left
     ·(go_simp;try with_reducible rfl)
     refine tkD (v:=?_) 14 (fun I A=>?_) ?_;rotate_left
     ·(go_simp;try with_reducible rfl)
     refine tkD (v:=?_) 15 (fun I A=>?_) ?_;rotate_left
     ·(go_simp;try with_reducible rfl)
     refine tkD (v:=?_) 17 (fun I A=>?_) ?_;rotate_left
     ·(go_simp;try with_reducible rfl)
     refine tkD (v:=?_) 18 (fun I A=>?_) ?_;rotate_left
     ·(go_simp;try with_reducible rfl)
     refine tkD (v:=?_) 19 (fun I A=>?_) ?_;rotate_left
     ·(go_simp;try with_reducible rfl)
     refine tkD (v:=?_) 20 (fun I A=>?_) ?_;rotate_left
     ·(have y0:=HD.out I A;go_simp;try with_reducible rfl)
     have aN:Hid (Below wk wk wk.drew):=Qq (Qz _ _).drew
     generalize wk.drew=wd at D aN |-
     refine rdD 16 (fun K T=>?_) ?_
     ·go_simp
      refine (J.out wd aN.out).mono ?_
      rintro e wa ⟨p2,c2,rfl,hs,hb⟩
      have jA:=Qq hs;have dE:=Qq (aN.out.thn hb)
      clear hs hb
      try dsimp only
      refine T.out _ _ (dE.out) (fun D=>?_)
      clear T K
      refine rdD 21 (fun K T=>?_) ?_
      ·go_simp
       refine (bY.out wa _ _ _ _ (jA.out.mono (fun _ _ _=>trivial)) (iZ.out.below dE.out)).mono ?_
       rintro e wb ⟨rfl,hb⟩
       have eN:=Qq (dE.out.thn hb)
       clear hb
       try dsimp only
       refine T.out _ _ (eN.out) (fun D=>?_)
       clear T K
       refine tkD (v:=?_) 22 (fun I A=>?_) ?_;rotate_left
       ·(go_simp;try with_reducible rfl)
       refine tkD (v:=?_) 23 (fun I A=>?_) ?_;rotate_left
       ·(go_simp;try with_reducible rfl)
       refine tkD (v:=?_) 24 (fun I A=>?_) ?_;rotate_left
       ·(go_simp;try with_reducible rfl)
       refine wpAnyH_done Qxx ?_ _
       clear D
       go_wp2_with fail
       go_meet
       exact ⟨rfl,eP.out.thn eN.out⟩
      exact Qo
     exact Qo
    obtain ⟨rfl,fR⟩:=hcut
    have iG:=Qq fR
    clear fR
    go_wp2_with fail
    go_roundw
    case measure=>simp [intOf];omega
    case rel=>exact ⟨j+1,Qvu,by go_num,iG.out⟩
   have jP:j=3:=Qvu
   subst jP
   have g4:¬ ((3:Nat):Int)<3:=Qvu
   go_wp2_with (go_at_call 19;refine (iP.out _ aX.out).mono ?_;rintro e kP ⟨rfl,cY⟩;have eK:=Qq cY;clear cY)
   go_ret
   exact ⟨rfl,cG.out.thn (aX.out.thn eK.out)⟩
  exact Qo
 exact Qo
end Go.Proofs.YtlanplhphiikjaaGreatDoor
