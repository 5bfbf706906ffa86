import Derived.Test.YtcljcblceodciaaGreatDoorU47
import Derived.Test.YtcljcblceodciaaGreatDoorU48
set_option maxRecDepth 100000
set_option maxHeartbeats 400000000
namespace Go.Proofs.YtcljcblceodciaaGreatDoor
open Go.RowKit Go.Shelf Go.Lib _root_.Go.Proofs.Tryz
def TboxMid (S:Nat->Prop) (w:World) (T:Tbl) (t t':Value) (wx:World):Prop:=∃ G cp9 cc9 kp9 kc9 rp9 rc9 k9 s19 n9 s29 p19 n19 c19 p29 n29 c29 p39 n39 c39 a9 z9,t=.pointer (some ⟨G,0,none⟩)/\t'=.bool true/\wx.heap[G]?=some (.cells (Co T cp9 cc9 kp9 kc9 rp9 rc9 k9 s19 n9 s29 p19 n19 c19 p29 n29 c29 p39 n39 c39 a9 z9) 48 (0,0))/\Zm.R (fun b=>S b\/w<=b/\b≠G) wx (Co T cp9 cc9 kp9 kc9 rp9 rc9 k9 s19 n9 s29 p19 n19 c19 p29 n29 c29 p39 n39 c39 a9 z9) T/\Below w w wx/\w.heap.size<=G
def fz_s:Sx (∀ (_:Du) (S1 S2 S3:Nat->Prop) (lv nv mv:Value) (ls ns ms:List Int) (w:World) (_:Xd S1 w lv ls) (_:Xd S2 w nv ns) (_:Xd S3 w mv ms) (_:Uh ls) (_:Uh ns) (_:Uh ms) (_:Xh w),Calls prog 4 #[lv,nv,mv] w fun e w'=>e=.returned (.bool true)/\Below w w w'):=by
 apply Sx.mk
 case all=>
  intro bE
  intro HCk S1 S2 S3 lv nv mv ls ns ms w hl0 hn0 hm0 hi1 hi2 hi3 hkw
  obtain ⟨s,cE⟩:=eX (Gen.schema (Yl ls 0 13).toNat (Yl ls 1 3==0) (decide (0<Yl ls 2 3)) (Yl ls 3 2==0))
  have hG:St s:=by rw [<- cE];exact Fb _ _ _ _
  have hF:0<s.tables.length:=by rw [<- cE];simp [Gen.schema]
  have dV:∀ t ∈ s.tables,Nr s t:=by rw [<- cE];exact fun t ht=>Bj ht
  have dU:∀ (S0 S1:Nat->Prop) (cs:List Value) (lv:Value) (l:List Rel) (w:World),Xt S0 w cs s->Sl Y6 S1 w lv l->Xh w->(∀ r ∈ l,(∀ v ∈ r.rows,Vr v)/\r.rows.length<=8)->Calls prog 10 #[cs,lv] w (SndIs s l w):=by
   rw [<- cE]
   exact fun S0 S1 cs lv l w h1 h2 h3 h4=>sndCheck S0 S1 cs lv l w h1 h2 h3 h4
  have dR:=Qq ((Nu S1 lv ls (Yl ls 0 13).toNat _ _ _ w hl0 hi1 (fun W hW=>Nv S1 lv ls W (hl0.below hW) hi1) rfl rfl rfl).mono (R':=fun e w'=>∃ up m1 uc tp m2 tc,e=.returned (.agg #[.slice up m1 uc,.slice tp m2 tc])/\Xt (fun _=>True) w' [.slice up m1 uc,.slice tp m2 tc] s/\s.tables.length=m2/\Below w w w') (by
   rintro e w' ⟨cs,rfl,h1,h2⟩
   rw [cE] at h1
   obtain ⟨uv,tv,rfl,hu,ht⟩:=h1
   obtain ⟨up,uc,rfl,_⟩:=hu.len
   obtain ⟨tp,tc,rfl,_⟩:=ht.len
   exact ⟨_,_,_,_,_,_,rfl,⟨_,_,rfl,hu.mono (fun _ _ _=>trivial),ht.mono (fun _ _ _=>trivial)⟩,rfl,h2⟩))
  obtain ⟨aT,jC,jA,jD,jB⟩:=Qjk hG hF hkw hn0 hm0;obtain ⟨iY,iZ,cJ,dK⟩:=Qjz hi2 hi3 dV dU
  obtain ⟨lp,lc,rfl,_⟩:=hl0.len
  obtain ⟨np,nc,rfl,_⟩:=hn0.len
  obtain ⟨mp,mc,rfl,_⟩:=hm0.len
  clear cE hG hF hkw hn0 hm0 hl0 hi1 hi2 hi3 dV dU
  go_enter func4,ntmps4
  go_upto_region 2 with (go_at_call 6;refine dR.out.mono ?_;rintro e w1 ⟨up,m1,uc,tp,m2,tc,rfl,dY,hE,gU⟩;obtain ⟨dO,iR,fY⟩:=Qjq dY gU hE;clear dY gU hE)
  generalize eU:w1.alloc _=W2
  have eY:=eqB eU (Zg _ _)
  have dF:=eqH (b:=w1.heap.size) eU (Qw _ _)
  obtain ⟨dP,eH,jN⟩:=Qjq (dO.out.below eY) (iR.out.thn eY) dF
  obtain ⟨c0,c1⟩:=row2 dF
  have hD:=Z8 dF
  clear eU eY dF dO
  have fU:=Qq (P9 HCk s aT.out jC.out _ S2 S3 _ (.slice np ns.length nc) (.slice mp ms.length mc) ns ms W2 dP.out (jD.out.below eH.out) (jB.out.below eH.out) iY.out iZ.out)
  go_upto_region 3 with (go_at_call 8;refine fU.out.mono ?_;rintro e w3 ⟨a,ap,ac,rfl,gS,gT,-,gP,gV⟩;obtain ⟨fO,kW,eP,eI⟩:=Qjz gS gT gP.rel gV;clear gS gT gP gV)
  have eW:=kE eI.out hD jN.out
  obtain ⟨jO,dQ,dH⟩:=Qjq eW (dP.out.below eI.out) (eH.out.thn eI.out)
  have dL:=Qq (jA.out.below dH.out)
  have dJ:=Qq (dK.out _ _ _ _ a w3 dQ.out eP.out dL.out fO.out)
  obtain ⟨an,jW⟩:=eX (a.length)
  rw [jW] at eP dJ |-
  clear c0 c1 fU dR dK
  obtain ⟨c0,c1⟩:=row2 eW
  clear eW
  go_upto_region 4 with (go_at_call 10;refine dJ.out.mono ?_;rintro e w4 ⟨fc,z1,z2,z3,z4,z5,z6,z7,z8,z9,iI,iJ,rfl,gW,hA⟩;have jY:∀ W,(Instr.field 38 (.agg #[fc,z1,z2,z3,z4,z5,z6,z7,z8,z9,iI,iJ]) 0).run prog W=.ok (.int .i64 fc) W:=(fun W=>by simp [Instr.field,go_sem,part,asAgg]);have aS:=Qq gW;have fV:=Qq hA;clear gW hA)
  all_goals
   have fQ:=Qq (dH.out.thn aS.out)
   have dD:=Qq (kB aS.out jO.out)
   have dM:=Qq (dL.out.below aS.out)
   have fX:=Qq (fun W (h:Below w4 w4 W)=>Ap W (dM.out.below h))
   clear c0 c1
  focus
   clear bE
   go_wp2_with (go_at_call 12;refine (fX.out _ (Qz _ _)).mono ?_;rintro e kO ⟨rfl,aW⟩;have cG:=Qq aW;clear aW)
   go_ret
   exact ⟨rfl,fQ.out.thn cG.out⟩
  focus
   have gZ:fc=0:=by first | assumption | (simp_all;done) | omega
   have cI:=Qq (dQ.out.below aS.out)
   have gA:=Qq ((eP.out.below aS.out).mono (S':=fun _=>True) (fun _ _ _=>trivial))
   obtain ⟨fB,hB⟩:=fV.out gZ
   have iU:=Qq hB
   clear fV
   subst gZ
   have gC:Hid (Sl Zm (fun b=>b<w4) w4 (.slice tp m2 tc) s.tables):=Qq (by
    obtain ⟨uv,tv,T,hu,ht⟩:=cI.out
    simp only [List.cons.injEq,and_true] at T
    obtain ⟨rfl,rfl⟩:=T
    exact ht.mono (fun b hb _=>hb))
   have kT:m2<=1000000:=by obtain ⟨_,_,_,h⟩:=gC.out.len;rw [fY.out] at h;exact h
   have jL:Hid (Sl Ug (fun _=>True) w4 (.slice up m1 uc) s.sums):=Qq (by
    obtain ⟨uv,tv,T,hu,ht⟩:=cI.out
    simp only [List.cons.injEq,and_true] at T
    obtain ⟨rfl,rfl⟩:=T
    exact hu.mono (fun _ _ _=>trivial))
   have dW:=Z8 dD.out
   have gR:=dD.out
   obtain ⟨c0,c1⟩:=row2 gR
   clear gR fB hB jY
   go_wp2_with fail
   try rw [show ((0:Int) != 0)=false from rfl]
   try rw [show (((0:Nat):Int) != 0)=false from rfl]
   try simp only [bne_self_eq_false]
   go_loopw [9,10,11,12,13,14,15,16,17,18,19,20,21] (fun t9 _ _ _ _ _ _ _ _ _ _ _ _ wr=>∃ k:Nat,k<=m2/\t9=.int .i64 k/\Aside (Below w4 w4 wr)) (fun t9 _ _ _ _ _ _ _ _ _ _ _ _ _=>m2 - (intOf t9).toNat)
   case atStart=>exact ⟨0,Q8 _,rfl,Qz _ _⟩
   obtain ⟨i,hi2,rfl,gK⟩:=hrel
   have bC:=Qq (show Below w4 w4 wr from gK)
   clear gK c0 c1
   have jV:=kE bC.out dW dD.out
   obtain ⟨c0,c1⟩:=row2 jV
   by_cases hi:i<m2
   ·have g1:(i:Int)<(m2:Int):=C7
    have g2:(0:Int)<=(i:Int):=C7
    obtain ⟨t,ht⟩:∃ t,s.tables[i]?=some t:=⟨_,Qx (by rw [fY.out];exact hi)⟩
    obtain ⟨r,hr,hI,hL,cQ⟩:=iU.out i t ht
    obtain ⟨tb,bA,ct,hp,lD,_,kH,fE,Z⟩:=(gC.out.below bC.out).elem ht
    subst hp
    obtain ⟨bJ,bI,bM,bL,aZ,aY,k9,bT,n9,bU,bQ,bN,bF,bR,bO,bG,bS,bP,bH,a9,z9,T,_,_,_,dX,_⟩:=Zt fE
    simp only [tcs] at T
    subst T
    have e0:=Z 0 _ rfl;have e1:=Z 1 _ rfl;have e2:=Z 2 _ rfl;have e3:=Z 3 _ rfl;have e4:=Z 4 _ rfl;have e5:=Z 5 _ rfl;have e6:=Z 6 _ rfl;have e7:=Z 7 _ rfl;have e8:=Z 8 _ rfl;have e9:=Z 9 _ rfl;have gD:=Z 10 _ rfl;have gE:=Z 11 _ rfl;have gF:=Z 12 _ rfl
    rw [show Zm.k=13 from rfl] at e0 e1 e2 e3 e4 e5 e6 e7 e8 e9 gD gE gF
    rw [Nat.add_zero] at e0
    have fA:=fO.out r (Qy hr)
    obtain ⟨nr,fC⟩:=eX (r.rows.length)
    have kU:nr<=8:=by rw [<- fC];exact fA.2
    obtain ⟨gB,kX,eO,kY,jF⟩:=Qjk (fun W (h:Below w4 w4 W)=>(show Zm.R (fun b=>b<w4) W (Co t bJ bI bM bL aZ aY k9 bT n9 bU bQ bN bF bR bO bG bS bP bH a9 z9) t from Zm.frame fE (fun b hS _=>(h.block b hS).trans (bC.out.block b hS).symm))) (fun W (h:Below w4 w4 W)=>(show Sl Kz (fun b=>b<w4) W (.slice aZ t.refs.length aY) t.refs from dX.frame (fun b hS _=>(h.block b hS).trans (bC.out.block b hS).symm))) cQ hL hI;have iW:=Qq fA.1
    have cK:=Qq (Qy ht);have fZ:=Qq fC
    clear ht hr hI hL cQ fE Z fA fC dX
    go_upto_region 9 with fail
    generalize eV:World.alloc _ _=w5
    have gX:=eqB eV (Zg _ _)
    have cM:=eqH (b:=wr.heap.size) eV (Qw _ _)
    obtain ⟨TB,gQ⟩:=eX (wr.heap.size)
    rw [gQ] at cM |-
    have fR:=Qq (bC.out.thn gX);have jP:=Qq cM
    have kD:=Z8 cM
    obtain ⟨q0,q1,q2,q3,q4,q5,q6,q7,q8,q9,cT,cU,cV⟩:=row13 cM
    clear eV gX cM gQ c0 c1 e0 e1 e2 e3 e4 e5 e6 e7 e8 e9 gD gE gF
    have cH:=Qq (As _ (.slice ap an ac) a t.name w5 (gA.out.below fR.out))
    rw [jF.out] at cH
    unfold Tx sv at cH
    rw [fZ.out] at cH
    go_upto_region 10 with (go_at_call 13;refine cH.out.mono ?_;rintro e w6 ⟨rp,rc,rfl,hJ,gY⟩;have jG:=Qq hJ;have dI:=Qq gY;clear hJ gY)
    have iS:=Qq (fR.out.thn dI.out)
    have jQ:=Qq (kE dI.out kD jP.out)
    clear q0 q1 q2 q3 q4 q5 q6 q7 q8 q9 cT cU cV cH
    go_wp2_with fail
    go_loopw [12,13,14,15,16,17,18,19,20,21] (fun fK _ _ _ _ _ _ _ _ _ wr=>∃ k:Nat,k<=nr/\fK=.int .i64 k/\Aside (Below w6 w6 wr)) (fun fK _ _ _ _ _ _ _ _ _ _=>nr - (intOf fK).toNat)
    case atStart=>exact ⟨0,Q8 _,rfl,Qz _ _⟩
    obtain ⟨k,lA,rfl,gL⟩:=hrel
    have dB:=Qq (show Below w6 w6 wr from gL)
    have aC:=Qq (iS.out.thn dB.out)
    clear gL
    by_cases hk:k<nr
    ·have g3:(k:Int)<(nr:Int):=C7
     have g4:(0:Int)<=(k:Int):=C7
     obtain ⟨U,rfl⟩:∃ U,U=wr:=⟨_,rfl⟩
     obtain ⟨y,hy⟩:∃ y,r.rows[k]?=some y:=⟨_,Qx (by rw [fZ.out];exact hk)⟩
     obtain ⟨hM,cO,cP⟩:=eO.out k y hy
     obtain ⟨rb,cC,bX,bV,bY,bW,kG,lC,hO,a0,a1,a2,a3,a4⟩:=(jG.out.below dB.out).val hy
     subst kG
     obtain ⟨eR,jE,jK,eN⟩:=Qjz hO cP hM cO
     have iX:=Qq (iW.out y (Qy hy))
     have jI:=Qq (kB dB.out jQ.out)
     have jH:=Qq (kE aC.out dW dD.out)
     have fT:=Qq (show ∀ W,Below U U W->Cf W w1 0 (.slice up m1 uc)/\Cf W w1 1 (Cg tb bA m2 tc)/\Qji W TB t.name (.slice bJ t.columns.length bI) (.slice bM t.key.length bL) (.slice aZ t.refs.length aY) k9 (.string bT) n9 (.string bU) (.slice bQ bN bF) (.slice bR bO bG) (.slice bS bP bH) a9 z9 ((Qjr W rb (cC+k*5) y.kind y.n y.s (.slice bX y.names.length bV) (.slice bY y.kids.length bW):Prop)) from fun W h=>by
      have h1:=kB h jH.out
      have h2:=kB h jI.out
      have hh:∀ {b j:Nat} {u:Value},U.cell? ⟨b,j,none⟩=some u->W.cell? ⟨b,j,none⟩=some u:=fun hc=>kC h hc
      exact ⟨(Qk _ _ 0 _ _ _ h1).trans rfl,(Qk _ _ 1 _ _ _ h1).trans rfl,(Qk _ _ 0 _ _ _ h2).trans rfl,(Qk _ _ 1 _ _ _ h2).trans rfl,(Qk _ _ 2 _ _ _ h2).trans rfl,(Qk _ _ 3 _ _ _ h2).trans rfl,(Qk _ _ 4 _ _ _ h2).trans rfl,(Qk _ _ 5 _ _ _ h2).trans rfl,(Qk _ _ 6 _ _ _ h2).trans rfl,(Qk _ _ 7 _ _ _ h2).trans rfl,(Qk _ _ 8 _ _ _ h2).trans rfl,(Qk _ _ 9 _ _ _ h2).trans rfl,(Qk _ _ 10 _ _ _ h2).trans rfl,(Qk _ _ 11 _ _ _ h2).trans rfl,(Qk _ _ 12 _ _ _ h2).trans rfl,hh a0,hh a1,hh a2,hh a3,hh a4⟩)
     clear hy hM cO cP hO a0 a1 a2 a3 a4
     have lE:w4.heap.size<=U.heap.size:=aC.out.size
     have eM:=Qq (fun W (h:Below U U W)=>B9 (fun b=>b<w4) (fun _=>True) t y (Co t bJ bI bM bL aZ aY k9 bT n9 bU bQ bN bF bR bO bG bS bP bH a9 z9) (Cn y bX bV bY bW) W (gB.out W (aC.out.thn h)) (Z9.move eR.out (.of_below h) Qje) (aT.out.ok t cK.out).key)
     have dC:Hid (∀ W,Below U U W->∀ (kv:Value),Sl Zd (fun _=>True) W kv ((keyOf t.key y).getD [])->Calls prog 14 #[.agg #[.slice up m1 uc,Cg tb bA m2 tc],.slice ap an ac,t.name,kv] W fun e w'=>∃ bK,e=.returned (.tuple #[.agg bK.toArray,.bool true])/\Z9 (fun b=>b<w4) w' bK y/\Below W W w'):=Qq (fun W h kv hk=>by
      have h9:=Ki (fun _=>True) (fun b=>b<w4) (fun _=>True) s [.slice up m1 uc,Cg tb bA m2 tc] (.slice ap an ac) a t.name kv _ W (cI.out.below (aC.out.thn h)) ((gA.out.mono (fun b hb _=>hb)).below (aC.out.thn h)) hk (fun t ht=>(aT.out.ok t ht).key)
      unfold M1 at h9
      rw [eN.out] at h9
      exact h9)
     go_upto_region 13 with fail
     go_cut [13,14] from 50 to 157 (fun kK kL wx=>Mv (fun b=>b<w4) U y true kK kL wx)
     case first=>
      clear bE
      have HD:=Qq (show ∀ W,(fun W=>Below U U W) W->Cf W w1 0 (.slice up m1 uc)/\Cf W w1 1 (Cg tb bA m2 tc)/\Qji W TB t.name (.slice bJ t.columns.length bI) (.slice bM t.key.length bL) (.slice aZ t.refs.length aY) k9 (.string bT) n9 (.string bU) (.slice bQ bN bF) (.slice bR bO bG) (.slice bS bP bH) a9 z9 ((Qjr W rb (cC+k*5) y.kind y.n y.s (.slice bX y.names.length bV) (.slice bY y.kids.length bW):Prop)) from fun W h=>fT.out W h)
      have O:=Qq (show ∀ W,Below U U W->(fun W=>Below U U W) W from fun W h=>h)
      refine wp_region_held_drew (S:=fun W=>Below U U W) Cd (O.out _ (Qz _ _).drew) (fun D=>?_)
      refine tkD (v:=?_) 0 (fun I A=>?_) ?_;rotate_left
      ·(obtain ⟨c0,c1,-,-,-,-,-,-,-,-,-,-,-,-,-,-,-,-,-,-⟩:=HD.out I A;go_simp;try with_reducible rfl)
      refine tkD (v:=?_) 1 (fun I A=>?_) ?_;rotate_left
      ·(go_simp;try with_reducible rfl)
      refine tkD (v:=?_) 2 (fun I A=>?_) ?_;rotate_left
      ·(go_simp;try with_reducible rfl)
      refine tkD (v:=?_) 3 (fun I A=>?_) ?_;rotate_left
      ·(obtain ⟨-,-,q0,-,-,-,-,-,-,-,-,-,-,-,-,-,-,-,-,-⟩:=HD.out I A;go_simp;try with_reducible rfl)
      refine tkD (v:=?_) 4 (fun I A=>?_) ?_;rotate_left
      ·(obtain ⟨-,-,q0,q1,q2,q3,q4,q5,q6,q7,q8,q9,cT,cU,cV,-,-,-,-,-⟩:=HD.out I A;go_simp;try with_reducible rfl)
      refine tkD (v:=?_) 5 (fun I A=>?_) ?_;rotate_left
      ·(go_simp;try with_reducible rfl)
      refine tkD (v:=?_) 6 (fun I A=>?_) ?_;rotate_left
      ·(go_simp;try with_reducible rfl)
      refine tkD (v:=?_) 7 (fun I A=>?_) ?_;rotate_left
      ·(go_simp;try with_reducible rfl)
      refine tkD (v:=?_) 8 (fun I A=>?_) ?_;rotate_left
      ·(obtain ⟨-,-,-,-,-,-,-,-,-,-,-,-,-,-,-,a0,a1,a2,a3,a4⟩:=HD.out I A;go_simp;try with_reducible rfl)
      have aD:Hid (Below U U U.drew):=Qq (Qz _ _).drew
      have fG:=aD.out.size
      generalize U.drew=wd at D aD fG |-
      refine rsD [9,14] ?_
      refine rcD (fun K M=>?_) ?_
      ·go_simp
       refine (eM.out wd aD.out).mono ?_
       rintro e wk ⟨pk,nk,ck,rfl,-,cN,hb⟩
       have cD:=Qq (cN.mono (S':=fun _=>True) (fun _ _ _=>trivial))
       clear cN
       have N:=Qq (aD.out.thn hb)
       have hU:=N.out.size
       clear hb
       try dsimp only
       refine M.out _ _ (O.out _ N.out) (fun D=>?_)
       clear M K
       refine rsD [10,14] ?_
       refine rcD (fun K M=>?_) ?_
       ·go_simp
        refine (dC.out wk N.out _ cD.out).mono ?_
        rintro e wl ⟨bK,rfl,aI,hb⟩
        obtain ⟨u3,n3,u4,n4,T,_⟩:=Z9.cells aI
        simp only [vcs] at T
        subst T
        have HV:=Qq aI
        clear aI
        have J:=Qq (N.out.thn hb)
        have dZ:=J.out.size
        clear hb
        try dsimp only
        refine M.out _ _ (O.out _ J.out) (fun D=>?_)
        clear M K
        refine tkD (v:=?_) 11 (fun I A=>?_) ?_;rotate_left
        ·(go_simp;try with_reducible rfl)
        refine tkD (v:=?_) 12 (fun I A=>?_) ?_;rotate_left
        ·(go_simp;try with_reducible rfl)
        refine tkD (v:=?_) 13 (fun I A=>?_) ?_;rotate_left
        ·(go_simp;try with_reducible rfl)
        refine rdD 14 (fun K M=>?_) Qo
        go_simp
        generalize aE:World.alloc wl _=wb
        have aJ:=eqB aE (Zg _ _)
        have V:=Qq (J.out.thn aJ)
        have hP:=J.out.size
        have hT:=V.out.size
        have aA:Hid (wb.heap[wl.heap.size]?=some (.cells zV 36 (0,0))):=Qq (by rw [<- aE];exact Qw _ _)
        clear aE
        replace HV:=Qq (Z9.move HV.out (.of_below aJ) Qje)
        clear aJ
        try dsimp only
        refine M.out _ _ (O.out _ V.out) (fun D=>?_)
        clear M K
        have aF:=aA.out
        have fz:=fun j=>Qn _ _ j _ _ aF
        obtain ⟨f0,f1,f2,f3,f4⟩:=Qjw fz
        have rr:=fun j=>Qk _ _ j _ _ _ aF
        obtain ⟨r0,r1,r2,r3,r4⟩:=Qjw rr
        simp only [Qf,Qg,Qh] at r0 r1 r2 r3 r4
        clear fz rr
        refine rdD 15 (fun K M=>?_) Qo
        go_simp
        have hR:=V.out.size
        have Y:Below U U (Cu wb wl y u3 n3 u4 n4):=Zc V.out C7
        have aG:(Zi wb wl y.kind y.n y.s (.slice u3 y.names.length n3) (.slice u4 y.kids.length n4)).heap[wl.heap.size]?=some (.cells (Cn y u3 n3 u4 n4) 36 (0,0)):=Yw aA.out
        have aH:∀ k,k≠wl.heap.size->(Zi wb wl y.kind y.n y.s (.slice u3 y.names.length n3) (.slice u4 y.kids.length n4)).heap[k]?=wb.heap[k]?:=fun k hk=>Zf hk
        unfold Zi at Y aG aH
        refine M.out _ _ (O.out _ Y) (fun D=>?_)
        refine tkD (v:=?_) 16 (fun I A=>?_) ?_;rotate_left
        ·(go_simp;try with_reducible rfl)
        refine wpAnyH_done Cd ?_ _
        clear M K D f0 f1 f2 f3 f4 r0 r1 r2 r3 r4 aF
        generalize World.setCell _ _ _=w9 at Y aG aH |-
        go_wp2_with fail
        go_meet
        exact ⟨wl.heap.size,u3,n3,u4,n4,rfl,rfl,aG,Z9.move HV.out (fun b hb _=>aH b (by have h':b<w4.heap.size:=hb;omega)) Qje,Y,C7⟩
       refine rcD (fun K M=>?_) ?_
       ·go_simp
        generalize aE:World.alloc wk _=wb
        have aJ:=eqB aE (Zg _ _)
        have V:=Qq (N.out.thn aJ)
        have hP:=N.out.size
        have hT:=V.out.size
        have aU:Hid (wb.heap[wk.heap.size]?=some (.cells zV 36 (0,0))):=Qq (by rw [<- aE];exact Qw _ _)
        clear aE
        replace cD:=Qq (cD.out.below aJ)
        clear aJ
        try dsimp only
        refine M.out _ _ (O.out _ V.out) (fun D=>?_)
        clear M K
        refine rdD 10 (fun K M=>?_) ?_
        ·go_simp
         refine (dC.out wb V.out _ cD.out).mono ?_
         rintro e wl ⟨bK,rfl,aI,hb⟩
         obtain ⟨u3,n3,u4,n4,T,_⟩:=Z9.cells aI
         simp only [vcs] at T
         subst T
         have HV:=Qq aI
         clear aI
         have J:=Qq (V.out.thn hb)
         have dZ:=J.out.size
         have aA:=Qq (kB hb aU.out)
         have hQ:=Z8 aU.out
         clear hb
         try dsimp only
         refine M.out _ _ (O.out _ J.out) (fun D=>?_)
         clear M K
         refine tkD (v:=?_) 11 (fun I A=>?_) ?_;rotate_left
         ·(go_simp;try with_reducible rfl)
         refine tkD (v:=?_) 12 (fun I A=>?_) ?_;rotate_left
         ·(go_simp;try with_reducible rfl)
         refine tkD (v:=?_) 13 (fun I A=>?_) ?_;rotate_left
         ·(go_simp;try with_reducible rfl)
         have aF:=aA.out
         have fz:=fun j=>Qn _ _ j _ _ aF
         obtain ⟨f0,f1,f2,f3,f4⟩:=Qjw fz
         have rr:=fun j=>Qk _ _ j _ _ _ aF
         obtain ⟨r0,r1,r2,r3,r4⟩:=Qjw rr
         simp only [Qf,Qg,Qh] at r0 r1 r2 r3 r4
         clear fz rr
         refine rdD 15 (fun K M=>?_) Qo
         go_simp
         have hR:=J.out.size
         have Y:Below U U (Cu wl wk y u3 n3 u4 n4):=Zc J.out C7
         have aG:(Zi wl wk y.kind y.n y.s (.slice u3 y.names.length n3) (.slice u4 y.kids.length n4)).heap[wk.heap.size]?=some (.cells (Cn y u3 n3 u4 n4) 36 (0,0)):=Yw aA.out
         have aH:∀ k,k≠wk.heap.size->(Zi wl wk y.kind y.n y.s (.slice u3 y.names.length n3) (.slice u4 y.kids.length n4)).heap[k]?=wl.heap[k]?:=fun k hk=>Zf hk
         unfold Zi at Y aG aH
         refine M.out _ _ (O.out _ Y) (fun D=>?_)
         refine tkD (v:=?_) 16 (fun I A=>?_) ?_;rotate_left
         ·(go_simp;try with_reducible rfl)
         refine wpAnyH_done Cd ?_ _
         clear M K D f0 f1 f2 f3 f4 r0 r1 r2 r3 r4 aF
         generalize World.setCell _ _ _=w9 at Y aG aH |-
         go_wp2_with fail
         go_meet
         exact ⟨wk.heap.size,u3,n3,u4,n4,rfl,rfl,aG,Z9.move HV.out (fun b hb _=>aH b (by have h':b<w4.heap.size:=hb;omega)) Qje,Y,C7⟩
        exact Qo
       exact Qo
      refine rcD (fun K M=>?_) ?_
      ·go_simp
       generalize aE:World.alloc wd _=wb
       have aJ:=eqB aE (Zg _ _)
       have V:=Qq (aD.out.thn aJ)
       have hP:=aD.out.size
       have hT:=V.out.size
       have dS:Hid (wb.heap[wd.heap.size]?=some (.cells zV 36 (0,0))):=Qq (by rw [<- aE];exact Qw _ _)
       clear aE
       clear aJ
       try dsimp only
       refine M.out _ _ (O.out _ V.out) (fun D=>?_)
       clear M K
       refine rdD 9 (fun K M=>?_) ?_
       ·go_simp
        refine (eM.out wb V.out).mono ?_
        rintro e wk ⟨pk,nk,ck,rfl,-,cN,hb⟩
        have cD:=Qq (cN.mono (S':=fun _=>True) (fun _ _ _=>trivial))
        clear cN
        have N:=Qq (V.out.thn hb)
        have hU:=N.out.size
        have aU:=Qq (kB hb dS.out)
        have hQ:=Z8 dS.out
        clear hb
        try dsimp only
        refine M.out _ _ (O.out _ N.out) (fun D=>?_)
        clear M K
        refine rdD 10 (fun K M=>?_) ?_
        ·go_simp
         refine (dC.out wk N.out _ cD.out).mono ?_
         rintro e wl ⟨bK,rfl,aI,hb⟩
         obtain ⟨u3,n3,u4,n4,T,_⟩:=Z9.cells aI
         simp only [vcs] at T
         subst T
         have HV:=Qq aI
         clear aI
         have J:=Qq (N.out.thn hb)
         have dZ:=J.out.size
         have aA:=Qq (kB hb aU.out)
         have hQ:=Z8 aU.out
         clear hb
         try dsimp only
         refine M.out _ _ (O.out _ J.out) (fun D=>?_)
         clear M K
         refine tkD (v:=?_) 11 (fun I A=>?_) ?_;rotate_left
         ·(go_simp;try with_reducible rfl)
         refine tkD (v:=?_) 12 (fun I A=>?_) ?_;rotate_left
         ·(go_simp;try with_reducible rfl)
         refine tkD (v:=?_) 13 (fun I A=>?_) ?_;rotate_left
         ·(go_simp;try with_reducible rfl)
         have aF:=aA.out
         have fz:=fun j=>Qn _ _ j _ _ aF
         obtain ⟨f0,f1,f2,f3,f4⟩:=Qjw fz
         have rr:=fun j=>Qk _ _ j _ _ _ aF
         obtain ⟨r0,r1,r2,r3,r4⟩:=Qjw rr
         simp only [Qf,Qg,Qh] at r0 r1 r2 r3 r4
         clear fz rr
         refine rdD 15 (fun K M=>?_) Qo
         go_simp
         have hR:=J.out.size
         have Y:Below U U (Cu wl wd y u3 n3 u4 n4):=Zc J.out C7
         have aG:(Zi wl wd y.kind y.n y.s (.slice u3 y.names.length n3) (.slice u4 y.kids.length n4)).heap[wd.heap.size]?=some (.cells (Cn y u3 n3 u4 n4) 36 (0,0)):=Yw aA.out
         have aH:∀ k,k≠wd.heap.size->(Zi wl wd y.kind y.n y.s (.slice u3 y.names.length n3) (.slice u4 y.kids.length n4)).heap[k]?=wl.heap[k]?:=fun k hk=>Zf hk
         unfold Zi at Y aG aH
         refine M.out _ _ (O.out _ Y) (fun D=>?_)
         refine tkD (v:=?_) 16 (fun I A=>?_) ?_;rotate_left
         ·(go_simp;try with_reducible rfl)
         refine wpAnyH_done Cd ?_ _
         clear M K D f0 f1 f2 f3 f4 r0 r1 r2 r3 r4 aF
         generalize World.setCell _ _ _=w9 at Y aG aH |-
         go_wp2_with fail
         go_meet
         exact ⟨wd.heap.size,u3,n3,u4,n4,rfl,rfl,aG,Z9.move HV.out (fun b hb _=>aH b (by have h':b<w4.heap.size:=hb;omega)) Qje,Y,C7⟩
        exact Qo
       exact Qo
      exact Qo
     obtain ⟨GB,u3,n3,u4,n4,rfl,rfl,gN,hN,aX,kZ⟩:=hcut
     obtain ⟨G,rfl⟩:∃ G,G=wc:=⟨_,rfl⟩
     obtain ⟨iV,jM,bZ,aO⟩:=Qjz gN hN aX (aC.out.thn aX)
     clear gN hN aX eM dC
     have hH:Kf s.sums y (Fa t) true:=by
      have h:=Mg s.sums y [] (t.columns.map Col.name) (t.columns.map Col.type) (Hm s.sums) (fun u _ z hz=>by
       obtain ⟨c,hc,rfl⟩:=List.mem_map.1 hz
       exact Sq s.sums (fun u hu c hc=>(aT.out.sums u hu c hc).1) u c.type ((aT.out.ok t cK.out).types c hc))
      have e:An (Hm s.sums) y (t.columns.map Col.name) (t.columns.map Col.type)=true:=jK.out
      rw [e] at h
      exact h
     have fS:Hid (∀ W,Below G G W->Calls prog 16 #[.agg (Cn y u3 n3 u4 n4),.agg (Cn y bX bV bY bW)] W fun e w'=>e=.returned (.int .i64 0)/\Below W W w'):=Qq (fun W h=>(cmpAt y y (fun _=>True) _ _ W (Z9.move jM.out (.of_below h) (fun _ _ _=>trivial)) (Z9.move eR.out (.of_below (bZ.out.thn h)) Qje)).mono (by
      rintro e w' ⟨rfl,hg⟩
      rw [Wb]
      exact ⟨rfl,hg.bl⟩))
     have dN:=Qq (fun W (h:Below G G W)=>Tj (fun b=>b<w4) t (Co t bJ bI bM bL aZ aY k9 bT n9 bU bQ bN bF bR bO bG bS bP bH a9 z9) W (gB.out W (aO.out.thn h)) (cJ.out t cK.out).srt (cJ.out t cK.out).few (cJ.out t cK.out).some)
     have fW:=Qq (fun W (h:Below G G W) (cty:List Value) (hc:X5 (fun _=>True) W cty (Fa t))=>Tq s.sums y (Fa t) true iX.out.good hH (fun _=>True) (fun _=>True) (fun _=>True) (Cn y bX bV bY bW) cty up m1 uc W (jL.out.below (aO.out.thn h)) (Z9.move eR.out (.of_below (bZ.out.thn h)) Qje) hc (dM.out.below (aO.out.thn h)))
     have eL:=Qq (fun W (h:Below G G W)=>fT.out W (bZ.out.thn h))
     clear hH
     go_upto_region 14 with fail
     go_cut [92] from 50 to 157 (fun kN wx=>kN=.bool false/\Below G G wx)
     case first=>
      clear bE
      have HD:=Qq (show ∀ W,(fun W=>Below G G W) W->(Qjg W GB y.kind y.n y.s (.slice u3 y.names.length n3) (.slice u4 y.kids.length n4) (Cf W w1 0 (.slice up m1 uc)/\Qji W TB t.name (.slice bJ t.columns.length bI) (.slice bM t.key.length bL) (.slice aZ t.refs.length aY) k9 (.string bT) n9 (.string bU) (.slice bQ bN bF) (.slice bR bO bG) (.slice bS bP bH) a9 z9 ((Qjr W rb (cC+k*5) y.kind y.n y.s (.slice bX y.names.length bV) (.slice bY y.kids.length bW):Prop))):Prop) from fun W h=>by
       have h3:=kB h iV.out
       obtain ⟨c0,c1,q0,q1,q2,q3,q4,q5,q6,q7,q8,q9,cT,cU,cV,a0,a1,a2,a3,a4⟩:=eL.out W h
       exact ⟨(Qk _ _ 0 _ _ _ h3).trans rfl,(Qk _ _ 1 _ _ _ h3).trans rfl,(Qk _ _ 2 _ _ _ h3).trans rfl,(Qk _ _ 3 _ _ _ h3).trans rfl,(Qk _ _ 4 _ _ _ h3).trans rfl,c0,q0,q1,q2,q3,q4,q5,q6,q7,q8,q9,cT,cU,cV,a0,a1,a2,a3,a4⟩)
      have O:=Qq (show ∀ W,Below G G W->(fun W=>Below G G W) W from fun W h=>h)
      refine wp_region_held_drew (S:=fun W=>Below G G W) Cd (O.out _ (Qz _ _).drew) (fun D=>?_)
      refine tkD (v:=?_) 0 (fun I A=>?_) ?_;rotate_left
      ·(go_simp;try with_reducible rfl)
      refine tkD (v:=?_) 1 (fun I A=>?_) ?_;rotate_left
      ·(go_simp;try with_reducible rfl)
      refine tkD (v:=?_) 2 (fun I A=>?_) ?_;rotate_left
      ·(go_simp;try with_reducible rfl)
      refine tkD (v:=?_) 3 (fun I A=>?_) ?_;rotate_left
      ·(obtain ⟨z0,z1,z2,z3,z4,-,-,-,-,-,-,-,-,-,-,-,-,-,-,-,-,-,-,-⟩:=HD.out I A;go_simp;try with_reducible rfl)
      refine tkD (v:=?_) 4 (fun I A=>?_) ?_;rotate_left
      ·(go_simp;try with_reducible rfl)
      refine tkD (v:=?_) 5 (fun I A=>?_) ?_;rotate_left
      ·(go_simp;try with_reducible rfl)
      refine tkD (v:=?_) 6 (fun I A=>?_) ?_;rotate_left
      ·(go_simp;try with_reducible rfl)
      refine tkD (v:=?_) 7 (fun I A=>?_) ?_;rotate_left
      ·(obtain ⟨-,-,-,-,-,-,-,-,-,-,-,-,-,-,-,-,-,-,-,a0,a1,a2,a3,a4⟩:=HD.out I A;go_simp;try with_reducible rfl)
      have aD:Hid (Below G G G.drew):=Qq (Qz _ _).drew
      have fG:=aD.out.size
      generalize G.drew=wd at D aD fG |-
      refine rdD 8 (fun K M=>?_) ?_
      ·go_simp
       refine (fS.out wd aD.out).mono ?_
       rintro e wa ⟨rfl,hb⟩
       have cA:=Qq (aD.out.thn hb)
       have kV:=cA.out.size
       clear hb
       try dsimp only
       refine M.out _ _ (O.out _ cA.out) (fun D=>?_)
       clear M K
       refine tkD (v:=?_) 9 (fun I A=>?_) ?_;rotate_left
       ·(go_simp;try with_reducible rfl)
       refine tkD (v:=?_) 10 (fun I A=>?_) ?_;rotate_left
       ·(go_simp;try with_reducible rfl)
       refine tkD (v:=?_) 11 (fun I A=>?_) ?_;rotate_left
       ·(go_simp;try with_reducible rfl)
       refine tkD (v:=?_) 12 (fun I A=>?_) ?_;rotate_left
       ·(go_simp;try with_reducible rfl)
       refine tkD (v:=?_) 13 (fun I A=>?_) ?_;rotate_left
       ·(obtain ⟨-,-,-,-,-,c0,-,-,-,-,-,-,-,-,-,-,-,-,-,-,-,-,-,-⟩:=HD.out I A;go_simp;try with_reducible rfl)
       refine tkD (v:=?_) 14 (fun I A=>?_) ?_;rotate_left
       ·(go_simp;try with_reducible rfl)
       refine tkD (v:=?_) 15 (fun I A=>?_) ?_;rotate_left
       ·(go_simp;try with_reducible rfl)
       refine tkD (v:=?_) 16 (fun I A=>?_) ?_;rotate_left
       ·(go_simp;try with_reducible rfl)
       refine tkD (v:=?_) 17 (fun I A=>?_) ?_;rotate_left
       ·(obtain ⟨-,-,-,-,-,-,-,-,-,-,-,-,-,-,-,-,-,-,-,a0,a1,a2,a3,a4⟩:=HD.out I A;go_simp;try with_reducible rfl)
       refine tkD (v:=?_) 18 (fun I A=>?_) ?_;rotate_left
       ·(obtain ⟨-,-,-,-,-,-,q0,q1,q2,q3,q4,q5,q6,q7,q8,q9,cT,cU,cV,-,-,-,-,-⟩:=HD.out I A;go_simp;try with_reducible rfl)
       refine rdD 19 (fun K M=>?_) ?_
       ·go_simp
        refine (dN.out wa cA.out).mono ?_
        rintro e iH ⟨bK,rfl,cR,hb⟩
        obtain ⟨v3,v4,v5,v6,jX,_⟩:=(show X5 (fun _=>True) iH bK (.mk 5 [] 0 (t.columns.map Col.name) (t.columns.map Col.type)) from cR).cells'
        subst jX
        have jJ:=Qq cR
        clear cR
        have aP:=Qq (cA.out.thn hb)
        have kI:=aP.out.size
        clear hb
        try dsimp only
        refine M.out _ _ (O.out _ aP.out) (fun D=>?_)
        clear M K
        refine rdD 20 (fun K M=>?_) ?_
        ·go_simp
         have fD:=fW.out iH aP.out _ jJ.out
         simp only [Z7] at fD
         refine fD.mono ?_
         clear fD
         rintro e lF ⟨rfl,hb⟩
         have bD:=Qq (aP.out.thn hb)
         have kJ:=bD.out.size
         clear hb
         try dsimp only
         refine M.out _ _ (O.out _ bD.out) (fun D=>?_)
         clear M K
         refine tkD (v:=?_) 21 (fun I A=>?_) ?_;rotate_left
         ·(go_simp;try with_reducible rfl)
         refine tkD (v:=?_) 22 (fun I A=>?_) ?_;rotate_left
         ·(go_simp;try with_reducible rfl)
         refine wpAnyH_done Cd ?_ _
         clear D
         go_wp2_with fail
         go_meet
         exact ⟨rfl,bD.out⟩
        exact Qo
       exact Qo
      exact Qo
     obtain ⟨rfl,aX⟩:=hcut
     obtain ⟨aQ,rfl⟩:∃ aQ,aQ=wc:=⟨_,rfl⟩
     have fP:=Qq (bZ.out.thn aX);have eJ:=Qq (aO.out.thn aX)
     have iT:=Qq (fun W (h:Below aQ aQ W)=>eL.out W (aX.thn h))
     clear aX fS dN fW eL
     go_wp2_with fail
     go_loopw [15,16,17,18,19,20,21] (fun fL _ _ _ _ _ _ wr=>∃ k:Nat,k<=t.refs.length/\fL=.int .i64 k/\Aside (Below aQ aQ wr)) (fun fL _ _ _ _ _ _ _=>t.refs.length - (intOf fL).toNat)
     case atStart=>exact ⟨0,Q8 _,rfl,Qz _ _⟩
     obtain ⟨q,lB,rfl,gM⟩:=hrel
     have eK:=Qq (show Below aQ aQ wr from gM)
     clear gM
     have kS:=Qq (eJ.out.thn eK.out)
     obtain ⟨-,-,-,-,-,q3,-,-,-,-,-,-,-,-,-,-,-,-,-,-⟩:=iT.out wr eK.out
     by_cases hq:q<t.refs.length
     ·with_reducible rename Act->World->Prop=>kk9;revert kk9;with_reducible rename Act->World->Prop=>kk8;revert kk8;with_reducible rename Act->World->Prop=>kk7;revert kk7;revert S1 S2 S3 ls ns ms w s lp lc np nc mp mc w1 up m1 uc m2 tc W2 w3 a ap ac an w4 z1 z2 z3 z4 z5 z6 z7 z8 iI iJ u10 u11 u12 u34 u35 u36 u37 u38 u39 u40 u41 u42 u43 u44 u45 u46 u47 u48 u49 i t r tb bA bJ bI bM bL aZ aY k9 bT n9 bU bQ bN bF bR bO bG bS bP bH a9 z9 nr w5 TB w6 rc u13 u14 u15 k U y rb cC bX bV bY bW u92 GB u3 n3 u4 n4 G u50 u51 u52 u53 u54 u55 u56 u57 u58 u59 u60 u61 u62 u63 u64 u65 u66 u67 u68 u69 u70 u71 u72 u73 u74 u75 u76 u77 u78 u79 u80 u81 u82 u83 u84 u85 u86 u87 u88 u89 u90 u91 aQ wr u6 u16 u17 u18 u19 u20 u21 u93 u94 u95 u96 u97 u98 u99 u100 u101 u102 u103 u104 u105 u106 u107 u108 u109 u110 u111 u112 u113 u114 u115 u116 u117 u118 u119 u120 u121 u122 u123 u124 u125 u126 u127 u128 u129 u130 u131 u132 u133 u134 u135 u136 u137 u138 u139 u140 u141 u142 u143 u144 u145 u146 u147 u148 u149 u150 u151 u152 u153 u154 u155 u156 u157 q;revert wr z9 u6 u13 u14 u15 u16 u17 u18 u19 u20 u21 u50 u51 u52 u53 u54 u55 u56 u57 u58 u59 u60 u61 u62 u63 u64 u65 u66 u67 u68 u69 u70 u71 u72 u73 u74 u75 u76 u77 u78 u79 u80 u81 u82 u83 u84 u85 u86 u87 u88 u89 u90 u91 u92 u93 u94 u95 u96 u97 u98 u99 u100 u101 u102 u103 u104 u105 u106 u107 u108 u109 u110 u111 u112 u113 u114 u115 u116 u117 u118 u119 u120 u121 u122 u123 u124 u125 u126 u127 u128 u129 u130 u131 u132 u133 u134 u135 u136 u137 u138 u139 u140 u141 u142 u143 u144 u145 u146 u147 u148 u149 u150 u151 u152 u153 u154 u155 u156 u157;revert u6 u16 u17 u18 u19 u20 u21 u50 u51 u52 u53 u54 u55 u56 u57 u58 u59 u60 u61 u62 u63 u64 u65 u66 u67 u68 u69 u70 u71 u72 u73 u74 u75 u76 u77 u78 u79 u80 u81 u82 u83 u84 u85 u86 u87 u88 u89 u90 u91 u92 u93 u94 u95 u96 u97 u98 u99 u100 u101 u102 u103 u104 u105 u106 u107 u108 u109 u110 u111 u112 u113 u114 u115 u116 u117 u118 u119 u120 u121 u122 u123 u124 u125 u126 u127 u128 u129 u130 u131 u132 u133 u134 u135 u136 u137 u138 u139 u140 u141 u142 u143 u144 u145 u146 u147 u148 u149 u150 u151 u152 u153 u154 u155 u156 u157;revert u50 u51 u52 u53 u54 u55 u56 u57 u58 u59 u60 u61 u62 u63 u64 u65 u66 u67 u68 u69 u70 u71 u72 u73 u74 u75 u76 u77 u78 u79 u80 u81 u82 u83 u84 u85 u86 u87 u88 u89 u90 u91 u93 u94 u95 u96 u97 u98 u99 u100 u101 u102 u103 u104 u105 u106 u107 u108 u109 u110 u111 u112 u113 u114 u115 u116 u117 u118 u119 u120 u121 u122 u123 u124 u125 u126 u127 u128 u129 u130 u131 u132 u133 u134 u135 u136 u137 u138 u139 u140 u141 u142 u143 u144 u145 u146 u147 u148 u149 u150 u151 u152 u153 u154 u155 u156 u157;revert u93 u94 u95 u96 u97 u98 u99 u100 u101 u102 u103 u104 u105 u106 u107 u108 u109 u110 u111 u112 u113 u114 u115 u116 u117 u118 u119 u120 u121 u122 u123 u124 u125 u126 u127 u128 u129 u130 u131 u132 u133 u134 u135 u136 u137 u138 u139 u140 u141 u142 u143 u144 u145 u146 u147 u148 u149 u150 u151 u152 u153 u154 u155 u156 u157;exact bE.out
     have kF:q=t.refs.length:=C7
     clear bE
     subst kF
     have g5:¬ (t.refs.length:Int)<(t.refs.length:Int):=C7
     go_wp2_with fail
     go_roundw
     case measure=>simp [intOf];omega
     case rel=>exact ⟨k+1,C7,by go_num,dB.out.thn (fP.out.thn eK.out)⟩
    have kA:k=nr:=C7
    clear bE
    subst kA
    have g3:¬ (k:Int)<(k:Int):=C7
    go_wp2_with fail
    go_roundw
    case measure=>simp [intOf];omega
    case rel=>exact ⟨i+1,C7,by go_num,aC.out⟩
   have jZ:i=m2:=C7
   clear bE
   subst jZ
   have g1:¬ (i:Int)<(i:Int):=C7
   go_wp2_with (go_at_call 12;refine (fX.out _ bC.out).mono ?_;rintro e kO ⟨rfl,aW⟩;have cG:=Qq aW;clear aW)
   go_ret
   exact ⟨rfl,fQ.out.thn (bC.out.thn cG.out)⟩
theorem fz_p1:fz_s.P1:=by
 intro _;intros;rename_i s HGen _ _ _ _ _ _ _ _ _ _ _ _ _ _ _ _ _ w1 up m1 uc m2 tc _ _ _ _ _ _ a ap ac _ _ _ _ _ an _ _ w4 _ _ _ _ _ _ _ z8 _ _ _ _ _ _ HS4 _ _ _ _ _ _ _ _ _ _ _ _ _ _ _ _ _ _ _ _ _ _ _ i _ _ _ _ _ t _ tb toff _ _ _ _ _ _ _ _ HSc4 _ _ cp9 cc9 kp9 kc9 _ rc9 k9 s19 n9 s29 p19 n19 c19 p29 n29 c29 p39 n39 c39 a9 z9 _ _ _ _ _ _ _ _ HRf _ _ _ _ _ _ _ TB _ _ _ _ _ _ _ _ _ _ _ k _ hk _ _ _ _ _ y rb roff yp3 yk3 yp4 yk4 _ _ HVy HRefs _ _ _ _ _ _ _ _ _ u3 n3 u4 n4 fQ _ _ _ _ _ _ _ _ _ _ _ _ _ _ _ _ _ _ _ _ _ _ _ _ _ _ _ _ _ _ _ _ _ _ _ _ _ _ _ _ _ _ _ _ _ _ _ _ HB30 _ HDh wr u6 _ _ _ _ _ _ _ _ _ _ _ _ _ _ _ _ _ _ _ _ _ _ _ _ _ _ _ _ _ _ _ _ _ _ _ _ _ _ _ _ _ _ _ _ _ _ _ _ _ _ _ _ _ _ _ _ _ _ _ _ _ _ _ _ _ _ _ _ _ _ _ q _ HBq HB4q q3 hq kk7 _ _ kk8 _ _ kk9 _
 have g5:(q:Int)<(t.refs.length:Int):=C7
 have g6:(0:Int)<=(q:Int):=C7
 obtain ⟨wj,rfl⟩:∃ wj,wj=wr:=⟨_,rfl⟩
 have gC:t.refs.length<=1000000:=by obtain ⟨_,_,_,h⟩:=(HRf.out wj HB4q.out).len;exact h
 obtain ⟨rf,dV⟩:∃ rf,t.refs[q]?=some rf:=⟨_,Qx hq⟩
 obtain ⟨x,y2,o,eI,ho,eL,eJ⟩:=HRefs.out rf (Qy dV)
 obtain ⟨fb,bG,gF,eM,gG,_,_,⟨eH,_,_⟩,dU⟩:=(HRf.out wj HB4q.out).elem dV
 subst eM;subst eH
 have d0:=dU 0 _ rfl;have d1:=dU 1 _ rfl
 rw [show Kz.k=2 from rfl] at d0 d1
 rw [Nat.add_zero] at d0
 unfold sv at d0 d1
 have dY:=Qq (show ∀ W,Below wj wj W->Cf W w1 0 (.slice up m1 uc)/\Cf W w1 1 (Cg tb toff m2 tc)/\Qji W TB t.name (.slice cp9 t.columns.length cc9) (.slice kp9 t.key.length kc9) (Cg fb bG t.refs.length rc9) k9 (.string s19) n9 (.string s29) (.slice p19 n19 c19) (.slice p29 n29 c29) (.slice p39 n39 c39) a9 z9 ((Qjl W rb (roff+k*5) y.kind y.n y.s (.slice yp3 y.names.length yk3) (.slice yp4 y.kids.length yk4) (Cf W fb (bG+q*2) rf.column/\Cf W fb (bG+q*2+1) rf.table):Prop)) from fun W h=>by
  have hh:∀ {b j:Nat} {u:Value},wj.cell? ⟨b,j,none⟩=some u->W.cell? ⟨b,j,none⟩=some u:=fun hc=>kC h hc
  obtain ⟨c0,c1,q0,q1,q2,q3,q4,q5,q6,q7,q8,q9,fR,fS,fT,a0,a1,a2,a3,a4⟩:=HDh.out W (HBq.out.thn h)
  exact ⟨c0,c1,q0,q1,q2,q3,q4,q5,q6,q7,q8,q9,fR,fS,fT,a0,a1,a2,a3,a4,hh d0,hh d1⟩)
 obtain ⟨fH,HO,fJ,fI⟩:=Qjz eI ho eL eJ
 have gH:w4.heap.size<=wj.heap.size:=HB4q.out.size
 have fM:=Qq (fun W (h:Below wj wj W)=>Z9.move HVy.out (.of_below (HB30.out.thn (HBq.out.thn h))) Qje)
 clear dV eI ho eL eJ dU d0 d1
 have dL:Hid (∀ W,Below wj wj W->Calls prog 19 #[.agg (Cn y yp3 yk3 yp4 yk4),rf.column] W fun e w'=>∃ bF,e=.returned (.tuple #[.agg bF.toArray,.bool true])/\Z9 (fun b=>W<=b) w' bF x/\Below W W w'):=Qq (fun W h=>by
  have h9:=K8 _ y _ rf.column W (fM.out W h)
  unfold Lg at h9
  rw [fH.out] at h9
  exact h9)
 go_upto_region 19 with fail
 go_cut [16,17] from 93 to 157 (fun fU fV wx=>M7 wj x (.bool true) fU fV wx)
 case first=>
  have HD:=Qq (show ∀ W,(fun W=>Below wj wj W) W->(Qjl W rb (roff+k*5) y.kind y.n y.s (.slice yp3 y.names.length yk3) (.slice yp4 y.kids.length yk4) (Cf W TB 3 (Cg fb bG t.refs.length rc9)/\Cf W fb (bG+q*2) rf.column):Prop) from fun W h=>by
   obtain ⟨-,-,-,-,-,q3,-,-,-,-,-,-,-,-,-,a0,a1,a2,a3,a4,d0,-⟩:=dY.out W h
   exact ⟨a0,a1,a2,a3,a4,q3,d0⟩)
  have O:=Qq (show ∀ W,Below wj wj W->(fun W=>Below wj wj W) W from fun W h=>h)
  refine wp_region_held_drew (S:=fun W=>Below wj wj W) Cd (O.out _ (Qz _ _).drew) (fun A=>?_)
  refine tkD (v:=?_) 0 (fun M D=>?_) ?_;rotate_left
  ·(go_simp;try with_reducible rfl)
  refine tkD (v:=?_) 1 (fun M D=>?_) ?_;rotate_left
  ·(go_simp;try with_reducible rfl)
  refine tkD (v:=?_) 2 (fun M D=>?_) ?_;rotate_left
  ·(go_simp;try with_reducible rfl)
  refine tkD (v:=?_) 3 (fun M D=>?_) ?_;rotate_left
  ·(obtain ⟨a0,a1,a2,a3,a4,-,-⟩:=HD.out M D;go_simp;try with_reducible rfl)
  refine tkD (v:=?_) 4 (fun M D=>?_) ?_;rotate_left
  ·(go_simp;try with_reducible rfl)
  refine tkD (v:=?_) 5 (fun M D=>?_) ?_;rotate_left
  ·(obtain ⟨-,-,-,-,-,q3,-⟩:=HD.out M D;go_simp;try with_reducible rfl)
  refine tkD (v:=?_) 6 (fun M D=>?_) ?_;rotate_left
  ·(go_simp;try with_reducible rfl)
  refine tkD (v:=?_) 7 (fun M D=>?_) ?_;rotate_left
  ·(go_simp;try with_reducible rfl)
  refine tkD (v:=?_) 8 (fun M D=>?_) ?_;rotate_left
  ·(go_simp;try with_reducible rfl)
  refine tkD (v:=?_) 9 (fun M D=>?_) ?_;rotate_left
  ·(obtain ⟨-,-,-,-,-,-,d0⟩:=HD.out M D;go_simp;try with_reducible rfl)
  have Z:Hid (Below wj wj wj.drew):=Qq (Qz _ _).drew
  have cL:=Z.out.size
  generalize wj.drew=wd at A Z cL |-
  refine rsD [10,14] ?_
  refine rcD (fun K J=>?_) ?_
  ·go_simp
   refine (dL.out wd Z.out).mono ?_
   rintro e Y ⟨bF,rfl,aI,hb⟩
   obtain ⟨u5,n5,u6,n6,aF,_⟩:=Z9.cells aI
   simp only [vcs] at aF
   subst aF
   have HV:Hid (Z9 (fun b=>wd<=b/\b<Y) Y (vcs x u5 n5 u6 n6) x):=Qq (Z9.move aI (.refl _ _) (fun b hb h=>⟨h,hb⟩))
   clear aI
   have G:=Qq (Z.out.thn hb)
   have bI:=G.out.size
   clear hb
   try dsimp only
   refine J.out _ _ (O.out _ G.out) (fun A=>?_)
   clear J K
   refine tkD (v:=?_) 11 (fun M D=>?_) ?_;rotate_left
   ·(go_simp;try with_reducible rfl)
   refine tkD (v:=?_) 12 (fun M D=>?_) ?_;rotate_left
   ·(go_simp;try with_reducible rfl)
   refine tkD (v:=?_) 13 (fun M D=>?_) ?_;rotate_left
   ·(go_simp;try with_reducible rfl)
   refine rdD 14 (fun K J=>?_) Qo
   go_simp
   generalize T:World.alloc Y _=wb
   have V:=eqB T (Zg _ _)
   have I:=Qq (G.out.thn V)
   have bZ:=G.out.size
   have cA:=I.out.size
   have N:Hid (wb.heap[Y.heap.size]?=some (.cells zV 36 (0,0))):=Qq (by rw [<- T];exact Qw _ _)
   clear T
   replace HV:=Qq (Z9.move HV.out (.of_below V) Qje)
   clear V
   try dsimp only
   refine J.out _ _ (O.out _ I.out) (fun A=>?_)
   clear J K
   have aA:=N.out
   have fz:=fun j=>Qn _ _ j _ _ aA
   obtain ⟨f0,f1,f2,f3,f4⟩:=Qjw fz
   have rr:=fun j=>Qk _ _ j _ _ _ aA
   obtain ⟨r0,r1,r2,r3,r4⟩:=Qjw rr
   simp only [Qf,Qg,Qh] at r0 r1 r2 r3 r4
   clear fz rr
   refine rdD 15 (fun K J=>?_) Qo
   go_simp
   have cT:=I.out.size
   have U:Below wj wj (Cu wb Y x u5 n5 u6 n6):=Zc I.out C7
   have aB:(Zi wb Y x.kind x.n x.s (.slice u5 x.names.length n5) (.slice u6 x.kids.length n6)).heap[Y.heap.size]?=some (.cells (Cn x u5 n5 u6 n6) 36 (0,0)):=Yw N.out
   have aC:∀ k,k≠Y.heap.size->(Zi wb Y x.kind x.n x.s (.slice u5 x.names.length n5) (.slice u6 x.kids.length n6)).heap[k]?=wb.heap[k]?:=fun k hk=>Zf hk
   unfold Zi at U aB aC
   refine J.out _ _ (O.out _ U) (fun A=>?_)
   refine tkD (v:=?_) 16 (fun M D=>?_) ?_;rotate_left
   ·(go_simp;try with_reducible rfl)
   refine wpAnyH_done Cd ?_ _
   clear J K A f0 f1 f2 f3 f4 r0 r1 r2 r3 r4 aA
   generalize World.setCell _ _ _=w9 at U aB aC |-
   go_wp2_with fail
   go_meet
   exact ⟨Y.heap.size,u5,n5,u6,n6,rfl,rfl,aB,Z9.move HV.out (fun b hb _=>aC b (by have:=hb.1;have:=hb.2;omega)) (fun b _ hb=>⟨by have:=hb.1;omega,by have:=hb.1;have:=hb.2;omega⟩),U,C7⟩
  refine rcD (fun K J=>?_) ?_
  ·go_simp
   generalize T:World.alloc wd _=wb
   have V:=eqB T (Zg _ _)
   have I:=Qq (Z.out.thn V)
   have bZ:=Z.out.size
   have cA:=I.out.size
   have aL:Hid (wb.heap[wd.heap.size]?=some (.cells zV 36 (0,0))):=Qq (by rw [<- T];exact Qw _ _)
   clear T
   clear V
   try dsimp only
   refine J.out _ _ (O.out _ I.out) (fun A=>?_)
   clear J K
   refine rdD 10 (fun K J=>?_) ?_
   ·go_simp
    refine (dL.out wb I.out).mono ?_
    rintro e Y ⟨bF,rfl,aI,hb⟩
    obtain ⟨u5,n5,u6,n6,aF,_⟩:=Z9.cells aI
    simp only [vcs] at aF
    subst aF
    have HV:Hid (Z9 (fun b=>wb<=b/\b<Y) Y (vcs x u5 n5 u6 n6) x):=Qq (Z9.move aI (.refl _ _) (fun b hb h=>⟨h,hb⟩))
    clear aI
    have G:=Qq (I.out.thn hb)
    have bI:=G.out.size
    have N:=Qq (kB hb aL.out)
    have cK:=Z8 aL.out
    clear hb
    try dsimp only
    refine J.out _ _ (O.out _ G.out) (fun A=>?_)
    clear J K
    refine tkD (v:=?_) 11 (fun M D=>?_) ?_;rotate_left
    ·(go_simp;try with_reducible rfl)
    refine tkD (v:=?_) 12 (fun M D=>?_) ?_;rotate_left
    ·(go_simp;try with_reducible rfl)
    refine tkD (v:=?_) 13 (fun M D=>?_) ?_;rotate_left
    ·(go_simp;try with_reducible rfl)
    have aA:=N.out
    have fz:=fun j=>Qn _ _ j _ _ aA
    obtain ⟨f0,f1,f2,f3,f4⟩:=Qjw fz
    have rr:=fun j=>Qk _ _ j _ _ _ aA
    obtain ⟨r0,r1,r2,r3,r4⟩:=Qjw rr
    simp only [Qf,Qg,Qh] at r0 r1 r2 r3 r4
    clear fz rr
    refine rdD 15 (fun K J=>?_) Qo
    go_simp
    have cT:=G.out.size
    have U:Below wj wj (Cu Y wd x u5 n5 u6 n6):=Zc G.out C7
    have aB:(Zi Y wd x.kind x.n x.s (.slice u5 x.names.length n5) (.slice u6 x.kids.length n6)).heap[wd.heap.size]?=some (.cells (Cn x u5 n5 u6 n6) 36 (0,0)):=Yw N.out
    have aC:∀ k,k≠wd.heap.size->(Zi Y wd x.kind x.n x.s (.slice u5 x.names.length n5) (.slice u6 x.kids.length n6)).heap[k]?=Y.heap[k]?:=fun k hk=>Zf hk
    unfold Zi at U aB aC
    refine J.out _ _ (O.out _ U) (fun A=>?_)
    refine tkD (v:=?_) 16 (fun M D=>?_) ?_;rotate_left
    ·(go_simp;try with_reducible rfl)
    refine wpAnyH_done Cd ?_ _
    clear J K A f0 f1 f2 f3 f4 r0 r1 r2 r3 r4 aA
    generalize World.setCell _ _ _=w9 at U aB aC |-
    go_wp2_with fail
    go_meet
    exact ⟨wd.heap.size,u5,n5,u6,n6,rfl,rfl,aB,Z9.move HV.out (fun b hb _=>aC b (by have:=hb.1;have:=hb.2;omega)) (fun b _ hb=>⟨by have:=hb.1;omega,by have:=hb.1;have:=hb.2;omega⟩),U,C7⟩
   exact Qo
  exact Qo
 obtain ⟨GX,u5,n5,u6,n6,rfl,rfl,eE,eN,aH,fQ⟩:=hcut
 obtain ⟨aE,rfl⟩:∃ aE,aE=wc:=⟨_,rfl⟩
 obtain ⟨fF,fK,dG,cF⟩:=Qjz eE eN aH (HB4q.out.thn aH)
 have dZ:=Qq (fun W (h:Below aE aE W)=>dY.out W (dG.out.thn h))
 have gD:w4.heap.size<=aE.heap.size:=cF.out.size
 clear eE eN aH dL
 have dO:Hid (∀ W,Below aE aE W->Calls prog 20 #[.agg #[.slice up m1 uc,Cg tb toff m2 tc],rf.table] W fun e w'=>∃ bF,e=.returned (.tuple #[.agg bF.toArray,.bool true])/\Zm.R (fun b=>(fun b=>b<w4.heap.size) b\/W<=b) w' bF o/\Below W W w'):=Qq (fun W h=>by
  have h9:=Eg (fun b=>b<w4) s [.slice up m1 uc,Cg tb toff m2 tc] rf.table W ((show Xt (fun b=>b<w4) w4 [.slice up m1 uc,Cg tb toff m2 tc] s from by
   obtain ⟨uv,tv,h1,h2,h3⟩:=HSc4.out
   exact ⟨uv,tv,h1,h2.mono (fun b hb _=>hb),h3.mono (fun b hb _=>hb)⟩).below (cF.out.thn h))
  unfold N2 at h9
  rw [HO.out] at h9
  exact h9)
 go_upto_region 20 with fail
 go_cut [18,19] from 93 to 157 (fun fW fX wx=>TboxMid (fun b=>b<w4) aE o fW fX wx)
 case first=>
  have HD:=Qq (show ∀ W,(fun W=>Below aE aE W) W->Cf W w1 0 (.slice up m1 uc)/\Cf W w1 1 (Cg tb toff m2 tc)/\Cf W TB 3 (Cg fb bG t.refs.length rc9)/\Cf W fb (bG+q*2+1) rf.table from fun W h=>by
   obtain ⟨c0,c1,-,-,-,q3,-,-,-,-,-,-,-,-,-,-,-,-,-,-,-,d1⟩:=dZ.out W h
   exact ⟨c0,c1,q3,d1⟩)
  have O:=Qq (show ∀ W,Below aE aE W->(fun W=>Below aE aE W) W from fun W h=>h)
  refine wp_region_held_drew (S:=fun W=>Below aE aE W) Cd (O.out _ (Qz _ _).drew) (fun A=>?_)
  refine tkD (v:=?_) 0 (fun M D=>?_) ?_;rotate_left
  ·(obtain ⟨c0,c1,-,-⟩:=HD.out M D;go_simp;try with_reducible rfl)
  refine tkD (v:=?_) 1 (fun M D=>?_) ?_;rotate_left
  ·(go_simp;try with_reducible rfl)
  refine tkD (v:=?_) 2 (fun M D=>?_) ?_;rotate_left
  ·(obtain ⟨-,-,q3,-⟩:=HD.out M D;go_simp;try with_reducible rfl)
  refine tkD (v:=?_) 3 (fun M D=>?_) ?_;rotate_left
  ·(go_simp;try with_reducible rfl)
  refine tkD (v:=?_) 4 (fun M D=>?_) ?_;rotate_left
  ·(go_simp;try with_reducible rfl)
  refine tkD (v:=?_) 5 (fun M D=>?_) ?_;rotate_left
  ·(go_simp;try with_reducible rfl)
  refine tkD (v:=?_) 6 (fun M D=>?_) ?_;rotate_left
  ·(obtain ⟨-,-,-,d1⟩:=HD.out M D;go_simp;try with_reducible rfl)
  have Z:Hid (Below aE aE aE.drew):=Qq (Qz _ _).drew
  have cL:=Z.out.size
  generalize aE.drew=wd at A Z cL |-
  refine rsD [7,11] ?_
  refine rcD (fun K J=>?_) ?_
  ·go_simp
   refine (dO.out wd Z.out).mono ?_
   rintro e Y ⟨bF,rfl,cJ,hb⟩
   obtain ⟨aQ,aP,aS,aR,bA,aZ,k8,bB,n8,bC,aW,aT,aM,aX,aU,aN,aY,aV,aO,a8,z8,aF,_⟩:=Zt cJ
   simp only [tcs] at aF
   subst aF
   have cH:Hid (Zm.R (fun b=>(b<w4\/wd<=b)/\b<Y) Y (Co o aQ aP aS aR bA aZ k8 bB n8 bC aW aT aM aX aU aN aY aV aO a8 z8) o):=Qq (Zm.mono cJ (fun b hb h=>⟨h,hb⟩))
   clear cJ
   have G:=Qq (Z.out.thn hb)
   have bI:=G.out.size
   clear hb
   try dsimp only
   refine J.out _ _ (O.out _ G.out) (fun A=>?_)
   clear J K
   refine tkD (v:=?_) 8 (fun M D=>?_) ?_;rotate_left
   ·(go_simp;try with_reducible rfl)
   refine tkD (v:=?_) 9 (fun M D=>?_) ?_;rotate_left
   ·(go_simp;try with_reducible rfl)
   refine tkD (v:=?_) 10 (fun M D=>?_) ?_;rotate_left
   ·(go_simp;try with_reducible rfl)
   refine rdD 11 (fun K J=>?_) Qo
   go_simp
   generalize T:World.alloc Y _=wb
   have V:=eqB T (Zg _ _)
   have I:=Qq (G.out.thn V)
   have bZ:=G.out.size
   have cA:=I.out.size
   have N:Hid (wb.heap[Y.heap.size]?=some (.cells zT 48 (0,0))):=Qq (by rw [<- T];exact Qw _ _)
   clear T
   replace cH:=Qq (Zm.frame cH.out (.of_below V))
   clear V
   try dsimp only
   refine J.out _ _ (O.out _ I.out) (fun A=>?_)
   clear J K
   have aA:=N.out
   have fz:=fun j=>Qn _ _ j _ _ aA
   obtain ⟨f0,f1,f2,f3,f4,f5,f6,f7,f8,f9,dR,dS,dT⟩:=Qjc fz
   have rr:=fun j=>Qk _ _ j _ _ _ aA
   obtain ⟨r0,r1,r2,r3,r4,r5,r6,r7,r8,r9,cZ,dA,dB⟩:=Qjc rr
   simp only [Qf,Qg,Qh] at r0 r1 r2 r3 r4 r5 r6 r7 r8 r9 cZ dA dB
   clear fz rr
   refine rdD 12 (fun K J=>?_) Qo
   go_simp
   have cT:=I.out.size
   have U:Below aE aE (Xi wb Y o.name (.slice aQ o.columns.length aP) (.slice aS o.key.length aR) (.slice bA o.refs.length aZ) k8 (.string bB) n8 (.string bC) (.slice aW aT aM) (.slice aX aU aN) (.slice aY aV aO) a8 z8):=Xz I.out C7
   have aB:(Xi wb Y o.name (.slice aQ o.columns.length aP) (.slice aS o.key.length aR) (.slice bA o.refs.length aZ) k8 (.string bB) n8 (.string bC) (.slice aW aT aM) (.slice aX aU aN) (.slice aY aV aO) a8 z8).heap[Y.heap.size]?=some (.cells (Co o aQ aP aS aR bA aZ k8 bB n8 bC aW aT aM aX aU aN aY aV aO a8 z8) 48 (0,0)):=Kd N.out
   have aC:∀ k,k≠Y.heap.size->(Xi wb Y o.name (.slice aQ o.columns.length aP) (.slice aS o.key.length aR) (.slice bA o.refs.length aZ) k8 (.string bB) n8 (.string bC) (.slice aW aT aM) (.slice aX aU aN) (.slice aY aV aO) a8 z8).heap[k]?=wb.heap[k]?:=fun k hk=>V8 hk
   unfold Xi at U aB aC
   refine J.out _ _ (O.out _ U) (fun A=>?_)
   refine tkD (v:=?_) 13 (fun M D=>?_) ?_;rotate_left
   ·(go_simp;try with_reducible rfl)
   refine wpAnyH_done Cd ?_ _
   clear J K A f0 f1 f2 f3 f4 f5 f6 f7 f8 f9 dR dS dT r0 r1 r2 r3 r4 r5 r6 r7 r8 r9 cZ dA dB aA
   generalize World.setCell _ _ _=w9 at U aB aC |-
   go_wp2_with fail
   go_meet
   exact ⟨Y.heap.size,aQ,aP,aS,aR,bA,aZ,k8,bB,n8,bC,aW,aT,aM,aX,aU,aN,aY,aV,aO,a8,z8,rfl,rfl,aB,Zm.mono (Zm.frame cH.out (fun b hb _=>aC b (by rcases hb.1 with h | h <;> (have:=hb.2;omega)))) (fun b _ hb=>by
    rcases hb.1 with h | h
    ·exact .inl h
    exact .inr ⟨C7,by have:=hb.2;omega⟩),U,C7⟩
  refine rcD (fun K J=>?_) ?_
  ·go_simp
   generalize T:World.alloc wd _=wb
   have V:=eqB T (Zg _ _)
   have I:=Qq (Z.out.thn V)
   have bZ:=Z.out.size
   have cA:=I.out.size
   have aL:Hid (wb.heap[wd.heap.size]?=some (.cells zT 48 (0,0))):=Qq (by rw [<- T];exact Qw _ _)
   clear T
   clear V
   try dsimp only
   refine J.out _ _ (O.out _ I.out) (fun A=>?_)
   clear J K
   refine rdD 7 (fun K J=>?_) ?_
   ·go_simp
    refine (dO.out wb I.out).mono ?_
    rintro e Y ⟨bF,rfl,cJ,hb⟩
    obtain ⟨aQ,aP,aS,aR,bA,aZ,k8,bB,n8,bC,aW,aT,aM,aX,aU,aN,aY,aV,aO,a8,z8,aF,_⟩:=Zt cJ
    simp only [tcs] at aF
    subst aF
    have cH:Hid (Zm.R (fun b=>(b<w4\/wb<=b)/\b<Y) Y (Co o aQ aP aS aR bA aZ k8 bB n8 bC aW aT aM aX aU aN aY aV aO a8 z8) o):=Qq (Zm.mono cJ (fun b hb h=>⟨h,hb⟩))
    clear cJ
    have G:=Qq (I.out.thn hb)
    have bI:=G.out.size
    have N:=Qq (kB hb aL.out)
    have cK:=Z8 aL.out
    clear hb
    try dsimp only
    refine J.out _ _ (O.out _ G.out) (fun A=>?_)
    clear J K
    refine tkD (v:=?_) 8 (fun M D=>?_) ?_;rotate_left
    ·(go_simp;try with_reducible rfl)
    refine tkD (v:=?_) 9 (fun M D=>?_) ?_;rotate_left
    ·(go_simp;try with_reducible rfl)
    refine tkD (v:=?_) 10 (fun M D=>?_) ?_;rotate_left
    ·(go_simp;try with_reducible rfl)
    have aA:=N.out
    have fz:=fun j=>Qn _ _ j _ _ aA
    obtain ⟨f0,f1,f2,f3,f4,f5,f6,f7,f8,f9,dR,dS,dT⟩:=Qjc fz
    have rr:=fun j=>Qk _ _ j _ _ _ aA
    obtain ⟨r0,r1,r2,r3,r4,r5,r6,r7,r8,r9,cZ,dA,dB⟩:=Qjc rr
    simp only [Qf,Qg,Qh] at r0 r1 r2 r3 r4 r5 r6 r7 r8 r9 cZ dA dB
    clear fz rr
    refine rdD 12 (fun K J=>?_) Qo
    go_simp
    have cT:=G.out.size
    have U:Below aE aE (Xi Y wd o.name (.slice aQ o.columns.length aP) (.slice aS o.key.length aR) (.slice bA o.refs.length aZ) k8 (.string bB) n8 (.string bC) (.slice aW aT aM) (.slice aX aU aN) (.slice aY aV aO) a8 z8):=Xz G.out C7
    have aB:(Xi Y wd o.name (.slice aQ o.columns.length aP) (.slice aS o.key.length aR) (.slice bA o.refs.length aZ) k8 (.string bB) n8 (.string bC) (.slice aW aT aM) (.slice aX aU aN) (.slice aY aV aO) a8 z8).heap[wd.heap.size]?=some (.cells (Co o aQ aP aS aR bA aZ k8 bB n8 bC aW aT aM aX aU aN aY aV aO a8 z8) 48 (0,0)):=Kd N.out
    have aC:∀ k,k≠wd.heap.size->(Xi Y wd o.name (.slice aQ o.columns.length aP) (.slice aS o.key.length aR) (.slice bA o.refs.length aZ) k8 (.string bB) n8 (.string bC) (.slice aW aT aM) (.slice aX aU aN) (.slice aY aV aO) a8 z8).heap[k]?=Y.heap[k]?:=fun k hk=>V8 hk
    unfold Xi at U aB aC
    refine J.out _ _ (O.out _ U) (fun A=>?_)
    refine tkD (v:=?_) 13 (fun M D=>?_) ?_;rotate_left
    ·(go_simp;try with_reducible rfl)
    refine wpAnyH_done Cd ?_ _
    clear J K A f0 f1 f2 f3 f4 f5 f6 f7 f8 f9 dR dS dT r0 r1 r2 r3 r4 r5 r6 r7 r8 r9 cZ dA dB aA
    generalize World.setCell _ _ _=w9 at U aB aC |-
    go_wp2_with fail
    go_meet
    exact ⟨wd.heap.size,aQ,aP,aS,aR,bA,aZ,k8,bB,n8,bC,aW,aT,aM,aX,aU,aN,aY,aV,aO,a8,z8,rfl,rfl,aB,Zm.mono (Zm.frame cH.out (fun b hb _=>aC b (by rcases hb.1 with h | h <;> (have:=hb.2;omega)))) (fun b _ hb=>by
     rcases hb.1 with h | h
     ·exact .inl h
     exact .inr ⟨C7,by have:=hb.2;omega⟩),U,C7⟩
   exact Qo
  exact Qo
 obtain ⟨GT,aQ,aP,aS,aR,bA,aZ,k8,bB,n8,bC,aW,aT,aM,aX,aU,aN,aY,aV,aO,a8,z8,rfl,rfl,eD,eG,aH,gA⟩:=hcut
 obtain ⟨aD,rfl⟩:∃ aD,aD=wc:=⟨_,rfl⟩
 obtain ⟨fE,cH,dH,cG⟩:=Qjz eD eG aH (cF.out.thn aH)
 have dI:=Qq (kB aH fF.out)
 have cV:=Qq (Z9.move fK.out (.of_below aH) Qje)
 have fD:=Qq (fun W (h:Below aD aD W)=>dZ.out W (dH.out.thn h))
 have gE:w4.heap.size<=aD.heap.size:=cG.out.size
 clear eD eG aH dO
 have dD:Hid (∀ W,Below aD aD W->∀ (kv:Value),Sl Zd (fun _=>True) W kv [x]->Calls prog 14 #[.agg #[.slice up m1 uc,Cg tb toff m2 tc],.slice ap an ac,rf.table,kv] W fun e w'=>∃ bF,e=.returned (.tuple #[.agg bF.toArray,.bool true])/\Z9 (fun b=>b<w4) w' bF y2/\Below W W w'):=Qq (fun W h kv hk=>by
  have h9:=Ki (fun _=>True) (fun b=>b<w4) (fun _=>True) s [.slice up m1 uc,Cg tb toff m2 tc] (.slice ap an ac) a rf.table kv _ W (HSc4.out.below (cG.out.thn h)) ((HS4.out.mono (fun b hb _=>hb)).below (cG.out.thn h)) hk (fun t ht=>(HGen.out.ok t ht).key)
  unfold M1 at h9
  rw [fJ.out] at h9
  exact h9)
 go_upto_region 21 with fail
 go_cut [20,21] from 93 to 157 (fun fY fZ wx=>Mv (fun b=>b<w4) aD y2 true fY fZ wx)
 case first=>
  have HD:=Qq (show ∀ W,(fun W=>Below aD aD W) W->Cf W w1 0 (.slice up m1 uc)/\Cf W w1 1 (Cg tb toff m2 tc)/\Cf W TB 3 (Cg fb bG t.refs.length rc9)/\Cf W fb (bG+q*2+1) rf.table/\Qjn W GX x.kind x.n x.s (.slice u5 x.names.length n5) (.slice u6 x.kids.length n6) from fun W h=>by
   have h3:=kB h dI.out
   obtain ⟨c0,c1,-,-,-,q3,-,-,-,-,-,-,-,-,-,-,-,-,-,-,-,d1⟩:=fD.out W h
   exact ⟨c0,c1,q3,d1,(Qk _ _ 0 _ _ _ h3).trans rfl,(Qk _ _ 1 _ _ _ h3).trans rfl,(Qk _ _ 2 _ _ _ h3).trans rfl,(Qk _ _ 3 _ _ _ h3).trans rfl,(Qk _ _ 4 _ _ _ h3).trans rfl⟩)
  have O:=Qq (show ∀ W,Below aD aD W->(fun W=>Below aD aD W) W from fun W h=>h)
  refine wp_region_held_drew (S:=fun W=>Below aD aD W) Cd (O.out _ (Qz _ _).drew) (fun A=>?_)
  refine tkD (v:=?_) 0 (fun M D=>?_) ?_;rotate_left
  ·(obtain ⟨c0,c1,-,-,-,-,-,-,-⟩:=HD.out M D;go_simp;try with_reducible rfl)
  refine tkD (v:=?_) 1 (fun M D=>?_) ?_;rotate_left
  ·(go_simp;try with_reducible rfl)
  refine tkD (v:=?_) 2 (fun M D=>?_) ?_;rotate_left
  ·(go_simp;try with_reducible rfl)
  refine tkD (v:=?_) 3 (fun M D=>?_) ?_;rotate_left
  ·(obtain ⟨-,-,q3,-,-,-,-,-,-⟩:=HD.out M D;go_simp;try with_reducible rfl)
  refine tkD (v:=?_) 4 (fun M D=>?_) ?_;rotate_left
  ·(go_simp;try with_reducible rfl)
  refine tkD (v:=?_) 5 (fun M D=>?_) ?_;rotate_left
  ·(go_simp;try with_reducible rfl)
  refine tkD (v:=?_) 6 (fun M D=>?_) ?_;rotate_left
  ·(go_simp;try with_reducible rfl)
  refine tkD (v:=?_) 7 (fun M D=>?_) ?_;rotate_left
  ·(obtain ⟨-,-,-,d1,-,-,-,-,-⟩:=HD.out M D;go_simp;try with_reducible rfl)
  refine tkD (v:=?_) 8 (fun M D=>?_) ?_;rotate_left
  ·(obtain ⟨-,-,-,-,v0,v1,v2,v3,v4⟩:=HD.out M D;go_simp;try with_reducible rfl)
  have Z:Hid (Below aD aD aD.drew):=Qq (Qz _ _).drew
  have cL:=Z.out.size
  generalize aD.drew=wd at A Z cL |-
  refine rsD [9,14] ?_
  refine rcD (fun K J=>?_) ?_
  ·go_simp
   generalize cI:World.alloc wd _=ws
   have hb:=eqB cI (Zg _ _)
   have bJ:Hid (Sl Zd (fun _=>True) ws (.slice (some ⟨wd,0,none⟩) 1 1) [x]):=Qq (Jo (Z9.move cV.out (.of_below Z.out) Qje) hb (by rw [<- cI];exact Qw _ _))
   clear cI
   have aK:=Qq (Z.out.thn hb)
   have eQ:=aK.out.size
   clear hb
   try dsimp only
   refine J.out _ _ (O.out _ aK.out) (fun A=>?_)
   clear J K
   refine rsD [10,14] ?_
   refine rcD (fun K J=>?_) ?_
   ·go_simp
    refine (dD.out ws aK.out _ bJ.out).mono ?_
    rintro e Y ⟨bF,rfl,aI,hb⟩
    obtain ⟨u3,n3,u4,n4,aF,_⟩:=Z9.cells aI
    simp only [vcs] at aF
    subst aF
    have HV:=Qq aI
    clear aI
    have G:=Qq (aK.out.thn hb)
    have bI:=G.out.size
    clear hb
    try dsimp only
    refine J.out _ _ (O.out _ G.out) (fun A=>?_)
    clear J K
    refine tkD (v:=?_) 11 (fun M D=>?_) ?_;rotate_left
    ·(go_simp;try with_reducible rfl)
    refine tkD (v:=?_) 12 (fun M D=>?_) ?_;rotate_left
    ·(go_simp;try with_reducible rfl)
    refine tkD (v:=?_) 13 (fun M D=>?_) ?_;rotate_left
    ·(go_simp;try with_reducible rfl)
    refine rdD 14 (fun K J=>?_) Qo
    go_simp
    generalize T:World.alloc Y _=wb
    have V:=eqB T (Zg _ _)
    have I:=Qq (G.out.thn V)
    have bZ:=G.out.size
    have cA:=I.out.size
    have bE:Hid (wb.heap[Y.heap.size]?=some (.cells zV 36 (0,0))):=Qq (by rw [<- T];exact Qw _ _)
    clear T
    replace HV:=Qq (Z9.move HV.out (.of_below V) Qje)
    clear V
    try dsimp only
    refine J.out _ _ (O.out _ I.out) (fun A=>?_)
    clear J K
    have aA:=bE.out
    have fz:=fun j=>Qn _ _ j _ _ aA
    obtain ⟨f0,f1,f2,f3,f4⟩:=Qjw fz
    have rr:=fun j=>Qk _ _ j _ _ _ aA
    obtain ⟨r0,r1,r2,r3,r4⟩:=Qjw rr
    simp only [Qf,Qg,Qh] at r0 r1 r2 r3 r4
    clear fz rr
    refine rdD 15 (fun K J=>?_) Qo
    go_simp
    have cT:=I.out.size
    have U:Below aD aD (Cu wb Y y2 u3 n3 u4 n4):=Zc I.out C7
    have aB:(Zi wb Y y2.kind y2.n y2.s (.slice u3 y2.names.length n3) (.slice u4 y2.kids.length n4)).heap[Y.heap.size]?=some (.cells (Cn y2 u3 n3 u4 n4) 36 (0,0)):=Yw bE.out
    have aC:∀ k,k≠Y.heap.size->(Zi wb Y y2.kind y2.n y2.s (.slice u3 y2.names.length n3) (.slice u4 y2.kids.length n4)).heap[k]?=wb.heap[k]?:=fun k hk=>Zf hk
    unfold Zi at U aB aC
    refine J.out _ _ (O.out _ U) (fun A=>?_)
    refine tkD (v:=?_) 16 (fun M D=>?_) ?_;rotate_left
    ·(go_simp;try with_reducible rfl)
    refine wpAnyH_done Cd ?_ _
    clear J K A f0 f1 f2 f3 f4 r0 r1 r2 r3 r4 aA
    generalize World.setCell _ _ _=w9 at U aB aC |-
    go_wp2_with fail
    go_meet
    exact ⟨Y.heap.size,u3,n3,u4,n4,rfl,rfl,aB,Z9.move HV.out (fun b hb _=>aC b (by have h':b<w4.heap.size:=hb;omega)) Qje,U,C7⟩
   refine rcD (fun K J=>?_) ?_
   ·go_simp
    generalize T:World.alloc ws _=wb
    have V:=eqB T (Zg _ _)
    have I:=Qq (aK.out.thn V)
    have bZ:=aK.out.size
    have cA:=I.out.size
    have N:Hid (wb.heap[ws.heap.size]?=some (.cells zV 36 (0,0))):=Qq (by rw [<- T];exact Qw _ _)
    clear T
    replace bJ:=Qq (bJ.out.below V)
    clear V
    try dsimp only
    refine J.out _ _ (O.out _ I.out) (fun A=>?_)
    clear J K
    refine rdD 10 (fun K J=>?_) ?_
    ·go_simp
     refine (dD.out wb I.out _ bJ.out).mono ?_
     rintro e Y ⟨bF,rfl,aI,hb⟩
     obtain ⟨u3,n3,u4,n4,aF,_⟩:=Z9.cells aI
     simp only [vcs] at aF
     subst aF
     have HV:=Qq aI
     clear aI
     have G:=Qq (I.out.thn hb)
     have bI:=G.out.size
     have bE:=Qq (kB hb N.out)
     have cK:=Z8 N.out
     clear hb
     try dsimp only
     refine J.out _ _ (O.out _ G.out) (fun A=>?_)
     clear J K
     refine tkD (v:=?_) 11 (fun M D=>?_) ?_;rotate_left
     ·(go_simp;try with_reducible rfl)
     refine tkD (v:=?_) 12 (fun M D=>?_) ?_;rotate_left
     ·(go_simp;try with_reducible rfl)
     refine tkD (v:=?_) 13 (fun M D=>?_) ?_;rotate_left
     ·(go_simp;try with_reducible rfl)
     have aA:=bE.out
     have fz:=fun j=>Qn _ _ j _ _ aA
     obtain ⟨f0,f1,f2,f3,f4⟩:=Qjw fz
     have rr:=fun j=>Qk _ _ j _ _ _ aA
     obtain ⟨r0,r1,r2,r3,r4⟩:=Qjw rr
     simp only [Qf,Qg,Qh] at r0 r1 r2 r3 r4
     clear fz rr
     refine rdD 15 (fun K J=>?_) Qo
     go_simp
     have cT:=G.out.size
     have U:Below aD aD (Cu Y ws y2 u3 n3 u4 n4):=Zc G.out C7
     have aB:(Zi Y ws y2.kind y2.n y2.s (.slice u3 y2.names.length n3) (.slice u4 y2.kids.length n4)).heap[ws.heap.size]?=some (.cells (Cn y2 u3 n3 u4 n4) 36 (0,0)):=Yw bE.out
     have aC:∀ k,k≠ws.heap.size->(Zi Y ws y2.kind y2.n y2.s (.slice u3 y2.names.length n3) (.slice u4 y2.kids.length n4)).heap[k]?=Y.heap[k]?:=fun k hk=>Zf hk
     unfold Zi at U aB aC
     refine J.out _ _ (O.out _ U) (fun A=>?_)
     refine tkD (v:=?_) 16 (fun M D=>?_) ?_;rotate_left
     ·(go_simp;try with_reducible rfl)
     refine wpAnyH_done Cd ?_ _
     clear J K A f0 f1 f2 f3 f4 r0 r1 r2 r3 r4 aA
     generalize World.setCell _ _ _=w9 at U aB aC |-
     go_wp2_with fail
     go_meet
     exact ⟨ws.heap.size,u3,n3,u4,n4,rfl,rfl,aB,Z9.move HV.out (fun b hb _=>aC b (by have h':b<w4.heap.size:=hb;omega)) Qje,U,C7⟩
    exact Qo
   exact Qo
  refine rcD (fun K J=>?_) ?_
  ·go_simp
   generalize T:World.alloc wd _=wb
   have V:=eqB T (Zg _ _)
   have I:=Qq (Z.out.thn V)
   have bZ:=Z.out.size
   have cA:=I.out.size
   have aL:Hid (wb.heap[wd.heap.size]?=some (.cells zV 36 (0,0))):=Qq (by rw [<- T];exact Qw _ _)
   clear T
   clear V
   try dsimp only
   refine J.out _ _ (O.out _ I.out) (fun A=>?_)
   clear J K
   refine rdD 9 (fun K J=>?_) ?_
   ·go_simp
    generalize cI:World.alloc wb _=ws
    have hb:=eqB cI (Zg _ _)
    have bJ:Hid (Sl Zd (fun _=>True) ws (.slice (some ⟨wb,0,none⟩) 1 1) [x]):=Qq (Jo (Z9.move cV.out (.of_below I.out) Qje) hb (by rw [<- cI];exact Qw _ _))
    clear cI
    have aK:=Qq (I.out.thn hb)
    have eQ:=aK.out.size
    have N:=Qq (kB hb aL.out)
    have cK:=Z8 aL.out
    clear hb
    try dsimp only
    refine J.out _ _ (O.out _ aK.out) (fun A=>?_)
    clear J K
    refine rdD 10 (fun K J=>?_) ?_
    ·go_simp
     refine (dD.out ws aK.out _ bJ.out).mono ?_
     rintro e Y ⟨bF,rfl,aI,hb⟩
     obtain ⟨u3,n3,u4,n4,aF,_⟩:=Z9.cells aI
     simp only [vcs] at aF
     subst aF
     have HV:=Qq aI
     clear aI
     have G:=Qq (aK.out.thn hb)
     have bI:=G.out.size
     have bE:=Qq (kB hb N.out)
     have cK:=Z8 N.out
     clear hb
     try dsimp only
     refine J.out _ _ (O.out _ G.out) (fun A=>?_)
     clear J K
     refine tkD (v:=?_) 11 (fun M D=>?_) ?_;rotate_left
     ·(go_simp;try with_reducible rfl)
     refine tkD (v:=?_) 12 (fun M D=>?_) ?_;rotate_left
     ·(go_simp;try with_reducible rfl)
     refine tkD (v:=?_) 13 (fun M D=>?_) ?_;rotate_left
     ·(go_simp;try with_reducible rfl)
     have aA:=bE.out
     have fz:=fun j=>Qn _ _ j _ _ aA
     obtain ⟨f0,f1,f2,f3,f4⟩:=Qjw fz
     have rr:=fun j=>Qk _ _ j _ _ _ aA
     obtain ⟨r0,r1,r2,r3,r4⟩:=Qjw rr
     simp only [Qf,Qg,Qh] at r0 r1 r2 r3 r4
     clear fz rr
     refine rdD 15 (fun K J=>?_) Qo
     go_simp
     have cT:=G.out.size
     have U:Below aD aD (Cu Y wd y2 u3 n3 u4 n4):=Zc G.out C7
     have aB:(Zi Y wd y2.kind y2.n y2.s (.slice u3 y2.names.length n3) (.slice u4 y2.kids.length n4)).heap[wd.heap.size]?=some (.cells (Cn y2 u3 n3 u4 n4) 36 (0,0)):=Yw bE.out
     have aC:∀ k,k≠wd.heap.size->(Zi Y wd y2.kind y2.n y2.s (.slice u3 y2.names.length n3) (.slice u4 y2.kids.length n4)).heap[k]?=Y.heap[k]?:=fun k hk=>Zf hk
     unfold Zi at U aB aC
     refine J.out _ _ (O.out _ U) (fun A=>?_)
     refine tkD (v:=?_) 16 (fun M D=>?_) ?_;rotate_left
     ·(go_simp;try with_reducible rfl)
     refine wpAnyH_done Cd ?_ _
     clear J K A f0 f1 f2 f3 f4 r0 r1 r2 r3 r4 aA
     generalize World.setCell _ _ _=w9 at U aB aC |-
     go_wp2_with fail
     go_meet
     exact ⟨wd.heap.size,u3,n3,u4,n4,rfl,rfl,aB,Z9.move HV.out (fun b hb _=>aC b (by have h':b<w4.heap.size:=hb;omega)) Qje,U,C7⟩
    exact Qo
   exact Qo
  exact Qo
 obtain ⟨GY,u3,n3,u4,n4,rfl,rfl,eF,eO,aH,gB⟩:=hcut
 obtain ⟨aG,rfl⟩:∃ aG,aG=wc:=⟨_,rfl⟩
 obtain ⟨fG,fL,dX⟩:=Qjq eF eO aH
 have eB:=Qq (kB aH dI.out)
 have dJ:=Qq (Z9.move cV.out (.of_below aH) Qje)
 have eA:=Qq (kB aH fE.out)
 have eC:=Qq (Zm.frame cH.out (.of_below aH))
 have eK:o.key.length<=1000:=(HGen.out.ok o (List.mem_of_find?_eq_some HO.out)).key
 have dM:=Qq (fun W (h:Below aG aG W)=>B9 _ (fun b=>b<w4) o y2 (Co o aQ aP aS aR bA aZ k8 bB n8 bC aW aT aM aX aU aN aY aV aO a8 z8) (Cn y2 u3 n3 u4 n4) W (Zm.frame eC.out (.of_below h)) (Z9.move fL.out (.of_below h) Qje) eK)
 have dN:Hid (∀ W,Below aG aG W->∀ (av bv:Value),Sl Zd (fun _=>True) W av ((keyOf o.key y2).getD [])->Sl Zd (fun _=>True) W bv [x]->Calls prog 21 #[av,bv] W fun e w'=>e=.returned (.bool true)/\Below W W w'):=Qq (fun W h av bv h1 h2=>(G7 _ _ av bv _ _ W h1 h2).mono (by
  rintro e w' ⟨rfl,hg⟩
  rw [fI.out]
  exact ⟨rfl,hg.bl⟩))
 clear eF eO aH dD eK
 go_upto_region 22 with fail
 go_cut [157] from 93 to 156 (fun eW wx=>eW=.bool false/\Below aG aG wx)
 case first=>
  have HD:=Qq (show ∀ W,(fun W=>Below aG aG W) W->(Qji W GT o.name (.slice aQ o.columns.length aP) (.slice aS o.key.length aR) (.slice bA o.refs.length aZ) k8 (.string bB) n8 (.string bC) (.slice aW aT aM) (.slice aX aU aN) (.slice aY aV aO) a8 z8 ((Qjg W GY y2.kind y2.n y2.s (.slice u3 y2.names.length n3) (.slice u4 y2.kids.length n4) ((Qjn W GX x.kind x.n x.s (.slice u5 x.names.length n5) (.slice u6 x.kids.length n6):Prop)):Prop)):Prop) from fun W h=>by
   have h1:=kB h eA.out
   have h2:=kB h fG.out
   have h3:=kB h eB.out
   exact ⟨(Qk _ _ 0 _ _ _ h1).trans rfl,(Qk _ _ 1 _ _ _ h1).trans rfl,(Qk _ _ 2 _ _ _ h1).trans rfl,(Qk _ _ 3 _ _ _ h1).trans rfl,(Qk _ _ 4 _ _ _ h1).trans rfl,(Qk _ _ 5 _ _ _ h1).trans rfl,(Qk _ _ 6 _ _ _ h1).trans rfl,(Qk _ _ 7 _ _ _ h1).trans rfl,(Qk _ _ 8 _ _ _ h1).trans rfl,(Qk _ _ 9 _ _ _ h1).trans rfl,(Qk _ _ 10 _ _ _ h1).trans rfl,(Qk _ _ 11 _ _ _ h1).trans rfl,(Qk _ _ 12 _ _ _ h1).trans rfl,(Qk _ _ 0 _ _ _ h2).trans rfl,(Qk _ _ 1 _ _ _ h2).trans rfl,(Qk _ _ 2 _ _ _ h2).trans rfl,(Qk _ _ 3 _ _ _ h2).trans rfl,(Qk _ _ 4 _ _ _ h2).trans rfl,(Qk _ _ 0 _ _ _ h3).trans rfl,(Qk _ _ 1 _ _ _ h3).trans rfl,(Qk _ _ 2 _ _ _ h3).trans rfl,(Qk _ _ 3 _ _ _ h3).trans rfl,(Qk _ _ 4 _ _ _ h3).trans rfl⟩)
  have O:=Qq (show ∀ W,Below aG aG W->(fun W=>Below aG aG W) W from fun W h=>h)
  refine wp_region_held_drew (S:=fun W=>Below aG aG W) Cd (O.out _ (Qz _ _).drew) (fun A=>?_)
  refine tkD (v:=?_) 0 (fun M D=>?_) ?_;rotate_left
  ·(go_simp;try with_reducible rfl)
  refine tkD (v:=?_) 1 (fun M D=>?_) ?_;rotate_left
  ·(go_simp;try with_reducible rfl)
  refine tkD (v:=?_) 2 (fun M D=>?_) ?_;rotate_left
  ·(go_simp;try with_reducible rfl)
  refine tkD (v:=?_) 3 (fun M D=>?_) ?_;rotate_left
  ·(go_simp;try with_reducible rfl)
  refine tkD (v:=?_) 4 (fun M D=>?_) ?_;rotate_left
  ·(go_simp;try with_reducible rfl)
  refine tkD (v:=?_) 5 (fun M D=>?_) ?_;rotate_left
  ·(go_simp;try with_reducible rfl)
  refine tkD (v:=?_) 6 (fun M D=>?_) ?_;rotate_left
  ·(go_simp;try with_reducible rfl)
  refine tkD (v:=?_) 7 (fun M D=>?_) ?_;rotate_left
  ·(go_simp;try with_reducible rfl)
  refine tkD (v:=?_) 8 (fun M D=>?_) ?_;rotate_left
  ·(go_simp;try with_reducible rfl)
  refine tkD (v:=?_) 9 (fun M D=>?_) ?_;rotate_left
  ·(go_simp;try with_reducible rfl)
  refine tkD (v:=?_) 10 (fun M D=>?_) ?_;rotate_left
  ·(go_simp;try with_reducible rfl)
  refine tkD (v:=?_) 11 (fun M D=>?_) ?_;rotate_left
  ·(obtain ⟨t0,t1,t2,t3,t4,t5,t6,t7,t8,t9,gI,gJ,gK,-,-,-,-,-,-,-,-,-,-⟩:=HD.out M D;go_simp;try with_reducible rfl)
  refine tkD (v:=?_) 12 (fun M D=>?_) ?_;rotate_left
  ·(obtain ⟨-,-,-,-,-,-,-,-,-,-,-,-,-,y0,y1,y2,y3,y4,-,-,-,-,-⟩:=HD.out M D;go_simp;try with_reducible rfl)
  refine tkD (v:=?_) 14 (fun M D=>?_) ?_;rotate_left
  ·(obtain ⟨-,-,-,-,-,-,-,-,-,-,-,-,-,-,-,-,-,-,v0,v1,v2,v3,v4⟩:=HD.out M D;go_simp;try with_reducible rfl)
  have Z:Hid (Below aG aG aG.drew):=Qq (Qz _ _).drew
  have cL:=Z.out.size
  generalize aG.drew=wd at A Z cL |-
  refine rsD [13,15] ?_
  refine rcD (fun K J=>?_) ?_
  ·go_simp
   refine (dM.out wd Z.out).mono ?_
   rintro e wk ⟨pk,nk,ck,rfl,-,cX,hb⟩
   have bJ:=Qq (cX.mono (S':=fun _=>True) (fun _ _ _=>trivial))
   clear cX
   have bD:=Qq (Z.out.thn hb)
   have eP:=bD.out.size
   clear hb
   try dsimp only
   refine J.out _ _ (O.out _ bD.out) (fun A=>?_)
   clear J K
   refine rdD 15 (fun K J=>?_) ?_
   ·go_simp
    generalize T:World.alloc wk _=wb
    have V:=eqB T (Zg _ _)
    have I:=Qq (bD.out.thn V)
    have bZ:=bD.out.size
    have cA:=I.out.size
    have N:Hid (wb.heap[wk.heap.size]?=some (.cells (Cn x u5 n5 u6 n6) 36 (0,0))):=Qq (by rw [<- T];exact Qw _ _)
    clear T
    replace bJ:=Qq (bJ.out.below V)
    clear V
    try dsimp only
    refine J.out _ _ (O.out _ I.out) (fun A=>?_)
    clear J K
    refine rdD 16 (fun K J=>?_) ?_
    ·go_simp
     refine (dN.out wb I.out _ _ bJ.out (Jo (Z9.move dJ.out (.of_below I.out) Qje) (Qz _ _) N.out)).mono ?_
     rintro e Y ⟨rfl,hb⟩
     have G:=Qq (I.out.thn hb)
     have bI:=G.out.size
     have bE:=Qq (kB hb N.out)
     have cK:=Z8 N.out
     clear hb
     try dsimp only
     refine J.out _ _ (O.out _ G.out) (fun A=>?_)
     clear J K
     refine tkD (v:=?_) 17 (fun M D=>?_) ?_;rotate_left
     ·(go_simp;try with_reducible rfl)
     refine tkD (v:=?_) 18 (fun M D=>?_) ?_;rotate_left
     ·(go_simp;try with_reducible rfl)
     refine wpAnyH_done Cd ?_ _
     clear A
     go_wp2_with fail
     go_meet
     exact ⟨rfl,G.out⟩
    exact Qo
   exact Qo
  refine rcD (fun K J=>?_) ?_
  ·go_simp
   generalize T:World.alloc wd _=wb
   have V:=eqB T (Zg _ _)
   have I:=Qq (Z.out.thn V)
   have bZ:=Z.out.size
   have cA:=I.out.size
   have aL:Hid (wb.heap[wd.heap.size]?=some (.cells (Cn x u5 n5 u6 n6) 36 (0,0))):=Qq (by rw [<- T];exact Qw _ _)
   clear T
   clear V
   try dsimp only
   refine J.out _ _ (O.out _ I.out) (fun A=>?_)
   clear J K
   refine rdD 13 (fun K J=>?_) ?_
   ·go_simp
    refine (dM.out wb I.out).mono ?_
    rintro e wk ⟨pk,nk,ck,rfl,-,cX,hb⟩
    have bJ:=Qq (cX.mono (S':=fun _=>True) (fun _ _ _=>trivial))
    clear cX
    have bD:=Qq (I.out.thn hb)
    have eP:=bD.out.size
    have N:=Qq (kB hb aL.out)
    have cK:=Z8 aL.out
    clear hb
    try dsimp only
    refine J.out _ _ (O.out _ bD.out) (fun A=>?_)
    clear J K
    refine rdD 16 (fun K J=>?_) ?_
    ·go_simp
     refine (dN.out wk bD.out _ _ bJ.out (Jo (Z9.move dJ.out (.of_below bD.out) Qje) (Qz _ _) N.out)).mono ?_
     rintro e Y ⟨rfl,hb⟩
     have G:=Qq (bD.out.thn hb)
     have bI:=G.out.size
     have bE:=Qq (kB hb N.out)
     have cK:=Z8 N.out
     clear hb
     try dsimp only
     refine J.out _ _ (O.out _ G.out) (fun A=>?_)
     clear J K
     refine tkD (v:=?_) 17 (fun M D=>?_) ?_;rotate_left
     ·(go_simp;try with_reducible rfl)
     refine tkD (v:=?_) 18 (fun M D=>?_) ?_;rotate_left
     ·(go_simp;try with_reducible rfl)
     refine wpAnyH_done Cd ?_ _
     clear A
     go_wp2_with fail
     go_meet
     exact ⟨rfl,G.out⟩
    exact Qo
   exact Qo
  exact Qo
 obtain ⟨rfl,aH⟩:=hcut
 obtain ⟨eX,rfl⟩:∃ eX,eX=wc:=⟨_,rfl⟩
 have fC:=Qq (HBq.out.thn (dG.out.thn (dH.out.thn (dX.out.thn aH))))
 clear aH dM dN
 go_wp2_with fail
 go_roundw
 case measure=>simp [intOf];omega
 case rel=>exact ⟨q+1,C7,by go_num,fC.out⟩
theorem Hb (HCk:Du) (S1 S2 S3:Nat->Prop) (lv nv mv:Value) (ls ns ms:List Int) (w:World) (hl0:Xd S1 w lv ls) (hn0:Xd S2 w nv ns) (hm0:Xd S3 w mv ms) (hi1:Uh ls) (hi2:Uh ns) (hi3:Uh ms) (hkw:Xh w):
  Calls prog 4 #[lv,nv,mv] w fun e w'=>e=.returned (.bool true)/\Below w w w':=
 fz_s.all fz_p1 HCk S1 S2 S3 lv nv mv ls ns ms w hl0 hn0 hm0 hi1 hi2 hi3 hkw
end Go.Proofs.YtcljcblceodciaaGreatDoor
