import Derived.Test.YtlanplhphiikjaaGreatDoorE42
set_option maxRecDepth 100000
set_option maxHeartbeats 400000000
namespace Go.Proofs.YtlanplhphiikjaaGreatDoor
open Go.RowKit Go.Shelf Go.Lib Tryz
theorem S6 (S:Nat->Prop) (v:Value) (l:List Int) (k:Nat) (two ref third:Bool) (w:World) (hs:Xa S w v l) (hi:Uh l)
  (hC:∀ W,Below w w W->Calls prog 27 #[v,Qxc] W (J8 W (Gen.check k)))
  (h1:two=(Yo l 1 3==0)) (h2:ref=decide (0<Yo l 2 3)) (h3:third=(Yo l 3 2==0)):
  Calls prog 5 #[v] w (NewSc w (Gen.schema k two ref third)):=by
 have HP:=Qq (fun (i:Nat) (m:Int) (hm:1<=m) (hm2:m<=1000000000) W (hb:Below w w W)=>Yr S v l i m W (hs.below hb) hi hm hm2)
 have HC:=Qq hC
 obtain ⟨z1,cY⟩:=eX (Yo l 1 3)
 obtain ⟨z2,cZ⟩:=eX (Yo l 2 3)
 obtain ⟨z3,dA⟩:=eX (Yo l 3 2)
 have fW:Hid (∀ W,Below w w W->Calls prog 28 #[v,.int .i64 1,.int .i64 3] W fun e w'=>e=.returned (.int .i64 z1)/\W=w'):=Qq (fun W hb=>by have:=HP.out 1 3 Qvu Qvu W hb;rw [cY] at this;exact this)
 have fX:Hid (∀ W,Below w w W->Calls prog 28 #[v,.int .i64 2,.int .i64 3] W fun e w'=>e=.returned (.int .i64 z2)/\W=w'):=Qq (fun W hb=>by have:=HP.out 2 3 Qvu Qvu W hb;rw [cZ] at this;exact this)
 have fY:Hid (∀ W,Below w w W->Calls prog 28 #[v,.int .i64 3,.int .i64 2] W fun e w'=>e=.returned (.int .i64 z3)/\W=w'):=Qq (fun W hb=>by have:=HP.out 3 2 Qvu Qvu W hb;rw [dA] at this;exact this)
 rw [cY] at h1;rw [cZ] at h2;rw [dA] at h3
 obtain ⟨H1,H2,H3⟩:=Qxn h1 h2 h3
 obtain ⟨p,cap,rfl,_⟩:=hs.len
 clear hs hi hC h1 h2 h3 HP cY cZ dA
 obtain ⟨i0,j1,j2,j3,j4⟩:=Y4 (P:=prog) (t:=61) (z:=.agg zT) (n:=13) (b:=224) Qxx
 obtain ⟨HJ,fL,fM,fN⟩:=Qxo j1 j2 j3 j4
 clear j1 j2 j3 j4
 go_enter func5,ntmps5
 go_upto_region 4 with fail
 generalize D:World.alloc (World.alloc (World.alloc (World.alloc (World.alloc w _) _) _) _) _=W3
 have bK:=eqB D (Zs (Zs (Zs (Zs (Ze w _) _) _) _) _)
 have cH:W3=w.heap.size+5:=by rw [<- D];simp
 have g0:=eqH (b:=w.heap.size) D (Zb (Zb (Zb (Zb (Y3 rfl _) _) _) _) _)
 have g1:=eqH (b:=w.heap.size+1) D (Zb (Zb (Zb (Y3 Qxz _) _) _) _)
 have g2:=eqH (b:=w.heap.size+1+1) D (Zb (Zb (Y3 Qxz _) _) _)
 have g3:=eqH (b:=w.heap.size+1+1+1) D (Zb (Y3 Qxz _) _)
 have g4:=eqH (b:=w.heap.size+1+1+1+1) D (Y3 Qxz _)
 clear D
 have fI:=Qq (HC.out (W3.alloc (.cells #[.string ⟨#[97]⟩] 9)) (Zs bK _))
 have hk:=Y3 rfl (W:=W3) (.cells #[.string ⟨#[97]⟩] 9)
 have aD:=Qq cH
 obtain ⟨G0,G1,G2,G3,G4,GK,fG⟩:=Qxs g0 g1 g2 g3 g4 hk bK
 clear g0 g1 g2 g3 g4 hk bK cH
 go_upto_region 5 with (go_at_call 27;refine fI.out.mono ?_;rintro e J ⟨hO,rfl,bM,eI⟩;obtain ⟨aK,aM,aL,aN,aG,aP,aR,aH,aQ,aS,aI,f39,aT,aJ,aO,eJ⟩:=Y1.cells bM;subst eJ;have fK:=Qq bM;have Y:=Qq eI;clear bM eI)
 have hH:w.heap.size+6<=J.heap.size:=by have:=Y.out.size;have:=aD.out;simp at *;omega
 have cW:W3.heap.size<J.heap.size:=by have:=Y.out.size;simp at this;omega
 have q0:=Ky Y.out (by simp;have:=aD.out;omega) (Zb G0.out _);have q1:=Ky Y.out (by simp;have:=aD.out;omega) (Zb G1.out _);have q2:=Ky Y.out (by simp;have:=aD.out;omega) (Zb G2.out _);have q3:=Ky Y.out (by simp;have:=aD.out;omega) (Zb G3.out _);have q4:=Ky Y.out (by simp;have:=aD.out;omega) (Zb G4.out _);have qk:=Ky Y.out Qxz GK.out
 have u0:=Z8 q0;have u1:=Z8 q1;have u2:=Z8 q2;have u4:=Z8 q4
 have bG:=Qq ((Zs fG.out _).thn Y.out)
 obtain ⟨Q0,Q1,Q2,Q3,Q4,QK⟩:=Qxr q0 q1 q2 q3 q4 qk
 obtain ⟨a0,a1,a2,a3,a4⟩:=row5 q1
 obtain ⟨c0,c1,c2,c3,c4⟩:=row5 q2
 clear q0 q1 q2 q3 q4 qk
 go_upto_if 35 with (go_at_call 28;refine (fW.out _ (Zs (Zs bG.out _) _)).mono ?_;rintro e w' ⟨rfl,rfl⟩)
 generalize D:World.alloc (World.alloc J _) _=W6
 have cG:=eqB D (Zs (Ze J _) _)
 have cI:W6=J.heap.size+2:=by rw [<- D];simp
 have k0:=eqH (b:=J.heap.size) D (Zb (Y3 rfl _) _)
 have k1:=eqH (b:=J.heap.size+1) D (Y3 Qxz _)
 clear D
 obtain ⟨cO,dL,cM,hK⟩:=Qxo k0 k1 cG cI
 have hF:J.heap.size+1<W6.heap.size:=Qvu
 clear k0 k1 cG cI
 go_cut [] from 34 (fun wx=>∃ kp kn kc,wx.heap[J.heap.size]?=some (.cells #[.string ⟨#[116]⟩,Qxa (J+1) 0 5 5,.slice kp kn kc,Qxe,aK,.string aM,aL,.string aN,.slice aG aP aR,.slice aH aQ aS,.slice aI f39 aT,aJ,aO] 61 (0,0))/\wx.heap[J.heap.size+1]?=some (.cells #[.string ⟨#[97]⟩,Qxc,Qxd,Qxc,Qxe,Qxe,.string ⟨#[98]⟩,Qxc,Qxd,Qxc,Qxe,Qxe,.string ⟨#[99]⟩,.int .i64 1,Qxd,Qxc,Qxe,Qxe,.string ⟨#[100]⟩,.int .i64 2,Qxd,Qxc,Qxe,Qxe,.string ⟨#[101]⟩,.int .i64 3,.string ⟨#[72,117,101]⟩,Qxc,Qxe,Qxe] 79 (0,0))/\Sl Zg (fun x=>w<x/\x≠J) wx (.slice kp kn kc) (if two then [[98],[97]] else [[97]]:List Bs)/\Below J J wx/\J+2<=wx.heap.size)
 case first=>
  by_cases ht:z1=0
  ·have h1:two=true:=by rw [H1.out,ht];rfl
   have hq:(z1==0)=true:=by rw [ht];rfl
   have k0:=cO.out
   have f2:=fA 2 k0;have y2:=rA2 k0
   have gK:=Z8 k0
   have eP:J.heap.size≠W6.heap.size:=Qvu
   clear k0
   go_wp2_with fail
   go_meet
   generalize Z:W6.setCell _ _=WX
   have hx:WX.heap[J.heap.size]?=some (.cells #[.string ⟨#[116]⟩,Qxa (J+1) 0 5 5,Qxa W6 0 2 2,Qxe,aK,.string aM,aL,.string aN,.slice aG aP aR,.slice aH aQ aS,.slice aI f39 aT,aJ,aO] 61 (0,0)):=by rw [<- Z,Qi _ _ _ _ _ _ cO.out];rfl
   have gP:WX.heap[J.heap.size+1]?=some (.cells #[.string ⟨#[97]⟩,Qxc,Qxd,Qxc,Qxe,Qxe,.string ⟨#[98]⟩,Qxc,Qxd,Qxc,Qxe,Qxe,.string ⟨#[99]⟩,.int .i64 1,Qxd,Qxc,Qxe,Qxe,.string ⟨#[100]⟩,.int .i64 2,Qxd,Qxc,Qxe,Qxe,.string ⟨#[101]⟩,.int .i64 3,.string ⟨#[72,117,101]⟩,Qxc,Qxe,Qxe] 79 (0,0)):=by rw [<- Z,Z9 (show J+1≠J.heap.size by omega)];exact dL.out
   have dB:WX.heap.size=W6.heap.size:=by rw [<- Z];simp [World.setCell]
   have cS:Below J J WX:=by rw [<- Z];exact cM.out.setCell (p:=⟨J,2,none⟩) (Q9 _) _
   rw [h1]
   exact ⟨_,_,_,Zb hx _,Zb gP _,Y2 (Y3 dB _) ⟨Qvu,Qvu⟩ (Pt _ _ [98] [97] Qxz Qxz) rfl rfl Qxz,cS.alloc Qvu _,by simp;omega⟩
  have h1:two=false:=by rw [H1.out];simpa using ht
  have hq:(z1==0)=false:=by simpa using ht
  go_wp2_with fail
  go_meet
  rw [h1]
  exact ⟨_,_,_,cO.out,dL.out,Y2 (Ky cM.out cW QK.out) ⟨by have:=aD.out;omega,Qvu⟩ (Dq [97] Qxz) rfl rfl Qxz,cM.out,Qvu⟩
 obtain ⟨kp,kn,kc,hT,eC,eD,hB,hZ⟩:=hcut
 obtain ⟨U,rfl⟩:∃ U,U=wc:=⟨_,rfl⟩
 obtain ⟨HT,fJ,fT,fH⟩:=Qxo hT eC eD hB;have hR:J.heap.size+2<=U.heap.size:=hZ
 have dK:=Qq (bG.out.thn hB)
 have q1:=Ky hB u1 Q1.out;have q2:=Ky hB u2 Q2.out;have q4:=Ky hB u4 Q4.out
 have t0:=Z8 q1;have t2:=Z8 q2
 clear a0 a1 a2 a3 a4 c0 c1 c2 c3 c4 hT eC eD hB hZ u0 u1 u2 u4
 obtain ⟨a0,a1,a2,a3,a4⟩:=row5 q1
 obtain ⟨c0,c1,c2,c3,c4⟩:=row5 q2
 have hM:=Qq q1;have hN:=Qq q4
 clear q1 q2 q4
 go_upto_if 48 with (go_at_call 28;refine (fX.out _ (Zs (Zs (Zs dK.out _) _) _)).mono ?_;rintro e w' ⟨rfl,rfl⟩)
 generalize D:World.alloc (World.alloc (World.alloc U _) _) _=W9
 have bA:=eqB D (Zs (Zs (Ze U _) _) _)
 have cJ:W9=U.heap.size+3:=by rw [<- D];simp
 have k2:=eqH (b:=U.heap.size) D (Zb (Zb (Y3 rfl _) _) _)
 have k3:=eqH (b:=U.heap.size+1) D (Zb (Y3 Qxz _) _)
 have k4:=eqH (b:=U.heap.size+1+1) D (Y3 Qxz _)
 clear D
 obtain ⟨fO,fP,fQ,dJ,hL⟩:=Qxp k2 k3 k4 bA cJ
 have cQ:=Qq (kB bA HT.out)
 have hS:U.heap.size+3<=W9.heap.size:=Qvu
 have cC:=Qq (fH.out.trans (bA.mono Qvu))
 clear k2 k3 k4 bA cJ
 go_cut [] from 47 (fun wx=>∃ rp rn rc,wx.heap[J.heap.size]?=some (.cells #[.string ⟨#[116]⟩,Qxa (J+1) 0 5 5,.slice kp kn kc,.slice rp rn rc,aK,.string aM,aL,.string aN,.slice aG aP aR,.slice aH aQ aS,.slice aI f39 aT,aJ,aO] 61 (0,0))/\Sl Fw (fun x=>w<x/\x≠J) wx (.slice rp rn rc) (if ref then [⟨[98],[117]⟩] else []:List Rf)/\(∀ c,c≠J.heap.size->c<W9.heap.size->wx.heap[c]?=W9.heap[c]?)/\Below J J wx/\W9<=wx.heap.size)
 case first=>
  by_cases ht:0<z2
  ·have h2:ref=true:=by rw [H2.out];simpa using ht
   have k0:=cQ.out
   have f3:=fA 3 k0;have y3:=rA3 k0
   have gK:=Z8 k0
   have eP:J.heap.size≠W9.heap.size:=Qvu
   clear k0
   go_wp2_with fail
   go_meet
   generalize Z:W9.setCell _ _=WX
   have hx:WX.heap[J.heap.size]?=some (.cells #[.string ⟨#[116]⟩,Qxa (J+1) 0 5 5,.slice kp kn kc,Qxa W9 0 1 1,aK,.string aM,aL,.string aN,.slice aG aP aR,.slice aH aQ aS,.slice aI f39 aT,aJ,aO] 61 (0,0)):=by rw [<- Z,Qi _ _ _ _ _ _ cQ.out];rfl
   have dB:WX.heap.size=W9.heap.size:=by rw [<- Z];simp [World.setCell]
   have gL:∀ c,c≠J.heap.size->WX.heap[c]?=W9.heap[c]?:=fun c hc=>by rw [<- Z,Z9 hc]
   have cS:Below J J WX:=by rw [<- Z];exact cC.out.setCell (p:=⟨J,3,none⟩) (Q9 _) _
   rw [h2]
   exact ⟨_,_,_,Zb hx _,Y2 (r:=Fw) (xs:=[(⟨[98],[117]⟩:Rf)]) (Y3 dB _) ⟨Qvu,Qvu⟩ (Cs.one (r:=Fw) (x:=(⟨[98],[117]⟩:Rf)) (c:=[.string ⟨#[98]⟩,.string ⟨#[117]⟩]) ⟨rfl,Qxz,Qxz⟩) rfl rfl Qxz,fun c h1 h2=>((Ze WX _).block c Qvu).trans (gL c h1),cS.alloc Qvu _,by simp;omega⟩
  have h2:ref=false:=by rw [H2.out];simpa using ht
  go_wp2_with fail
  go_meet
  rw [h2]
  exact ⟨_,_,_,cQ.out,Sl.nil _ _ _,fun c _ _=>rfl,cC.out,Q9 _⟩
 obtain ⟨rp,rn,rc,hT,eE,N,hB,hZ⟩:=hcut
 obtain ⟨A,rfl⟩:∃ A,A=wc:=⟨_,rfl⟩
 have eB:A.heap[J.heap.size+1]?=some (.cells #[.string ⟨#[97]⟩,Qxc,Qxd,Qxc,Qxe,Qxe,.string ⟨#[98]⟩,Qxc,Qxd,Qxc,Qxe,Qxe,.string ⟨#[99]⟩,.int .i64 1,Qxd,Qxc,Qxe,Qxe,.string ⟨#[100]⟩,.int .i64 2,Qxd,Qxc,Qxe,Qxe,.string ⟨#[101]⟩,.int .i64 3,.string ⟨#[72,117,101]⟩,Qxc,Qxe,Qxe] 79 (0,0)):=(N _ Qvu Qvu).trans (kE dJ.out Qvu fJ.out)
 have eS:A.heap[U.heap.size]?=some (.cells #[.string ⟨#[107]⟩,Qxc,Qxd,Qxc,Qxe,Qxe,.string ⟨#[110]⟩,.int .i64 1,Qxd,Qxc,Qxe,Qxe] 79 (0,0)):=(N _ Qvu Qvu).trans fO.out
 have eT:A.heap[U.heap.size+1]?=some (.cells #[.string ⟨#[107]⟩] 9 (0,0)):=(N _ Qvu Qvu).trans fP.out
 have cX:A.heap[U.heap.size+1+1]?=some (.cells #[.string ⟨#[117]⟩,Qxa U 0 2 2,Qxa (U+1) 0 1 1,Qxe,.int .i64 2,Qxd,.int .i64 1,Qxd,Qxe,Qxe,Qxe,Qxc,Qxc] 61 (0,0)):=(N _ Qvu Qvu).trans fQ.out
 have eN:Sl Zg (fun x=>w<x/\x≠J) A (.slice kp kn kc) (if two then [[98],[97]] else [[97]]:List Bs):=fT.out.frame (fun c hc aW=>(N c hc.2 Qvu).trans (dJ.out.block c aW))
 have hue:=Ky hB (Z8 Q4.out) Q4.out;have bC:=Ky hB (Z8 Q1.out) Q1.out;have eK:=Ky hB (Z8 Q3.out) Q3.out;have T:=Ky hB (Z8 Q0.out) Q0.out
 have eG:Zl.R (fun x=>w<x/\x<A) A [.string ⟨#[116]⟩,Qxa (J+1) 0 5 5,.slice kp kn kc,.slice rp rn rc,aK,.string aM,aL,.string aN,.slice aG aP aR,.slice aH aQ aS,.slice aI f39 aT,aJ,aO] ⟨[116],[⟨[97],Gen.whole⟩,⟨[98],Gen.whole⟩,⟨[99],Gen.text⟩,⟨[100],Gen.yesno⟩,⟨[101],Gen.hueT⟩],if two then [[98],[97]] else [[97]],if ref then [⟨[98],[117]⟩] else [],Gen.check k⟩:=by
  refine ⟨_,_,_,_,rfl,Qxz,?_,eN.mono (fun c hb h=>⟨h.1,hb⟩),eE.mono (fun c hb h=>⟨h.1,hb⟩),(fK.out.move (.of_below hB) (fun c hb h=>⟨by have h':(W3.alloc (.cells #[.string ⟨#[97]⟩] 9)).heap.size<=c:=h;have:=aD.out;simp at h';omega,Qvu⟩))⟩
  exact Y2 eB ⟨Qvu,Qvu⟩ (((((Cs.one (r:=Xw) (Uz [97] 0 [] Qxz Qxz)).app (Cs.one (r:=Xw) (Uz [98] 0 [] Qxz Qxz))).app (Cs.one (r:=Xw) (Uz [99] 1 [] Qxz Qxz))).app (Cs.one (r:=Xw) (Uz [100] 2 [] Qxz Qxz))).app (Cs.one (r:=Xw) (Uz [101] 3 [72,117,101] Qxz Qxz))) rfl rfl Qxz
 have eH:Zl.R (fun x=>w<x/\x<A) A [.string ⟨#[117]⟩,Qxa U 0 2 2,Qxa (U+1) 0 1 1,Qxe,.int .i64 2,Qxd,.int .i64 1,Qxd,Qxe,Qxe,Qxe,Qxc,Qxc] ⟨[117],[⟨[107],Gen.whole⟩,⟨[110],Gen.text⟩],[[107]],[],Gen.yes⟩:=by
  refine ⟨_,_,_,_,rfl,Qxz,?_,?_,Sl.nil _ _ _,P6 _ _ none none none 0 0 0⟩
  ·exact Y2 eS ⟨Qvu,Qvu⟩ ((Cs.one (r:=Xw) (Uz [107] 0 [] Qxz Qxz)).app (Cs.one (r:=Xw) (Uz [110] 1 [] Qxz Qxz))) rfl rfl Qxz
  exact Y2 eT ⟨Qvu,Qvu⟩ (Dq [107] Qxz) rfl rfl Qxz
 obtain ⟨dU,dV,gZ,bW,fZ,gA⟩:=Qxr eG eH hB eK T bC
 have bE:=Qq (bG.out.thn hB)
 have z0:=Z8 hT;have z2:=Z8 cX;have z4:=Z8 hue;have z5:=Z8 T
 clear a0 a1 a2 a3 a4 c0 c1 c2 c3 c4 eG eH eB eS eT eN eE N hB eK T bC t0 t2
 obtain ⟨p0,p1,p2,p3,p4,p5,p6,p7,p8,p9,gS,gT,gU⟩:=row13 hT
 obtain ⟨q0,q1,q2,q3,q4,q5,q6,q7,q8,q9,gV,gW,gX⟩:=row13 cX
 obtain ⟨m0,m1⟩:=row2 hue
 clear hT cX hue
 go_upto_if 60 with (go_at_call 28;refine (fY.out _ (Zs (Zs (Zs bE.out _) _) _)).mono ?_;rintro e w' ⟨rfl,rfl⟩)
 generalize D:World.alloc (World.alloc (World.alloc A _) _) _=I
 have aB:=eqB D (Zs (Zs (Ze A _) _) _)
 have bP:I=A.heap.size+3:=by rw [<- D];simp
 have k5:=eqH (b:=A.heap.size) D (Zb (Zb (Y3 rfl _) _) _)
 have k6:=eqH (b:=A.heap.size+1) D (Zb (Y3 Qxz _) _)
 have k7:=eqH (b:=A.heap.size+1+1) D (Y3 Qxz _)
 clear D
 obtain ⟨dN,dO,cP,aC,hD⟩:=Qxp k5 k6 k7 aB bP
 have bF:=Qq (bE.out.thn aB)
 have hI:A.heap.size+3<=I.heap.size:=Qvu
 have T:=kE aB z5 fZ.out
 have y0:=Qk _ _ 0 _ _ _ T;have y1:=Qk _ _ 1 _ _ _ T;have dZ:=fA 0 T;have eA:=fA 1 T
 simp only [Qf,Qg,Qh] at y0 y1
 have cD:=Qq T
 clear aB bP T p0 p1 p2 p3 p4 p5 p6 p7 p8 p9 gS gT gU q0 q1 q2 q3 q4 q5 q6 q7 q8 q9 gV gW gX m0 m1
 by_cases ht:z3=0
 ·have h3:third=true:=by rw [H3.out,ht];rfl
  have hq:(z3==0)=true:=by rw [ht];rfl
  have bC:=kB aC.out gA.out
  have hQ:=Z8 bC
  have k7:=cP.out
  clear y0 y1 dZ eA
  obtain ⟨a0,a1,a2,a3,a4⟩:=row5 bC
  obtain ⟨s0,s1⟩:=row2 k7
  have gN:=Z8 k7
  clear bC k7
  go_upto_region 14 with fail
  generalize D:World.alloc (World.alloc (World.alloc (World.alloc I _) _) _) _=O
  have M:=eqB D (Zs (Zs (Zs (Ze I _) _) _) _)
  have bQ:O=I.heap.size+4:=by rw [<- D];simp
  have k8:=eqH (b:=I.heap.size) D (Zb (Zb (Zb (Y3 rfl _) _) _) _)
  have k9:=eqH (b:=I.heap.size+1) D (Zb (Zb (Y3 Qxz _) _) _)
  have eU:=eqH (b:=I.heap.size+1+1) D (Zb (Y3 Qxz _) _)
  have eV:=eqH (b:=I.heap.size+1+1+1) D (Y3 Qxz _)
  clear D
  obtain ⟨cB,hE,fR,fS,dM⟩:=Qxp M bQ k8 k9 eU
  have cN:=Qq (bF.out.thn M)
  have hJ:I.heap.size+4<=O.heap.size:=Qvu
  have bX:=kE M gN cP.out
  have eM:=kB M dO.out
  have bO:=kB M cD.out
  have dP:=Qq bX;have dS:=Qq bO
  have aA:=aC.out.thn M
  have aY:Zl.R (fun x=>(fun x=>w.heap.size<x/\x≠A.heap.size+1+1) x/\x≠A+1) O [.string ⟨#[116]⟩,Qxa (J+1) 0 5 5,.slice kp kn kc,.slice rp rn rc,aK,.string aM,aL,.string aN,.slice aG aP aR,.slice aH aQ aS,.slice aI f39 aT,aJ,aO] ⟨[116],[⟨[97],Gen.whole⟩,⟨[98],Gen.whole⟩,⟨[99],Gen.text⟩,⟨[100],Gen.yesno⟩,⟨[101],Gen.hueT⟩],if two then [[98],[97]] else [[97]],if ref then [⟨[98],[117]⟩] else [],Gen.check k⟩:=Zl.mono (Zl.frame dU.out (fun c hc aW=>aA.block c aW)) (fun c _ h=>⟨⟨h.1,by have:=h.2;omega⟩,by have:=h.2;omega⟩)
  have aZ:Zl.R (fun x=>(fun x=>w.heap.size<x/\x≠A.heap.size+1+1) x/\x≠A+1) O [.string ⟨#[117]⟩,Qxa U 0 2 2,Qxa (U+1) 0 1 1,Qxe,.int .i64 2,Qxd,.int .i64 1,Qxd,Qxe,Qxe,Qxe,Qxc,Qxc] ⟨[117],[⟨[107],Gen.whole⟩,⟨[110],Gen.text⟩],[[107]],[],Gen.yes⟩:=Zl.mono (Zl.frame dV.out (fun c hc aW=>aA.block c aW)) (fun c _ h=>⟨⟨h.1,by have:=h.2;omega⟩,by have:=h.2;omega⟩)
  have dQ:=Qq (C9 (r:=Zl) (S:=(fun x=>w<x/\x≠A+1+1)) (B:=A.heap.size) (n:=2) (xs:=[⟨[116],[⟨[97],Gen.whole⟩,⟨[98],Gen.whole⟩,⟨[99],Gen.text⟩,⟨[100],Gen.yesno⟩,⟨[101],Gen.hueT⟩],if two then [[98],[97]] else [[97]],if ref then [⟨[98],[117]⟩] else [],Gen.check k⟩,⟨[117],[⟨[107],Gen.whole⟩,⟨[110],Gen.text⟩],[[107]],[],Gen.yes⟩]) eM (Nat.le_succ _) ((Cs.one (r:=Zl) aY).app (Cs.one (r:=Zl) aZ)) rfl rfl Qxz)
  have hV:Zl.R (But (fun x=>w<x/\x≠A+1+1) (.slice (some ⟨A+1,0,none⟩) 2 2)) O [.string ⟨#[118]⟩,Qxa I 0 2 2,Qxa (I+1) 0 1 1,Qxa (I+1+1) 0 2 2,.int .i64 2,Qxd,.int .i64 1,Qxd,Qxe,Qxe,Qxe,Qxc,Qxc] ⟨[118],[⟨[120],Gen.whole⟩,⟨[121],Gen.whole⟩],[[120]],[⟨[121],[118]⟩,⟨[120],[117]⟩],Gen.yes⟩:=by
   refine ⟨_,_,_,_,rfl,Qxz,?_,?_,?_,P6 _ _ none none none 0 0 0⟩
   ·exact Y2 fR.out ⟨⟨Qvu,Qvu⟩,fun e=>by have e':I=A.heap.size+1:=Qb e;omega⟩ ((Cs.one (r:=Xw) (Uz [120] 0 [] Qxz Qxz)).app (Cs.one (r:=Xw) (Uz [121] 0 [] Qxz Qxz))) rfl rfl Qxz
   ·exact Y2 fS.out ⟨⟨Qvu,Qvu⟩,fun e=>by have e':I+1=A.heap.size+1:=Qb e;omega⟩ (Dq [120] Qxz) rfl rfl Qxz
   exact Y2 (r:=Fw) (xs:=[(⟨[121],[118]⟩:Rf),⟨[120],[117]⟩]) dM.out ⟨⟨Qvu,Qvu⟩,fun e=>by have e':I+1+1=A.heap.size+1:=Qb e;omega⟩ ((Cs.one (r:=Fw) (x:=(⟨[121],[118]⟩:Rf)) (c:=[.string ⟨#[121]⟩,.string ⟨#[118]⟩]) ⟨rfl,Qxz,Qxz⟩).app (Cs.one (r:=Fw) (x:=(⟨[120],[117]⟩:Rf)) (c:=[.string ⟨#[120]⟩,.string ⟨#[117]⟩]) ⟨rfl,Qxz,Qxz⟩)) rfl rfl Qxz
  have HV:=Qq hV
  have eO:w.heap.size<O.heap.size:=Z8 bO
  have cT:A.heap.size+1+1<O.heap.size:=Z8 bX
  have eR:some (A.heap.size+1+1)≠(Value.slice (some ⟨A+1,0,none⟩) 2 2).ownBlock:=fun e=>by have e':A+1+1=A.heap.size+1:=Qb e;omega
  have eQ:some w.heap.size≠(Value.slice (some ⟨A+1,0,none⟩) 2 2).ownBlock:=fun e=>by have e':w=A.heap.size+1:=Qb e;omega
  have fV:=Qq eR;have fU:=Qq eQ
  clear a0 a1 a2 a3 a4 s0 s1 k8 k9 eU M bQ aY aZ hV eM bO aA eR eQ
  obtain ⟨s0,s1⟩:=row2 bX
  obtain ⟨v0,v1,v2,v3,v4,v5,v6,v7,v8,v9,hU,hW,hX⟩:=row13 eV
  clear bX eV
  go_wp2_with (at_builtin;refine Yf (r:=Zl) Qxv rfl (.tmp 73) (.tmp 75) _ rfl 61 i0 (.agg zT) 224 underlying25 HJ.out fL.out fM.out fN.out rfl Qvu (fun x=>w<x/\x≠A+1+1) A O (.slice (some ⟨A+1,0,none⟩) 2 2) [⟨[116],[⟨[97],Gen.whole⟩,⟨[98],Gen.whole⟩,⟨[99],Gen.text⟩,⟨[100],Gen.yesno⟩,⟨[101],Gen.hueT⟩],if two then [[98],[97]] else [[97]],if ref then [⟨[98],[117]⟩] else [],Gen.check k⟩,⟨[117],[⟨[107],Gen.whole⟩,⟨[110],Gen.text⟩],[[107]],[],Gen.yes⟩] _ [.string ⟨#[118]⟩,Qxa I 0 2 2,Qxa (I+1) 0 1 1,Qxa (I+1+1) 0 2 2,.int .i64 2,Qxd,.int .i64 1,Qxd,Qxe,Qxe,Qxe,Qxc,Qxc] ⟨[118],[⟨[120],Gen.whole⟩,⟨[121],Gen.whole⟩],[[120]],[⟨[121],[118]⟩,⟨[120],[117]⟩],Gen.yes⟩ rfl dQ.out rfl HV.out (by simp [Value.oneCell']) 2 rfl Qvu Qvu ?_;intro eW dX gG dC cE aX;have aF:=(aX.other _ cT fV.out).trans dP.out;have s0:=Qk _ _ 0 _ _ _ aF;have s1:=Qk _ _ 1 _ _ _ aF;have hP:=fA 1 aF;have V:=(aX.other _ eO fU.out).trans dS.out;have y0:=Qk _ _ 0 _ _ _ V;have y1:=Qk _ _ 1 _ _ _ V;have dZ:=fA 0 V;have eA:=fA 1 V;simp only [Qf,Qg,Qh] at s0 s1 y0 y1;obtain ⟨hA,dT,dR,bH⟩:=Qxo aF V cE aX;have cU:w≠A.heap.size+1+1:=Qvu;clear aF V cE aX)
  generalize aV:((dC.setCell _ _).setCell _ _).setCell _ _=WF
  have cV:WF.heap[w.heap.size]?=some (.cells #[Qxa A 0 1 1,.slice eW (2+1) dX] 27 (0,0)):=by
   rw [<- aV]
   exact Qi _ _ 1 _ _ _ (Qi _ _ 0 _ _ _ ((Z9 cU).trans dT.out))
  have aE:∀ b,b≠w.heap.size->b≠A.heap.size+1+1->WF.heap[b]?=dC.heap[b]?:=fun b hb gJ=>by rw [<- aV,Z9 hb,Z9 hb,Z9 gJ]
  have cR:Below w w WF:=by
   rw [<- aV]
   exact ((((cN.out.trans (bH.out.below.mono Qvu)).setCell (p:=⟨A+1+1,1,none⟩) (by show w<=A.heap.size+1+1;omega) _).setCell (p:=⟨w,0,none⟩) (Q9 _) _).setCell (p:=⟨w,1,none⟩) (Q9 _) _)
  have bN:=Z8 bW.out
  have N:∀ b,b≠A.heap.size+1->b<O.heap.size->dC.heap[b]?=O.heap[b]?:=fun b hb aW=>bH.out.other b aW (fun e=>hb (Qb e))
  have o5:WF.heap[A.heap.size]?=_:=(aE _ Qvu Qvu).trans ((N _ Qvu Qvu).trans (kE cB.out Qvu dN.out))
  have oc:WF.heap[w.heap.size+1+1+1]?=_:=(aE _ Qvu Qvu).trans ((N _ Qvu Qvu).trans (kE cB.out Qvu ((aC.out.block _ bN).trans bW.out)))
  have eF:=dR.out.sl' (S':=(fun x=>w<x/\x≠A+1+1)) Qxz (fun b hb=>by
   rcases bH.out.at' with e | ⟨g,e,hg⟩
   ·rw [e] at hb
    have e':A.heap.size+1=b:=Qb hb
    exact ⟨Qvu,Qvu⟩
   rw [e] at hb
   have e':g=b:=Qb hb
   exact ⟨Qvu,Qvu⟩) Qyv
  have gH:=(eF.frame (w':=WF) (fun b hb _=>aE b (by have:=hb.1;omega) hb.2)).mono (S':=fun b=>w<=b) (fun b _ h=>Nat.le_of_lt h.1)
  have cF:=fun j=>Qk _ _ j _ _ _ cV
  have bI:=cF 0;have bJ:=cF 1
  simp only [Qf,Qg,Qh] at bI bJ
  refine Q7 (v:=.agg #[Qxa A 0 1 1,.slice eW (2+1) dX]) (by simp [results,results5,go_sem,bI,bJ]) rfl ⟨_,rfl,⟨_,_,rfl,?_,?_⟩,cR⟩
  ·refine Y2 (r:=Ka) (xs:=[Gen.hue]) o5 (by show w.heap.size<=_;omega) (Cs.one (r:=Ka) (c:=[.string ⟨#[72,117,101]⟩,.slice (some ⟨w+1+1+1,0,none⟩) 2 2]) ⟨_,rfl,by simp [Gen.hue],?_⟩) rfl rfl Qxz
   exact Y2 (r:=Mp) (xs:=Gen.hue.ctors) oc (by show w.heap.size<=_;omega) ((Cs.one (r:=Mp) (O8 [82,101,100] false 0 Qxz)).app (Cs.one (r:=Mp) (O8 [68,97,114,107] true 0 Qxz))) rfl rfl (by simp [Gen.hue])
  rw [h3]
  exact gH
 have h3:third=false:=by rw [H3.out];simpa using ht
 have hq:(z3==0)=false:=by simpa using ht
 have k7:=cP.out
 obtain ⟨s0,s1⟩:=row2 k7
 clear k7
 go_wp2_with fail
 generalize aV:(I.setCell _ _).setCell _ _=WF
 have cV:WF.heap[w.heap.size]?=some (.cells #[Qxa A 0 1 1,Qxa (A+1) 0 2 2] 27 (0,0)):=by
  rw [<- aV]
  exact Qi _ _ 1 _ _ _ (Qi _ _ 0 _ _ _ cD.out)
 have aE:∀ b,b≠w.heap.size->WF.heap[b]?=I.heap[b]?:=fun b hb=>by rw [<- aV,Z9 hb,Z9 hb]
 have cR:Below w w WF:=by rw [<- aV];exact (bF.out.setCell (p:=⟨w,0,none⟩) (Q9 _) _).setCell (p:=⟨w,1,none⟩) (Q9 _) _
 have bN:=Z8 bW.out
 have o5:=(aE _ Qvu).trans dN.out;have o6:=(aE _ Qvu).trans dO.out
 have oc:=(aE (w+1+1+1) Qvu).trans (kE aC.out bN bW.out)
 have eL:∀ c,w.heap.size<c/\c<A.heap.size->WF.heap[c]?=A.heap[c]?:=fun c hc=>(aE c Qvu).trans (aC.out.block c hc.2)
 have aY:Zl.R (fun x=>w<=x) WF [.string ⟨#[116]⟩,Qxa (J+1) 0 5 5,.slice kp kn kc,.slice rp rn rc,aK,.string aM,aL,.string aN,.slice aG aP aR,.slice aH aQ aS,.slice aI f39 aT,aJ,aO] ⟨[116],[⟨[97],Gen.whole⟩,⟨[98],Gen.whole⟩,⟨[99],Gen.text⟩,⟨[100],Gen.yesno⟩,⟨[101],Gen.hueT⟩],if two then [[98],[97]] else [[97]],if ref then [⟨[98],[117]⟩] else [],Gen.check k⟩:=Zl.mono (Zl.frame dU.out (fun c hc _=>eL c hc)) (fun c _ h=>by have:=h.1;show w<=c;omega)
 have aZ:Zl.R (fun x=>w<=x) WF [.string ⟨#[117]⟩,Qxa U 0 2 2,Qxa (U+1) 0 1 1,Qxe,.int .i64 2,Qxd,.int .i64 1,Qxd,Qxe,Qxe,Qxe,Qxc,Qxc] ⟨[117],[⟨[107],Gen.whole⟩,⟨[110],Gen.text⟩],[[107]],[],Gen.yes⟩:=Zl.mono (Zl.frame dV.out (fun c hc _=>eL c hc)) (fun c _ h=>by have:=h.1;show w<=c;omega)
 have cF:=fun j=>Qk _ _ j _ _ _ cV
 have bI:=cF 0;have bJ:=cF 1
 simp only [Qf,Qg,Qh] at bI bJ
 refine Q7 (v:=.agg #[Qxa A 0 1 1,Qxa (A+1) 0 2 2]) (by simp [results,results5,go_sem,bI,bJ]) rfl ⟨_,rfl,⟨_,_,rfl,?_,?_⟩,cR⟩
 ·refine Y2 (r:=Ka) (xs:=[Gen.hue]) o5 (by show w.heap.size<=_;omega) (Cs.one (r:=Ka) (c:=[.string ⟨#[72,117,101]⟩,.slice (some ⟨w+1+1+1,0,none⟩) 2 2]) ⟨_,rfl,by simp [Gen.hue],?_⟩) rfl rfl Qxz
  exact Y2 (r:=Mp) (xs:=Gen.hue.ctors) oc (by show w.heap.size<=_;omega) ((Cs.one (r:=Mp) (O8 [82,101,100] false 0 Qxz)).app (Cs.one (r:=Mp) (O8 [68,97,114,107] true 0 Qxz))) rfl rfl (by simp [Gen.hue])
 rw [h3]
 exact Y2 (r:=Zl) (xs:=[⟨[116],[⟨[97],Gen.whole⟩,⟨[98],Gen.whole⟩,⟨[99],Gen.text⟩,⟨[100],Gen.yesno⟩,⟨[101],Gen.hueT⟩],if two then [[98],[97]] else [[97]],if ref then [⟨[98],[117]⟩] else [],Gen.check k⟩,⟨[117],[⟨[107],Gen.whole⟩,⟨[110],Gen.text⟩],[[107]],[],Gen.yes⟩]) o6 (by show w.heap.size<=_;omega) ((Cs.one (r:=Zl) aY).app (Cs.one (r:=Zl) aZ)) rfl rfl Qxz
theorem Cx (a b c d e f g h i j k l:Value) (w:World):(Instr.field 69 (.agg #[a,b,c,d,e,f,g,h,i,j,k,l]) 0).run prog w=.ok a w:=by
 simp [Instr.field,go_sem,part,asAgg]
theorem pair_bd {a b:Int} (h:(-1000<=a/\a<=1000)/\-1000<=b/\b<=1000):∀ p ∈ [((1:Int),(3:Int)),(a,b)],(-1000<=p.1/\p.1<=1000)/\-1000<=p.2/\p.2<=1000:=by
 intro p hp
 simp at hp
 rcases hp with rfl | rfl
 ·decide
 exact h
def LvSt (w:World) (l:List (Int × Int)) (e:Ending) (w':World):Prop:=∃ p cap,e=.returned (.slice p 2 cap)/\Sl Yx (fun _=>True) w' (.slice p 2 cap) (Law.st l)/\Below w w w'
def CodeIs (w:World) (q:Int) (e:Ending) (w':World):Prop:=∃ a1 a2 a3 a4 a5 a6 a7 a8 a9 a10 a11:Value,e=.returned (.agg #[q,a1,a2,a3,a4,a5,a6,a7,a8,a9,a10,a11])/\Below w w w'
theorem Ep (S0 S1:Nat->Prop) (cs:List Value) (lv:Value) (l:List (Int × Int)) (q:Int) (w:World) (hs:Vj S0 w cs Law.sc) (hl:Sl Yx S1 w lv (Law.st l)) (hkw:Vp w) (hll:l.length<=1000) (hb:∀ p ∈ l,(-1000<=p.1/\p.1<=1000)/\-1000<=p.2/\p.2<=1000)
  (hi:Ul (l.map fun p=>Law.rT p.1 p.2)=true) (hq:∀ f,J6 Law.sc.tables.length (Law.cf l) (fun i=>((Law.sc.tables[i]?).getD Tbl.zero).name) f->f.code=q):
  Calls prog 25 #[cs,lv] w (CodeIs w q):=by
 refine (checkOk S0 S1 Law.sc cs lv (Law.st l) _ _ _ w hs hl hkw Qxv (Law.st_ok l hll hb)).mono ?_
 rintro e w' ⟨f,h1,_,D,rfl,hf,A⟩
 obtain ⟨p3,k3,p4,k4,q3,l3,q4,l4,rfl,_⟩:=Uu hf
 have:=hq f (h1 (Law.st_norm l hi))
 refine ⟨.string ⟨f.table.toArray⟩,.int .i64 f.row.kind,.int .i64 f.row.n,.string ⟨f.row.s.toArray⟩,.slice p3 f.row.names.length k3,.slice p4 f.row.kids.length k4,.int .i64 f.other.kind,.int .i64 f.other.n,.string ⟨f.other.s.toArray⟩,.slice q3 f.other.names.length l3,.slice q4 f.other.kids.length l4,?_,A⟩
 rw [<- this]
 rfl
theorem Qjp (w:World) (hkw:Vp w):Calls prog 19 #[] w fun e w'=>e=.returned (.bool true)/\Below w w w':=by
 have mixed:(prog).follows .mixedOrders=true:=Qxx
 go_enter func19,ntmps19
 go_upto_region 6 with fail
 obtain ⟨W6,I⟩:=eX ((World.alloc (World.alloc (World.alloc (World.alloc (World.alloc (World.alloc (World.alloc (World.alloc (World.alloc (World.alloc (World.alloc (World.alloc w (.cells zY 65)) (.cells #[.string ⟨#[107]⟩,Qxc,Qxd,Qxc,Qxe,Qxe] 79)) (.cells #[.string ⟨#[107]⟩] 9)) (.cells #[.string ⟨#[117]⟩,Qxa (w+1) 0 1 1,Qxa (w+1+1) 0 1 1,Qxe,.int .i64 2,Qxd,.int .i64 1,Qxd,Qxe,Qxe,Qxe,Qxc,Qxc] 61)) (.cells #[.int .i64 3,.string ⟨#[97]⟩,Qxc,Qxd,Qxe,Qxe,Qxe,Qxc,Qxc,.int .i64 3,.string ⟨#[98]⟩,Qxc,Qxd,Qxe,Qxe,Qxe,Qxc,Qxc] 59)) (.cells #[.int .i64 14,.string ⟨#[60]⟩,Qxc,Qxd,Qxe,Qxe,Qxa (w+1+1+1+1) 0 2 2,Qxc,Qxc] 59)) (.cells #[.string ⟨#[97]⟩,Qxc,Qxd,Qxc,Qxe,Qxe,.string ⟨#[98]⟩,Qxc,Qxd,Qxc,Qxe,Qxe] 79)) (.cells #[.string ⟨#[97]⟩] 9)) (.cells #[.string ⟨#[98]⟩,.string ⟨#[117]⟩] 82)) (.cells #[.string ⟨#[116]⟩,Qxa (w+1+1+1+1+1+1) 0 2 2,Qxa (w+1+1+1+1+1+1+1) 0 1 1,Qxa (w+1+1+1+1+1+1+1+1) 0 1 1,.int .i64 14,.string ⟨#[60]⟩,Qxc,Qxd,Qxe,Qxe,Qxa (w+1+1+1+1) 0 2 2,Qxc,Qxc] 61)) (.cells #[.string ⟨#[116]⟩,Qxa (w+1+1+1+1+1+1) 0 2 2,Qxa (w+1+1+1+1+1+1+1) 0 1 1,Qxa (w+1+1+1+1+1+1+1+1) 0 1 1,.int .i64 14,.string ⟨#[60]⟩,Qxc,Qxd,Qxe,Qxe,Qxa (w+1+1+1+1) 0 2 2,Qxc,Qxc,.string ⟨#[117]⟩,Qxa (w+1) 0 1 1,Qxa (w+1+1) 0 1 1,Qxe,.int .i64 2,Qxd,.int .i64 1,Qxd,Qxe,Qxe,Qxe,Qxc,Qxc] 61)) (.cells #[Qxe,Qxa (w+1+1+1+1+1+1+1+1+1+1) 0 2 2] 27)))
 have k1:=eqH (b:=w.heap.size+1) I (Zb (Zb (Zb (Zb (Zb (Zb (Zb (Zb (Zb (Zb (Y3 Qxz _) _) _) _) _) _) _) _) _) _) _)
 have k2:=eqH (b:=w.heap.size+1+1) I (Zb (Zb (Zb (Zb (Zb (Zb (Zb (Zb (Zb (Y3 Qxz _) _) _) _) _) _) _) _) _) _)
 have k4:=eqH (b:=w.heap.size+1+1+1+1) I (Zb (Zb (Zb (Zb (Zb (Zb (Zb (Y3 Qxz _) _) _) _) _) _) _) _)
 have k6:=eqH (b:=w.heap.size+1+1+1+1+1+1) I (Zb (Zb (Zb (Zb (Zb (Y3 Qxz _) _) _) _) _) _)
 have k7:=eqH (b:=w.heap.size+1+1+1+1+1+1+1) I (Zb (Zb (Zb (Zb (Y3 Qxz _) _) _) _) _)
 have k8:=eqH (b:=w.heap.size+1+1+1+1+1+1+1+1) I (Zb (Zb (Zb (Y3 Qxz _) _) _) _)
 have bE:=eqH (b:=w.heap.size+1+1+1+1+1+1+1+1+1+1) I (Zb (Y3 Qxz _) _)
 have bF:=eqH (b:=w.heap.size+1+1+1+1+1+1+1+1+1+1+1) I (Y3 Qxz _)
 have bA:=eqB I (Zs (Zs (Zs (Zs (Zs (Zs (Zs (Zs (Zs (Zs (Zs (Ze w _) _) _) _) _) _) _) _) _) _) _) _)
 rw [I]
 have bD:Vj (fun b=>b<W6) W6 [Qxe,Qxa (w+1+1+1+1+1+1+1+1+1+1) 0 2 2] Law.sc:=by
  refine ⟨_,_,rfl,Sl.nil _ _ _,?_⟩
  refine Y2 (xs:=Law.sc.tables) bE (Z8 bE) ((Cs.one (r:=Zl) (c:=[.string ⟨#[116]⟩,.slice (some ⟨w+1+1+1+1+1+1,0,none⟩) 2 2,.slice (some ⟨w+1+1+1+1+1+1+1,0,none⟩) 1 1,.slice (some ⟨w+1+1+1+1+1+1+1+1,0,none⟩) 1 1,.int .i64 14,.string ⟨#[60]⟩,.int .i64 0,.string ⟨#[]⟩,.slice none 0 0,.slice none 0 0,.slice (some ⟨w+1+1+1+1,0,none⟩) 2 2,.int .i64 0,.int .i64 0]) (x:=Law.tT) ⟨_,_,_,_,rfl,by simp [Law.tT],?_,?_,?_,?_⟩).app (Cs.one (r:=Zl) (c:=[.string ⟨#[117]⟩,.slice (some ⟨w+1,0,none⟩) 1 1,.slice (some ⟨w+1+1,0,none⟩) 1 1,.slice none 0 0,.int .i64 2,.string ⟨#[]⟩,.int .i64 1,.string ⟨#[]⟩,.slice none 0 0,.slice none 0 0,.slice none 0 0,.int .i64 0,.int .i64 0]) (x:=Law.uT) ⟨_,_,_,_,rfl,by simp [Law.uT],?_,?_,Sl.nil _ _ _,P6 _ _ none none none 0 0 0⟩)) rfl rfl (by simp [Law.sc])
  ·exact Y2 (xs:=Law.tT.columns) k6 (Z8 k6) ((Cs.one (r:=Xw) (Uz [97] 0 [] Qxz Qxz)).app (Cs.one (r:=Xw) (Uz [98] 0 [] Qxz Qxz))) rfl rfl (by simp [Law.tT])
  ·exact Y2 (xs:=Law.tT.key) k7 (Z8 k7) (Dq [97] Qxz) rfl rfl (by simp [Law.tT])
  ·exact Y2 (xs:=Law.tT.refs) k8 (Z8 k8) (Cs.one (r:=Fw) (x:=⟨[98],[117]⟩) (c:=[.string ⟨#[98]⟩,.string ⟨#[117]⟩]) ⟨rfl,Qxz,Qxz⟩) rfl rfl (by simp [Law.tT])
  ·refine Xv (nm:=[60]) (s:=[]) Qxz Qxz (Sl.nil _ _ _) (Sl.nil _ _ _) ?_
   exact Y2 (xs:=[Gen.a,Gen.b]) k4 (Z8 k4) ((Cs.one (r:=Vw) (x:=Gen.var [97]) (show Y1 _ W6 [.int .i64 3,.string ⟨#[97]⟩,Qxc,Qxd,Qxe,Qxe,Qxe,Qxc,Qxc] (Gen.var [97]) from Xv (nm:=[97]) (s:=[]) Qxz Qxz (Sl.nil _ _ _) (Sl.nil _ _ _) (Sl.nil _ _ _))).app (Cs.one (r:=Vw) (x:=Gen.var [98]) (show Y1 _ W6 [.int .i64 3,.string ⟨#[98]⟩,Qxc,Qxd,Qxe,Qxe,Qxe,Qxc,Qxc] (Gen.var [98]) from Xv (nm:=[98]) (s:=[]) Qxz Qxz (Sl.nil _ _ _) (Sl.nil _ _ _) (Sl.nil _ _ _)))) rfl rfl Qxz
  ·exact Y2 (xs:=Law.uT.columns) k1 (Z8 k1) (Cs.one (r:=Xw) (Uz [107] 0 [] Qxz Qxz)) rfl rfl (by simp [Law.uT])
  exact Y2 (xs:=Law.uT.key) k2 (Z8 k2) (Dq [107] Qxz) rfl rfl (by simp [Law.uT])
 obtain ⟨c0,c1⟩:=row2 bF
 obtain ⟨cI,dM,aX,cA⟩:=Qxo bD bA bF (hkw.below bA)
 have bY:Hid (Calls prog 47 #[.agg #[Qxe,Qxa (w+1+1+1+1+1+1+1+1+1+1) 0 2 2]] W6 (P0 W6 [⟨[116],[]⟩,⟨[117],[]⟩])):=Qq ((Qqw _ Law.sc _ W6 bD Qxv Qxv).mono (fun e w' ⟨p,cap,he,hst,hb⟩=>⟨p,cap,he,hst.sl Qxv Qxv (fun _=>True) (fun _ _=>trivial) (fun _ _ _=>trivial),hb⟩))
 clear bD bA I hkw k1 k2 k4 k6 k7 k8 bE bF
 go_wp2_with fail
 refine bY.out.mono ?_
 rintro e w7 ⟨p7,cL,rfl,aP,cR⟩
 have cJ:=Qq aP;have dN:=Qq cR
 clear aP cR bY
 go_wp2_with fail
 obtain ⟨W8,aF⟩:=eX ((w7.alloc (.cells #[.string ⟨#[107]⟩] 9)).alloc (.cells #[Qxc,.int .i64 3,Qxd,Qxe,Qxe] 48))
 rw [aF]
 have bB:=eqB aF (Zu _ _ _)
 have cZ:Za (fun _=>True) W8 [.int .i64 4,Qxc,Qxd,Qxa w7 0 1 1,Qxa (w7+1) 0 1 1] (Law.rU 3):=by
  refine Yi (s:=[]) Qxz ?_ ?_
  ·exact Y2 (xs:=[[107]]) (show W8.heap[w7.heap.size]?=some _ by rw [<- aF];exact Q5 _ _ _) trivial (Dq [107] Qxz) rfl rfl Qxz
  exact Y2 (xs:=[Vr 3]) (show W8.heap[w7.heap.size+1]?=some _ by rw [<- aF];exact Q6 _ _ _) trivial (Cs.one (r:=Zc) (Ek _ W8 3)) rfl rfl Qxz
 have dO:=Qq (dN.out.thn bB)
 have bZ:Hid (Calls prog 46 #[.slice p7 2 cL,.string ⟨#[117]⟩,.agg #[.int .i64 4,Qxc,Qxd,Qxa w7 0 1 1,Qxa (w7+1) 0 1 1]] W8 (P0 W8 [⟨[116],[]⟩,⟨[117],[Law.rU 3]⟩])):=
  Qq (G8 _ _ _ [⟨[116],[]⟩,⟨[117],[]⟩] [117] (Law.rU 3) _ W8 1 ⟨[117],[]⟩ (cJ.out.below bB) cZ Qxv rfl Qxz Qxz Qxz)
 clear bB cZ aF
 refine bZ.out.mono ?_
 rintro e w9 ⟨p9,cM,rfl,aQ,cS⟩
 have cK:=Qq aQ;have O:=Qq (dO.out.thn cS)
 have cG:Hid (Calls prog 48 #[.string ⟨#[97]⟩,.int .i64 1,.string ⟨#[98]⟩,.int .i64 3] w9 (L9 w9 (Law.rT 1 3))):=Qq (By [97] [98] 1 3 w9 Qxz Qxz)
 clear aQ cS bZ
 go_wp2_with fail
 refine cG.out.mono ?_
 rintro e bG ⟨cx,rfl,aJ,aG⟩
 obtain ⟨x3,m3,x4,m4,V,_⟩:=Za.cells aJ
 simp only [vcs] at V
 subst V
 have bP:=Qq (O.out.thn aG)
 have aM:Hid (Calls prog 46 #[.slice p9 2 cM,.string ⟨#[116]⟩,.agg #[.int .i64 4,Qxc,Qxd,.slice x3 2 m3,.slice x4 2 m4]] bG (LvSt bG [(1,3)])):=
  Qq (G8 _ _ _ [⟨[116],[]⟩,⟨[117],[Law.rU 3]⟩] [116] (Law.rT 1 3) _ bG 0 ⟨[116],[]⟩ (cK.out.below aG) aJ Qxv rfl Qxz Qxz Qxz)
 clear aJ aG cG
 go_wp2_with fail
 refine aM.out.mono ?_
 rintro e bH ⟨dC,aC,rfl,aE,M⟩
 have aB:=Qq aE;have bQ:=Qq (bP.out.thn M)
 clear aE M aM
 have cD:Hid (Calls prog 48 #[.string ⟨#[97]⟩,.int .i64 1,.string ⟨#[98]⟩,.int .i64 4] bH (L9 bH (Law.rT 1 4))):=Qq (By [97] [98] 1 4 bH Qxz Qxz)
 go_wp2_with fail
 refine cD.out.mono ?_
 rintro e bI ⟨cx,rfl,hx,J⟩
 obtain ⟨y0,m0,z0,n0,V,_⟩:=Za.cells hx
 obtain rfl:cx=[.int .i64 4,.int .i64 0,.string ⟨#[]⟩,.slice y0 2 m0,.slice z0 2 n0]:=V
 obtain ⟨dT,bR,cH⟩:=Qxn hx (bQ.out.thn J) J
 clear hx J cD
 have cE:Hid (Calls prog 48 #[.string ⟨#[97]⟩,.int .i64 2,.string ⟨#[98]⟩,.int .i64 4] bI (L9 bI (Law.rT 2 4))):=Qq (By [97] [98] 2 4 bI Qxz Qxz)
 go_wp2_with fail
 refine cE.out.mono ?_
 rintro e bJ ⟨cx,rfl,hx,J⟩
 obtain ⟨y1,m1,z1,n1,V,_⟩:=Za.cells hx
 obtain rfl:cx=[.int .i64 4,.int .i64 0,.string ⟨#[]⟩,.slice y1 2 m1,.slice z1 2 n1]:=V
 obtain ⟨dU,bS,aN⟩:=Qxn hx (bR.out.thn J) J
 clear hx J cE
 have cF:Hid (Calls prog 48 #[.string ⟨#[97]⟩,.int .i64 5,.string ⟨#[98]⟩,.int .i64 3] bJ (L9 bJ (Law.rT 5 3))):=Qq (By [97] [98] 5 3 bJ Qxz Qxz)
 go_wp2_with fail
 refine cF.out.mono ?_
 rintro e Y ⟨cx,rfl,hx,J⟩
 obtain ⟨y2,m2,z2,n2,V,_⟩:=Za.cells hx
 obtain rfl:cx=[.int .i64 4,.int .i64 0,.string ⟨#[]⟩,.slice y2 2 m2,.slice z2 2 n2]:=V
 obtain ⟨dV,bT,aA⟩:=Qxn hx (bS.out.thn J) J
 clear hx J cF
 go_upto_region 10 with fail
 obtain ⟨aK,U⟩:=eX ((Y.alloc (.cells #[.int .i64 4,Qxc,Qxd,.slice y0 2 m0,.slice z0 2 n0,.int .i64 4,Qxc,Qxd,.slice y1 2 m1,.slice z1 2 n1,.int .i64 4,Qxc,Qxd,.slice y2 2 m2,.slice z2 2 n2] 48)).alloc (.cells #[.int .i64 11,.int .i64 12,.int .i64 13] 32))
 have N:=eqB U (Zu _ _ _)
 have aS:=eqH (b:=Y.heap.size) U (Q5 _ _ _)
 have aT:=eqH (b:=Y.heap.size+1) U (Q6 _ _ _)
 have D:=Qq (bT.out.thn N)
 have d0:=kD D.out (Z8 aX.out) c0
 have d1:=kD D.out (Z8 aX.out) c1
 have M:=((cH.out.thn aN.out).thn aA.out).thn N
 have bX:=Qq (Ep _ _ [Qxe,Qxa (w+1+1+1+1+1+1+1+1+1+1) 0 2 2] (.slice dC 2 aC) [(1,3)] 0 aK (cI.out.below D.out) (aB.out.below M) (cA.out.below D.out) Qxv Qxv (Law.inc1 1 3) (fun f h=>Law.code0 h))
 obtain ⟨cB,cC,aV⟩:=Qxn aS aT M
 obtain ⟨dW,dX,dY⟩:=Qxn (Za.move (S':=fun _=>True) dT.out (.of_below ((aN.out.thn aA.out).thn N)) (fun _ _ _=>trivial)) (Za.move (S':=fun _=>True) dU.out (.of_below (aA.out.thn N)) (fun _ _ _=>trivial)) (Za.move (S':=fun _=>True) dV.out (.of_below N) (fun _ _ _=>trivial))
 rw [U]
 clear N aS aT M U c0 c1
 go_wp2_with fail
 refine bX.out.mono ?_
 rintro e eM ⟨a1,a2,a3,a4,a5,a6,a7,a8,a9,a10,a11,rfl,aR⟩
 have cV:=fun W=>Cx (.int .i64 0) a1 a2 a3 a4 a5 a6 a7 a8 a9 a10 a11 W
 have bU:=Qq aR
 clear aR bX
 go_wp2_with fail
 go_loopw [9] (fun i wr=>∃ k:Nat,k<=3/\i=.int .i64 k/\Below aK aK wr) (fun i _=>3 - (intOf i).toNat)
 case atStart=>exact ⟨0,Q8 _,rfl,bU.out⟩
 obtain ⟨k,eK,rfl,cN⟩:=hrel
 have T:=Qq cN
 clear cN
 by_cases hlt:k<3
 ·have bC:∃ (a b q:Int) (yy:Option Addr) (mm:Nat) (Z:Option Addr) (nn:Nat),(∀ (j:Nat) (u:Value),[.int .i64 4,.int .i64 0,.string ⟨#[]⟩,.slice yy 2 mm,.slice Z 2 nn][j]?=some u->(#[.int .i64 4,.int .i64 0,.string ⟨#[]⟩,.slice y0 2 m0,.slice z0 2 n0,.int .i64 4,.int .i64 0,.string ⟨#[]⟩,.slice y1 2 m1,.slice z1 2 n1,.int .i64 4,.int .i64 0,.string ⟨#[]⟩,.slice y2 2 m2,.slice z2 2 n2]:Array Value)[k*5+j]?=some u)/\(#[.int .i64 11,.int .i64 12,.int .i64 13]:Array Value)[k]?=some (.int .i64 q) /\
    Za (fun _=>True) aK [.int .i64 4,Qxc,Qxd,.slice yy 2 mm,.slice Z 2 nn] (Law.rT a b)/\eqv (Law.rT 1 3) (Law.rT a b)=false/\decide (0<Yk (Law.rT 1 3) (Law.rT a b))=false/\((-1000<=a/\a<=1000)/\-1000<=b/\b<=1000)/\Ul ([(1,3),(a,b)].map fun p=>Law.rT p.1 p.2)=true /\
    ∀ f,J6 Law.sc.tables.length (Law.cf [(1,3),(a,b)]) (fun i=>((Law.sc.tables[i]?).getD Tbl.zero).name) f->f.code=q:=by
   match k,hlt with
  | 0,_=>exact ⟨1,4,11,y0,m0,z0,n0,fun j u A=>(by
    match j,A with
    | 0,A=>exact A
    | 1,A=>exact A
    | 2,A=>exact A
    | 3,A=>exact A
    | 4,A=>exact A),rfl,dW.out,Qxv,Qxv,Qxv,(Law.inc2 1 3 1 4 Qxv),fun f h=>Law.code1 h⟩
  | 1,_=>exact ⟨2,4,12,y1,m1,z1,n1,fun j u A=>(by
    match j,A with
    | 0,A=>exact A
    | 1,A=>exact A
    | 2,A=>exact A
    | 3,A=>exact A
    | 4,A=>exact A),rfl,dX.out,Qxv,Qxv,Qxv,(Law.inc2 1 3 2 4 Qxv),fun f h=>Law.code2 h⟩
  | 2,_=>exact ⟨5,3,13,y2,m2,z2,n2,fun j u A=>(by
    match j,A with
    | 0,A=>exact A
    | 1,A=>exact A
    | 2,A=>exact A
    | 3,A=>exact A
    | 4,A=>exact A),rfl,dY.out,Qxv,Qxv,Qxv,(Law.inc2 1 3 5 3 Qxv),fun f h=>Law.code3 h⟩
  obtain ⟨a,b,q,yy,mm,Z,nn,cU,cT,dA,cY,cW,cQ,cX,aH⟩:=bC
  have eI:(0:Int)<=(k:Int):=Qvu
  have eJ:(k:Int)<3:=Qvu
  have hq:(q != q)=false:=Qxz
  have hM:=kB T.out cB.out
  have hN:=kB T.out cC.out
  have cP:=D.out.thn T.out
  have cO:=kB cP aX.out
  refine let_mvar% ?Lq1:=fun w':World=>Qxw w' (w+1+1+1+1+1+1+1+1+1+1+1) 0 Qxe/\Qxw w' (w+1+1+1+1+1+1+1+1+1+1+1) 1 (Qxa (w+1+1+1+1+1+1+1+1+1+1) 0 2 2)/\Qyb w' Y (k*5) (.int .i64 4) Qxc Qxd (.slice yy 2 mm) (.slice Z 2 nn) (Qxw w' (Y+1) k q/\Below wr wr w');?_
  have HS:∀ w',Below wr wr w'->?Lq1 w':=by
   intro w' h
   have hm:=kB h hM
   have hn:=kB h hN
   have hk:=kB h cO
   have e:∀ (j:Nat) (u:Value),[.int .i64 4,.int .i64 0,.string ⟨#[]⟩,.slice yy 2 mm,.slice Z 2 nn][j]?=some u->w'.cell? ⟨Y,k*5+j,none⟩=some u:=fun j u A=>by rw [Qk _ _ _ _ _ _ hm];exact cU j u A
   exact ⟨by rw [Qk _ _ _ _ _ _ hk];rfl,by rw [Qk _ _ _ _ _ _ hk];rfl,e 0 _ rfl,e 1 _ rfl,e 2 _ rfl,e 3 _ rfl,e 4 _ rfl,by rw [Qk _ _ _ _ _ _ hn];exact cT,h⟩
  have O:∀ w',?Lq1 w'->Below wr wr w':=fun w' h=>h.2.2.2.2.2.2.2.2
  have aW:∀ w' aL,?Lq1 w'->Below w' w' aL->?Lq1 aL:=fun w' aL h h2=>HS aL ((O w' h).thn h2)
  have dR:=Qq (fun W' (h':?Lq1 W')=>(show Calls prog 46 #[.slice dC 2 aC,.string ⟨#[116]⟩,.agg #[.int .i64 4,Qxc,Qxd,.slice yy 2 mm,.slice Z 2 nn]] W' (LvSt W' [(1,3),(a,b)]) from G8 _ _ _ (Law.st [(1,3)]) [116] (Law.rT a b) _ W' 0 ⟨[116],[Law.rT 1 3]⟩ (aB.out.below (aV.out.thn (T.out.thn (O W' h')))) (Za.move dA (.of_below (T.out.thn (O W' h'))) Qyv) Qxv rfl
   (by intro y hy;simp at hy;subst hy;exact cY) (by intro y hy;simp at hy;subst hy;exact cW) (by intro r hr;simp [Law.st] at hr;rcases hr with rfl | rfl <;> simp)).mono (R':=fun e w2=>∃ p cap,e=.returned (.slice p 2 cap)/\Sl Yx (fun _=>True) w2 (.slice p 2 cap) (Law.st [(1,3),(a,b)])/\?Lq1 w2) (by
   rintro e w2 ⟨p,cap,rfl,h3,h4⟩
   exact ⟨p,cap,rfl,h3,aW _ _ h' h4⟩))
  have dP:=Qq (fun W' v (h':?Lq1 W') (hsl:Sl Yx (fun _=>True) W' v (Law.st [(1,3),(a,b)]))=>(Ep _ _ [Qxe,Qxa (w+1+1+1+1+1+1+1+1+1+1) 0 2 2] v [(1,3),(a,b)] q W' (cI.out.below (D.out.thn (T.out.thn (O W' h')))) hsl (cA.out.below (D.out.thn (T.out.thn (O W' h')))) Qxz (pair_bd cQ) cX aH).mono (R':=fun e w2=>(∃ a1 a2 a3 a4 a5 a6 a7 a8 a9 a10 a11:Value,e=.returned (.agg #[q,a1,a2,a3,a4,a5,a6,a7,a8,a9,a10,a11]))/\?Lq1 w2) (by
   rintro e w2 ⟨a1,a2,a3,a4,a5,a6,a7,a8,a9,a10,a11,rfl,h4⟩
   exact ⟨⟨a1,a2,a3,a4,a5,a6,a7,a8,a9,a10,a11,rfl⟩,aW _ _ h' h4⟩))
  have dQ:=Qq (HS wr.drew (Qz _ _).drew);have bW:=Qq O
  clear HS O aW cU cT dA cY cW cQ cX aH hM hN cP cO cV d0 d1
  go_wp2_with fail
  go_region_held3 ?Lq1 (first | with_reducible exact dQ.out | with_reducible exact aD | with_reducible exact aO)
   (first
    | (go_at_call 46;refine (dR.out _ Qxy).mono ?_;rintro e eN ⟨eL,dZ,rfl,aU,aO⟩)
    | (go_at_call 25;refine (dP.out _ _ Qxy aU).mono ?_;rintro e eO ⟨⟨a1,a2,a3,a4,a5,a6,a7,a8,a9,a10,a11,rfl⟩,aD⟩;have cV:=fun W=>Cx (.int .i64 q) a1 a2 a3 a4 a5 a6 a7 a8 a9 a10 a11 W))
  have bV:=Qq (bW.out _ aD)
  clear aD aO aU
  go_wp2_with fail
  go_roundw
  case measure=>simp [intOf];omega
  case rel=>exact ⟨k+1,Qvu,by go_num,T.out.thn bV.out⟩
 obtain rfl:k=3:=Qvu
 go_wp2_with fail
 go_ret
 exact ⟨rfl,dM.out.thn (D.out.thn T.out)⟩
end Go.Proofs.YtlanplhphiikjaaGreatDoor
