import Derived.Test.YtcljcblceodciaaGreatDoorU31
set_option maxRecDepth 100000
set_option maxHeartbeats 400000000
namespace Go.Proofs.YtcljcblceodciaaGreatDoor
open Go.RowKit Go.Shelf Go.Lib Tryz
theorem Te (S:Nat->Prop) (v:Value) (l:List Int) (w:World) (hs:Xd S w v l) (hi:Uh l) (hk:Yl l 0 13=7):
  Calls prog 26 #[v,Ci] w (Uo w (Gen.check 7)):=by
 have HP:=Qq (fun W (hb:Below w w W)=>Yn S v l 0 13 W (hs.below hb) hi C7 C7)
 rw [hk] at HP
 obtain ⟨p,cap,rfl,_⟩:=hs.len
 clear hs hi hk
 go_enter func26,ntmps26
 go_upto_region 8 with fail
 generalize aG:(((((((w.alloc _).alloc _).alloc _).alloc _).alloc _).alloc _).alloc _).alloc _=W8
 have cT:=eqB aG (Yj (Yj (Yj (Yj (Yj (Yj (Yj (Zg w _) _) _) _) _) _) _) _)
 have cX:W8=w.heap.size+8:=by rw [<- aG];simp
 have r8:=eqH (b:=w.heap.size) aG (Zb (Zb (Zb (Zb (Zb (Zb (Zb (Y3 rfl _) _) _) _) _) _) _) _)
 have ha:=eqH (b:=w.heap.size+1) aG (Zb (Zb (Zb (Zb (Zb (Zb (Y3 Ca _) _) _) _) _) _) _)
 have hb:=eqH (b:=w.heap.size+1+1) aG (Zb (Zb (Zb (Zb (Zb (Y3 Ca _) _) _) _) _) _)
 have bF:=eqH (b:=w.heap.size+1+1+1+1+1+1) aG (Zb (Y3 Ca _) _)
 have aM:w.heap.size<W8.heap.size:=C7
 have dR:w.heap.size≠W8.heap.size:=C7
 have dP:=Qq cX
 clear cX
 have bV:=Qq cT;have dE:=Qq r8
 clear aG cT r8
 obtain ⟨a0,a1,a2,a3,a4,a5,a6,a7,a8⟩:=row9 ha
 clear ha
 obtain ⟨b0,b1,b2,b3,b4,b5,b6,b7,b8⟩:=row9 hb
 clear hb
 obtain ⟨O,T,U,V,Y,Z,aA,aB,aC⟩:=row9 bF
 clear bF
 go_upto_region 22 with (go_at_call 27;refine (HP.out _ bV.out).mono ?_;rintro e w' ⟨rfl,rfl⟩)
 obtain ⟨aS,aT,aU,aV⟩:=Qjz True.intro True.intro True.intro True.intro
 go_upto_region 23 with (have hk:=aU.out;clear aU hk;generalize aW:World.alloc W8 _=W9;have A:=eqB aW (Zg _ _);have bE:=eqH (b:=W8.heap.size) aW (Qw _ _);have a0:=kC A a0;have a1:=kC A a1;have a2:=kC A a2;have a3:=kC A a3;have a4:=kC A a4;have a5:=kC A a5;have a6:=kC A a6;have a7:=kC A a7;have a8:=kC A a8;have b0:=kC A b0;have b1:=kC A b1;have b2:=kC A b2;have b3:=kC A b3;have b4:=kC A b4;have b5:=kC A b5;have b6:=kC A b6;have b7:=kC A b7;have b8:=kC A b8;have O:=kC A O;have T:=kC A T;have U:=kC A U;have V:=kC A V;have Y:=kC A Y;have Z:=kC A Z;have aA:=kC A aA;have aB:=kC A aB;have aC:=kC A aC;have bW:=Qq bE;have bD:=Qq A;clear aW bE A)
 generalize hW:(World.alloc W9 _).alloc _=aK
 have I:=eqB hW (Zu _ _ _)
 have cR:=eqH (b:=W9.heap.size) hW (Zb (Y3 rfl _) _)
 have cP:=eqH (b:=W9.heap.size+1) hW (Y3 Ca _)
 clear hW
 have O:=kC I O
 have T:=kC I T
 have U:=kC I U
 have V:=kC I V
 have Y:=kC I Y
 have Z:=kC I Z
 have aA:=kC I aA
 have aB:=kC I aB
 have aC:=kC I aC
 obtain ⟨r0,r1,r2,r3,r4,r5,r6,r7,r8⟩:=row9 cP
 have dB:=Qq (kB I bW.out)
 have aN:=Qq (bD.out.thn I);have cZ:=Qq cR
 clear I cR cP a0 b0 a1 b1 a2 b2 a3 b3 a4 b4 a5 b5 a6 b6 a7 b7 a8 b8
 go_upto_region 24 with (have hk:=aV.out;clear aV hk;generalize aH:World.alloc aK _=aO;have D:=eqB aH (Zg _ _);have aP:=eqH (b:=aK.heap.size) aH (Qw _ _);have r0:=kC D r0;have r1:=kC D r1;have r2:=kC D r2;have r3:=kC D r3;have r4:=kC D r4;have r5:=kC D r5;have r6:=kC D r6;have r7:=kC D r7;have r8:=kC D r8;have O:=kC D O;have T:=kC D T;have U:=kC D U;have V:=kC D V;have Y:=kC D Y;have Z:=kC D Z;have aA:=kC D aA;have aB:=kC D aB;have aC:=kC D aC;have bH:=Qq aP;have aF:=Qq D;clear aH aP D)
 generalize hW:(World.alloc aO _).alloc _=aL
 have G:=eqB hW (Zu _ _ _)
 have cS:=eqH (b:=aO.heap.size) hW (Zb (Y3 rfl _) _)
 have cQ:=eqH (b:=aO.heap.size+1) hW (Y3 Ca _)
 clear hW
 have r0:=kC G r0
 have r1:=kC G r1
 have r2:=kC G r2
 have r3:=kC G r3
 have r4:=kC G r4
 have r5:=kC G r5
 have r6:=kC G r6
 have r7:=kC G r7
 have r8:=kC G r8
 obtain ⟨t0,t1,t2,t3,t4,t5,t6,t7,t8⟩:=row9 cQ
 have dC:=Qq (kB G bH.out)
 have bC:=Qq (aF.out.thn G);have dA:=Qq cS
 have aE:=Qq (aN.out.thn (aF.out.thn G))
 have dO:w.heap.size<W9.heap.size:=Qa aM bD.out.size
 have cV:w.heap.size<aO.heap.size:=Qa aM (aN.out.thn aF.out).size
 clear G cS cQ O T U V Y Z aA aB aC
 have cU:w.heap.size<aK.heap.size:=Qa aM aN.out.size
 have aY:w.heap.size<aL.heap.size:=Qa aM aE.out.size
 have aZ:∀ W,Below aK aK W->Yx (fun b=>w<b) W [.int .i64 6,Cl,Ci,Cl,Cg W8 0 2 2,Cm,Cg W9 0 2 2,Ci,Ci] Gen.rec:=fun W hW=>Xj (nm:=[]) (s:=[]) Ca Ca (Y2 (xs:=[[121],[120]]) (kB hW dB.out) aM (N6 _ _ [121] [120] Ca Ca) rfl rfl Ca) (Sl.nil _ _ _) (Y2 (xs:=[Gen.a,Gen.b]) (kB hW cZ.out) dO ((Cs.one (r:=Xp) (Yk 3 [97] 0 [] Ca Ca)).app (Cs.one (r:=Xp) (Yk 3 [98] 0 [] Ca Ca))) rfl rfl Ca)
 have bG:∀ W,Below aL aL W->Yx (fun b=>w<b) W [.int .i64 7,Cl,Ci,Cl,Cg aK 0 1 1,Cm,Cg aO 0 2 2,Ci,Ci] Gen.wth:=fun W hW=>Xj (nm:=[]) (s:=[]) Ca Ca (Y2 (xs:=[[120]]) (kB hW dC.out) cU (Ky [120] Ca) rfl rfl Ca) (Sl.nil _ _ _) (Y2 (xs:=[Gen.rec,Gen.one]) (kB hW dA.out) cV ((Cs.one (r:=Xp) (aZ W (bC.out.thn hW))).app (Cs.one (r:=Xp) (Yk 0 [] 1 [] Ca Ca))) rfl rfl Ca)
 have bX:=Qq aZ;have bY:=Qq bG
 clear aZ bG
 go_wp2_with (first
   | (have hk:=aS.out;clear aS hk;generalize aI:World.alloc aL _=bK;have J:=eqB aI (Zg _ _);have aQ:=eqH (b:=aL.heap.size) aI (Qw _ _);have r0:=kC J r0;have r1:=kC J r1;have r2:=kC J r2;have r3:=kC J r3;have r4:=kC J r4;have r5:=kC J r5;have r6:=kC J r6;have r7:=kC J r7;have r8:=kC J r8;have bI:=Qq aQ;have M:=Qq J;clear aI aQ J)
   | (have hk:=aT.out;clear aT hk;generalize aJ:World.alloc bK _=dQ;have aX:=eqB aJ (Zg _ _);have aR:=eqH (b:=bK.heap.size) aJ (Qw _ _);have bJ:=Qq aR;have N:=Qq aX;clear aJ aR aX)
   | (go_at_call 84;refine (V0 w [60] _ _ [.int .i64 8,.string ⟨#[120]⟩,Ci,Cl,Cm,Cm,Cg aL 0 1 1,Ci,Ci] [.int .i64 8,.string ⟨#[121]⟩,Ci,Cl,Cm,Cm,Cg bK 0 1 1,Ci,Ci] _ Ca (Xj (nm:=[120]) (s:=[]) Ca Ca (Sl.nil _ _ _) (Sl.nil _ _ _) (Y2 (xs:=[Gen.wth]) (kB N.out bI.out) aY (Cs.one (r:=Xp) (x:=Gen.wth) (show Yx _ _ _ _ from bY.out _ (M.out.thn N.out))) rfl rfl Ca)) (Xj (nm:=[121]) (s:=[]) Ca Ca (Sl.nil _ _ _) (Sl.nil _ _ _) (Y2 (xs:=[Gen.rec]) bJ.out (Qa aY M.out.size) (Cs.one (r:=Xp) (x:=Gen.rec) (show Yx _ _ _ _ from bX.out _ (bC.out.thn (M.out.thn N.out)))) rfl rfl Ca)) (Qa aY (M.out.thn N.out).size)).mono ?_;rintro e w1 ⟨cE,cG,cF,cH,cA,cJ,cM,cB,cK,cN,cC,cL,cO,cD,cI,rfl,cW,bL⟩;have bA:=(((aE.out.thn (M.out.thn N.out)).thn bL).block _ aM).trans dE.out;obtain ⟨y0,y1,y2,y3,y4,y5,y6,y7,y8⟩:=row9 bA;obtain ⟨f0,f1,f2,f3,f4,f5,f6,f7,f8⟩:=frz9 bA;have dD:=Qq bA;clear bA;have H1:=Qq cW;have cY:=Qq bL;clear cW bL))
 show bodyPost _ _ _ _ _ (put9 w1 w cE (.string cG) cF (.string cH) (.slice cA cJ cM) (.slice cB cK cN) (.slice cC cL cO) cD cI)
 exact Q7 (v:=.agg (Cp cE cG cF cH cA cJ cM cB cK cN cC cL cO cD cI)) (by simp [results,results26,go_sem,Xb dD.out]) rfl (U3 H1.out (bV.out.thn (aE.out.thn (M.out.thn (N.out.thn cY.out)))) rfl)
def nmK:Nat->Bs
 | 0=>[121]
 | _=>[120]
def Mp:Nat->List Bs
 | 0=>[]
 | 1=>[[121]]
 | _=>[[120],[121]]
def Mh (u v:Val):Nat->List Val
 | 0=>[]
 | 1=>[u]
 | _=>[v,u]
theorem Et (k:Nat) (h:k<=2):(Mp k).length=k:=by match k,h with | 0,_=>rfl | 1,_=>rfl | 2,_=>rfl
theorem Fv (u v:Val) (k:Nat) (h:k<=2):(Mh u v k).length=k:=by match k,h with | 0,_=>rfl | 1,_=>rfl | 2,_=>rfl
theorem Wc (k:Nat) (h:k<2):J4 (Mp k) 0 (nmK k)=Mp (k+1):=by match k,h with | 0,_=>rfl | 1,_=>rfl
theorem Tp (u v:Val) (k:Nat) (h:k<2) {x:Val} (hx:[u,v][k]?=some x):J4 (Mh u v k) 0 x=Mh u v (k+1):=by
 match k,h,hx with
 | 0,_,hx=>cases hx;rfl
 | 1,_,hx=>cases hx;rfl
theorem nmK_word (k:Nat):Vy (nmK k):=by
 match k with
 | 0=>exact ⟨Cc,Cc,by intro c A;simp [nmK] at A;subst A;decide,Cc,Cc⟩
 | k+1=>exact ⟨by simp [nmK],by simp [nmK],by intro c A;simp [nmK] at A;subst A;decide,by simp [nmK];decide,by simp [nmK];decide⟩
theorem Jn {E:TypeId} {S S':Nat->Prop} {B:Nat} {w:World} {v:Value} {xs:List Bs} {css:List (List Value)} (h:Own Zh E S B w v xs css):Own Zh E S' B w v xs css:=⟨h.row,⟨h.cs.len,fun j c x hc hx=>h.cs.R j c x hc hx⟩⟩
theorem bs_k (k:Nat) (hk:k<2) (S:Nat->Prop) (p:Option Addr) (c:Nat) (W:World) (h:Sl Zh S W (.slice p k c) (Mp k)):
  Calls prog 170 #[.slice p k c,(nmK k)] W fun e w'=>e=.returned (.tuple #[Ci,.bool false])/\Below W W w':=by
 match k,hk with
 | 0,_=>
  have mixed:prog.follows .mixedOrders=true:=Cd
  clear h
  go_enter func170,ntmps170
  go_wp2_with fail
  go_loopw [7,8] (fun t7 t8 wr=>t7=.int .i64 0/\t8=.int .i64 0/\Aside (Below W W wr)) (fun _ _ _=>0)
  case atStart=>
   exact ⟨by first | rfl | go_num,by first | rfl | go_num,Qz _ _⟩
  obtain ⟨rfl,rfl,hb⟩:=hrel
  go_wp2_with fail
  go_ret2
  exact ⟨rfl,hb.out⟩
 | 1,_=>
  obtain ⟨b,A,rfl,hc,_⟩:=h.str (i:=0) (x:=[121]) rfl
  refine (Any2.slices_BinarySearch_string Tryz.laysBS b A 1 c (fun _=>⟨#[121]⟩) ⟨#[120]⟩ W C7 (fun j hj=>by
   obtain rfl:j=0:=C7
   exact hc)).mono ?_
  rintro e w' ⟨rfl,q,rfl⟩
  have e1:Op.bytesLess [121] [120]=false:=Cc
  refine ⟨?_,Yz _ _⟩
  simp [Lib.bsGo,ByteArray.toList_mk,e1]
def O0 (w:World) (u v:Val) (k:Nat) (wr:World):Prop:=
 ∃ np nc cssN kp kc cssV,wr.heap[w.heap.size+1]?=some (.cells #[.int .i64 4,Ci,Cl,.slice np k nc,.slice kp k kc] 36 (0,0))/\wr.heap[w.heap.size]?=some (.cells zV 36 (0,0)) /\
  Own Zh 9 (fun b=>w+2<=b) (w+2) wr (.slice np k nc) (Mp k) cssN/\Own Zd 36 (fun b=>w+2<=b/\some b≠(Value.ownBlock (.slice np k nc))) (w+2) wr (.slice kp k kc) (Mh u v k) cssV/\Below w w wr
theorem rec_xy (u v:Val):RecAt [[121],[120]] [u,v] (Vw [[120],[121]] [v,u]):=by
 intro S S' nv vv w eL eN eQ
 have hn:Sl Zh (fun b=>b<w) w nv [[121],[120]]:=eN.mono (fun b hb _=>hb)
 have hv:Sl Zd (fun b=>b<w) w vv [u,v]:=eQ.mono (fun b hb _=>hb)
 obtain ⟨ap,ac,rfl,_⟩:=hn.len
 obtain ⟨vp,vc,rfl,_⟩:=hv.len
 obtain ⟨HN,HV,fB⟩:=Qjq hn hv eL
 have mixed:prog.follows .mixedOrders=true:=Cd
 clear eN eQ hn hv eL
 show Calls prog 144 #[.slice ap 2 ac,.slice vp 2 vc] w _
 go_enter func144,ntmps144
 go_upto_region 4 with fail
 generalize cH:World.alloc _ _=W1
 have eJ:=eqB cH (Zu _ _ _)
 have eG:=eqH (b:=w.heap.size) cH (Q5 _ _ _)
 have eC:=eqH (b:=w.heap.size+1) cH (Q6 _ _ _)
 have HM:O0 w u v 0 W1:=⟨none,0,[],none,0,[],eC,eG,Own.nil _ _ _ _ _,Own.nil _ _ _ _ _,eJ⟩
 have dU:=Qq HM
 clear cH eJ eG eC HM
 go_wp2_with fail
 go_loopw [20] (fun dN wr=>∃ k:Nat,k<=2/\dN=.int .i64 k/\Aside (O0 w u v k wr)) (fun dN _=>2 - (intOf dN).toNat)
 case atStart=>exact ⟨0,Q8 _,rfl,dU.out⟩
 obtain ⟨k,dJ,rfl,hA⟩:=hrel
 obtain ⟨np,nc,dZ,kp,kc,eA,bE,bF,eE,eF,eB⟩:=hA.out
 obtain ⟨dT,dD,aR,dB,cD⟩:=Qjk bE bF eE eF eB
 have fI:=Z8 bE
 clear hA eE eF eB dU
 by_cases hlt:k<2
 ·have fR:(0:Int)<=(k:Int):=C7
  have fS:(k:Int)<2:=C7
  have eO:([[121],[120]]:List Bs)[k]?=some (nmK k):=by match k,hlt with | 0,_=>rfl | 1,_=>rfl
  obtain ⟨x,hx⟩:∃ x,[u,v][k]?=some x:=⟨_,Qx (by simpa using hlt)⟩
  obtain ⟨nb,fP,rfl,dL,eP⟩:=HN.out.str eO
  obtain ⟨vb,cA,x3,m3,x4,m4,rfl,bW,eR,d0,d1,d2,d3,d4⟩:=HV.out.val hx
  obtain ⟨fD,HX,dV⟩:=Qjq eR hx eP
  have dR:=Qq (fun W (h:Below w w W)=>(show (Qjr W vb (cA+k*5) x.kind x.n x.s (.slice x3 x.names.length m3) (.slice x4 x.kids.length m4):Prop) from ⟨kD h bW d0,kD h bW d1,kD h bW d2,kD h bW d3,kD h bW d4⟩))
  have cP:=Qq (by have h:=aR.out.sl (S':=(fun b=>w+2<=b)) (by rw [Et k dJ];omega) (fun b h=>h) (fun b _ h=>h);exact h:Sl Zh (fun b=>w+2<=b) wr (.slice np k nc) (Mp k))
  obtain ⟨nm,dM⟩:=eX (nmK k)
  have cG:=Qq (fun W (h:Below wr wr W)=>Ep (nmK k) (nmK_word k) W (fB.out.below (cD.out.thn h)))
  have cW:=Qq (fun W (h:Below wr wr W)=>bs_k k hlt _ np nc W (cP.out.below h))
  have dW:=Qq (Wc k hlt)
  have dL:=kC cD.out dL
  rw [dM] at cG cW dL dV dW
  unfold sv at cG
  have fQ:=Qq dM
  have rr:=fun j=>Qk _ _ j _ _ _ bE
  obtain ⟨r0,r1,r2,r3,r4⟩:=Qjw rr
  simp only [Qf,Qg,Qh] at r0 r1 r2 r3 r4
  clear rr
  clear bE bF hx eR eO dM eP d0 d1 d2 d3 d4 cP
  go_upto_region 12 with (first
   | (have h9:=cV.out;clear h9;go_at_call 116;refine (cG.out _ cV.out).mono ?_;rintro e w5 ⟨rfl,hb⟩;have bD:=Qq (cV.out.thn hb);clear hb)
   | (go_at_call 170;refine (cW.out _ (Qz _ _)).mono ?_;rintro e w4 ⟨rfl,hb⟩;have cV:=Qq hb;clear hb))
  have dF:=kE bD.out fI dT.out
  have cY:=Qq dF
  clear r0 r1 r2 r3 r4
  have rr:=fun j=>Qk _ _ j _ _ _ dF
  obtain ⟨r0,r1,r2,r3,r4⟩:=Qjw rr
  simp only [Qf,Qg,Qh] at r0 r1 r2 r3 r4
  clear rr
  have cZ:=Qq (insAnyS (fun b=>w+2<=b) (w+2) (w5.alloc (.cells #[nm] 9)) (.slice np k nc) (Mp k) dZ nm [nm] 0 w5 1 (aR.out.below (bD.out.thn (Zg _ _))) (Qw _ _) ⟨by have:=bD.out.size;omega,fun e=>by have:=(aR.out.row.lt _ e.symm).2;have:=bD.out.size;omega⟩ ⟨rfl,dV.out⟩ (Q8 _) (by rw [Et k dJ];omega) (by have:=bD.out.size;simp;omega))
  rw [dW.out] at cZ
  have eK:Below w5 w5 (w5.alloc (.cells #[nm] 9)):=Zg _ _
  have bK:=Qq (bD.out.thn eK)
  have bB:=Qq (dB.out.below bK.out);have cO:=Qq (aR.out.below bK.out)
  clear dF eK
  go_upto_region 13 with (go_at_call 171;refine cZ.out.mono ?_;rintro e w7 ⟨p7,c7,bN,rfl,dG,dI,bR⟩;have aZ:(Mp (k+1)).length=k+1:=Et (k+1) C7;rw [aZ] at dG bR |-;have eD:some (w.heap.size+1)≠(Value.slice np k nc).ownBlock:=(fun e=>by have:=(aR.out.row.lt _ e.symm).1;omega);have eM:w.heap.size+1<(w5.alloc (.cells #[nm] 9)).heap.size:=(Z8 (kB (Zg w5 _) cY.out));have cI:=(dI.block _ eM eD).trans (kB (Zg w5 _) cY.out);have dX:=Qq cI;have f3:=fA 3 cI;have t3:=rA3 cI;obtain ⟨dA,cE,dQ⟩:=Qjq dG dI bR;clear cI dG dI bR)
  have bG:=Qi _ _ 3 _ _ (.slice p7 (k+1) c7) dX.out
  have bV:∀ b,b≠w.heap.size+1->(w7.setCell ⟨w+1,3,none⟩ (.slice p7 (k+1) c7)).heap[b]?=w7.heap[b]?:=fun b hb=>Za hb
  simp only [List.setIfInBounds_toArray,List.set_cons_zero,List.set_cons_succ] at bG
  have eH:=(cE.out.block _ (by have:=Z8 dD.out;have:=bK.out.size;omega) (fun e=>by have:=(aR.out.row.lt _ e.symm).1;omega)).trans (kB bK.out dD.out)
  have cQ:Below w w w7:=by
   have hb:=cD.out.thn bK.out
   have hg:=cE.out
   exact ⟨hg.os.trans hb.os,hg.tape.trans hb.tape,hg.output.trans hb.output,Qc hb.size hg.size,fun b h=>(hg.block b (C8 hb.size) (fun e=>by have:=(aR.out.row.lt _ e.symm).1;omega)).trans (hb.block b h)⟩
  have bS:Below w w (w7.setCell ⟨w+1,3,none⟩ (.slice p7 (k+1) c7)):=cQ.setCell (p:=⟨w+1,3,none⟩) (by show w<=w.heap.size+1;omega) _
  have bP:=dA.out.move (w':=w7.setCell ⟨w+1,3,none⟩ (.slice p7 (k+1) c7)) (Q9 _) (fun b hb h=>bV b (by
   rcases h with h | h
   ·have h':w.heap.size+2<=b:=h
    omega
   have:=(dA.out.row.lt b h).1
   omega))
  have bQ:=((bB.out.wide (S':=fun b=>(w+2<=b/\some b≠(Value.slice np k nc).ownBlock)/\b<(w5.alloc (.cells #[nm] 9)).heap.size) (fun b hb h=>⟨h,hb⟩)).move (w':=w7.setCell ⟨w+1,3,none⟩ (.slice p7 (k+1) c7)) (Q9 _) (fun b hb h=>(bV b (by
   rcases h with h | h
   ·have:=h.1.1
    omega
   ·have:=(bB.out.row.lt b h).1
    omega)).trans (cE.out.block b hb (by
   rcases h with h | h
   ·exact h.1.2
   ·exact fun e=>Yh bB.out.row cO.out.row Cc h e.symm)))).wide (S':=(fun b=>w+2<=b/\some b≠(Value.ownBlock (.slice p7 (k+1) c7)))) (fun b hb h=>⟨h.1.1,fun e=>by
   rcases dQ.out with h7 | h7
   ·exact h.1.2 (by rw [<- h7];exact e)
   rw [h7] at e
   have e':=Qb e
   have:=h.2
   omega⟩)
  generalize World.setCell _ _ _=w8 at bG bV bS bP bQ |-
  have eI:=(bV _ C7).trans eH
  obtain ⟨dE,dC,G,T,aE⟩:=Qjk bG eI bS bP bQ
  have dK:=Z8 bG
  obtain ⟨d0,d1,d2,d3,d4⟩:=dR.out w8 bS
  have rr:=fun j=>Qk _ _ j _ _ _ bG
  obtain ⟨r0,r1,r2,r3,r4⟩:=Qjw rr
  simp only [Qf,Qg,Qh] at r0 r1 r2 r3 r4
  clear rr
  have fC:=Qq (Tp u v k hlt HX.out)
  have cX:=Qq (fun W (h:Below w8 w8 W)=>Fj x _ _ W (fD.out.move (.of_below (bS.thn h)) Qje))
  unfold vcs at cX
  have bA:=Qq (fun (w9:World) (y3 y4:Option Addr) (l3 l4:Nat) (h:Below w8 w8 w9) (hv:Z9 (fun b=>w8<=b) w9 (vcs x y3 l3 y4 l4) x)=>insAny (fun b=>w+2<=b/\some b≠(Value.ownBlock (.slice p7 (k+1) c7))) (w+2) (w9.alloc (.cells (Cn x y3 l3 y4 l4) 36)) (.slice kp k kc) (Mh u v k) eA x (Cn x y3 l3 y4 l4) 0 w9 1 (aE.out.below (h.thn (Zg _ _))) (Qw _ _)
   ⟨⟨by have:=h.size;omega,fun e=>by have:=(T.out.row.lt _ e.symm).2;have:=h.size;omega⟩,fun e=>by have:=(aE.out.row.lt _ e.symm).2;have:=h.size;omega⟩
   (Z9.move (Z9.move hv (.refl _ _) (fun b hb h1=>(⟨⟨C7,fun e=>by have:=(T.out.row.lt _ e.symm).2;omega⟩,fun e=>by have:=(aE.out.row.lt _ e.symm).2;omega⟩:But (fun b=>w+2<=b/\some b≠(Value.ownBlock (.slice p7 (k+1) c7))) (.slice kp k kc) b))) (.of_below (Zg _ _)) Qje) (Q8 _) (by rw [Fv u v k dJ];omega) (by have:=h.size;simp;omega))
  rw [fC.out] at bA
  clear bG eI bS bP bQ bV eH cQ dX cE dQ dA cO bB cZ cY aR dB dT dD cW cG
  have R4:=Qq r4
  have aD:=Qq (show ∀ W,Below w w W->(fun W=>((Qjr W vb (cA+k*5) x.kind x.n x.s (.slice x3 x.names.length m3) (.slice x4 x.kids.length m4):Prop))/\Below w w W) W from fun W h=>⟨dR.out W h,h⟩)
  refine wp_region_held_drew (S:=fun W=>((Qjr W vb (cA+k*5) x.kind x.n x.s (.slice x3 x.names.length m3) (.slice x4 x.kids.length m4):Prop))/\Below w w W) Cd (aD.out _ G.out.drew) (fun D=>?_)
  refine tkD (v:=?_) 0 (fun w0 Y=>?_) ?_;rotate_left
  ·(obtain ⟨⟨y0,y1,y2,y3,y4⟩,_⟩:=Y;go_simp;try with_reducible rfl)
  refine tkD (v:=?_) 2 (fun w0 Y=>?_) ?_;rotate_left
  ·(obtain ⟨⟨y0,y1,y2,y3,y4⟩,_⟩:=Y;go_simp;try with_reducible rfl)
  refine tkD (v:=?_) 3 (fun w0 Y=>?_) ?_;rotate_left
  ·(obtain ⟨⟨y0,y1,y2,y3,y4⟩,_⟩:=Y;go_simp;try with_reducible rfl)
  refine tkD (v:=?_) 4 (fun w0 Y=>?_) ?_;rotate_left
  ·(obtain ⟨⟨y0,y1,y2,y3,y4⟩,_⟩:=Y;go_simp;try with_reducible rfl)
  refine tkD (v:=?_) 5 (fun w0 Y=>?_) ?_;rotate_left
  ·(obtain ⟨⟨y0,y1,y2,y3,y4⟩,_⟩:=Y;go_simp;try with_reducible rfl)
  refine tkD (v:=?_) 6 (fun w0 Y=>?_) ?_;rotate_left
  ·(obtain ⟨⟨y0,y1,y2,y3,y4⟩,_⟩:=Y;go_simp;try with_reducible rfl)
  have aS:Hid (Below w8 w8 w8.drew):=Qq (Qz _ _).drew
  have fL:=aS.out.size
  generalize w8.drew=wd at D aS fL |-
  clear r0 r1 r2 r3 r4 d0 d1 d2 d3 d4
  refine rsD [1,7] ?_
  refine rcD (fun K O=>?_) ?_
  ·have b4:=kC aS.out R4.out
   go_simp
   clear b4
   try dsimp only
   refine O.out _ _ (aD.out _ (G.out.thn aS.out)) (fun D=>?_)
   clear O K
   refine rdD 7 (fun K O=>?_) ?_
   ·go_simp
    refine (cX.out _ aS.out).mono ?_
    rintro e w9 ⟨fF,rfl,hv,hb⟩
    obtain ⟨y3,l3,y4,l4,bT,_⟩:=Z9.cells hv
    simp only [vcs] at bT
    subst bT
    have aN:Hid (Below w8 w8 w9):=Qq (aS.out.thn hb)
    have cF:Hid (Z9 (fun b=>w8<=b) w9 (vcs x y3 l3 y4 l4) x):=Qq (Z9.move hv (.refl _ _) (fun b _ h=>by have h':wd.heap.size<=b:=h;show w8<=b;omega))
    clear hv hb
    try dsimp only
    refine O.out _ _ (aD.out _ (G.out.thn aN.out)) (fun D=>?_)
    clear O K
    refine rdD 8 (fun K O=>?_) ?_
    ·go_simp
     have aO:=bA.out w9 y3 y4 l3 l4 aN.out cF.out
     generalize aJ:World.alloc w9 (.cells (Cn x y3 l3 y4 l4) 36)=cB at aO |-
     have A:Below w8 w8 cB:=by rw [<- aJ];exact aN.out.thn (Zg _ _)
     have N:=Qq A;have aU:=Qq aO
     clear aJ A aO
     try dsimp only
     refine O.out _ _ (aD.out _ (G.out.thn N.out)) (fun D=>?_)
     clear O K
     refine rdD 9 (fun K O=>?_) ?_
     ·go_simp
      refine aU.out.mono ?_
      rintro e I ⟨p9,c9,aW,rfl,hO,hg,aX⟩
      have aZ:(Mh u v (k+1)).length=k+1:=Fv u v (k+1) C7
      rw [aZ] at hO aX |-
      have A:=N.out
      have aL:=A.size
      have M:∀ b,b<w.heap.size+2->some b≠(Value.slice kp k kc).ownBlock:=fun b hb e=>by have:=(aE.out.row.lt _ e.symm).1;omega
      have aK:Below w w I:=⟨hg.os.trans (A.os.trans G.out.os),hg.tape.trans (A.tape.trans G.out.tape),hg.output.trans (A.output.trans G.out.output),by have:=G.out.size;have:=hg.size;omega,fun b h=>(hg.block b (C8 G.out.size) (M b C7)).trans ((A.block b (C8 G.out.size)).trans (G.out.block b h))⟩
      have J:=(hg.block _ C7 (M (w+1) C7)).trans (kE A dK dE.out)
      obtain ⟨aV,aG,aT,aF⟩:=Qjz J hO hg aK
      have f4:=fA 4 J;have t4:=rA4 J
      clear J hO hg aX A aK
      try dsimp only
      refine O.out _ _ (aD.out _ aF.out) (fun D=>?_)
      clear O K
      refine tkD (v:=?_) 10 (fun w0 Y=>?_) ?_;rotate_left
      ·(obtain ⟨⟨y0,y1,y2,y3,y4⟩,_⟩:=Y;go_simp;try with_reducible rfl)
      refine rdD 11 (fun K O=>?_) Qo
      go_simp
      have Z:=Qi _ _ 4 _ _ (.slice p9 (k+1) c9) aV.out
      have aB:∀ b,b≠w.heap.size+1->(I.setCell ⟨w+1,4,none⟩ (.slice p9 (k+1) c9)).heap[b]?=I.heap[b]?:=fun b hb=>Za hb
      simp only [List.setIfInBounds_toArray,List.set_cons_zero,List.set_cons_succ] at Z
      have A:=N.out
      have aL:=A.size
      have aP:∀ b,b<w8.heap.size->some b≠(Value.slice kp k kc).ownBlock->(I.setCell ⟨w+1,4,none⟩ (.slice p9 (k+1) c9)).heap[b]?=w8.heap[b]?\/b=w.heap.size+1:=fun b hb bU=>by
       by_cases h:b=w.heap.size+1
       ·exact .inr h
       exact .inl ((aB b h).trans ((aT.out.block b C7 bU).trans (A.block b hb)))
      have aI:=((aP w C7 (M _ C7)).resolve_right C7).trans dC.out
      have aA:Below w w (I.setCell ⟨w+1,4,none⟩ (.slice p9 (k+1) c9)):=by
       exact aF.out.setCell (p:=⟨w+1,4,none⟩) (by show w<=w.heap.size+1;omega) _
      have U:=Jn (S':=(fun b=>w+2<=b)) ((Jn (S':=fun _=>False) T.out).move (w':=I.setCell ⟨w+1,4,none⟩ (.slice p9 (k+1) c9)) (Q9 _) (fun b hb h=>by
       rcases h with h | h
       ·exact h.elim
       have h1:=(T.out.row.lt b h).1
       exact (aP b hb (fun e=>Yh T.out.row aE.out.row Cc h e.symm)).resolve_right C7))
      have V:=aG.out.move (w':=I.setCell ⟨w+1,4,none⟩ (.slice p9 (k+1) c9)) (Q9 _) (fun b hb h=>aB b (by
       rcases h with h | h
       ·have:=h.1
        omega
       have:=(aG.out.row.lt b h).1
       omega))
      have HE:=Qq (show O0 w u v (k+1) (I.setCell ⟨w+1,4,none⟩ (.slice p9 (k+1) c9)) from ⟨p7,c7,bN,p9,c9,aW,Z,aI,U,V,aA⟩)
      have bL:=Qq aA
      clear Z aB A aP M aI aA U V aL
      refine O.out _ _ (aD.out _ bL.out) (fun D=>?_)
      refine wpAnyH_done Cd ?_ _
      clear O K D
      go_wp2_with fail
      go_roundw
      case measure=>simp [intOf];omega
      case rel=>exact ⟨k+1,C7,by go_num,HE.out⟩
     exact Qo
    exact Qo
   exact Qo
  refine rcD (fun K O=>?_) ?_
  ·go_simp
   refine (cX.out _ aS.out).mono ?_
   rintro e w9 ⟨fF,rfl,hv,hb⟩
   obtain ⟨y3,l3,y4,l4,bT,_⟩:=Z9.cells hv
   simp only [vcs] at bT
   subst bT
   have aN:Hid (Below w8 w8 w9):=Qq (aS.out.thn hb)
   have cF:Hid (Z9 (fun b=>w8<=b) w9 (vcs x y3 l3 y4 l4) x):=Qq (Z9.move hv (.refl _ _) (fun b _ h=>by have h':wd.heap.size<=b:=h;show w8<=b;omega))
   clear hv hb
   try dsimp only
   refine O.out _ _ (aD.out _ (G.out.thn aN.out)) (fun D=>?_)
   clear O K
   refine rsD [1,8] ?_
   refine rcD (fun K O=>?_) ?_
   ·have b4:=kC aN.out R4.out
    go_simp
    clear b4
    try dsimp only
    refine O.out _ _ (aD.out _ (G.out.thn aN.out)) (fun D=>?_)
    clear O K
    refine rdD 8 (fun K O=>?_) ?_
    ·go_simp
     have aO:=bA.out w9 y3 y4 l3 l4 aN.out cF.out
     generalize aJ:World.alloc w9 (.cells (Cn x y3 l3 y4 l4) 36)=cB at aO |-
     have A:Below w8 w8 cB:=by rw [<- aJ];exact aN.out.thn (Zg _ _)
     have N:=Qq A;have aU:=Qq aO
     clear aJ A aO
     try dsimp only
     refine O.out _ _ (aD.out _ (G.out.thn N.out)) (fun D=>?_)
     clear O K
     refine rdD 9 (fun K O=>?_) ?_
     ·go_simp
      refine aU.out.mono ?_
      rintro e I ⟨p9,c9,aW,rfl,hO,hg,aX⟩
      have aZ:(Mh u v (k+1)).length=k+1:=Fv u v (k+1) C7
      rw [aZ] at hO aX |-
      have A:=N.out
      have aL:=A.size
      have M:∀ b,b<w.heap.size+2->some b≠(Value.slice kp k kc).ownBlock:=fun b hb e=>by have:=(aE.out.row.lt _ e.symm).1;omega
      have aK:Below w w I:=⟨hg.os.trans (A.os.trans G.out.os),hg.tape.trans (A.tape.trans G.out.tape),hg.output.trans (A.output.trans G.out.output),by have:=G.out.size;have:=hg.size;omega,fun b h=>(hg.block b (C8 G.out.size) (M b C7)).trans ((A.block b (C8 G.out.size)).trans (G.out.block b h))⟩
      have J:=(hg.block _ C7 (M (w+1) C7)).trans (kE A dK dE.out)
      obtain ⟨aV,aG,aT,aF⟩:=Qjz J hO hg aK
      have f4:=fA 4 J;have t4:=rA4 J
      clear J hO hg aX A aK
      try dsimp only
      refine O.out _ _ (aD.out _ aF.out) (fun D=>?_)
      clear O K
      refine tkD (v:=?_) 10 (fun w0 Y=>?_) ?_;rotate_left
      ·(obtain ⟨⟨y0,y1,y2,y3,y4⟩,_⟩:=Y;go_simp;try with_reducible rfl)
      refine rdD 11 (fun K O=>?_) Qo
      go_simp
      have Z:=Qi _ _ 4 _ _ (.slice p9 (k+1) c9) aV.out
      have aB:∀ b,b≠w.heap.size+1->(I.setCell ⟨w+1,4,none⟩ (.slice p9 (k+1) c9)).heap[b]?=I.heap[b]?:=fun b hb=>Za hb
      simp only [List.setIfInBounds_toArray,List.set_cons_zero,List.set_cons_succ] at Z
      have A:=N.out
      have aL:=A.size
      have aP:∀ b,b<w8.heap.size->some b≠(Value.slice kp k kc).ownBlock->(I.setCell ⟨w+1,4,none⟩ (.slice p9 (k+1) c9)).heap[b]?=w8.heap[b]?\/b=w.heap.size+1:=fun b hb bU=>by
       by_cases h:b=w.heap.size+1
       ·exact .inr h
       exact .inl ((aB b h).trans ((aT.out.block b C7 bU).trans (A.block b hb)))
      have aI:=((aP w C7 (M _ C7)).resolve_right C7).trans dC.out
      have aA:Below w w (I.setCell ⟨w+1,4,none⟩ (.slice p9 (k+1) c9)):=by
       exact aF.out.setCell (p:=⟨w+1,4,none⟩) (by show w<=w.heap.size+1;omega) _
      have U:=Jn (S':=(fun b=>w+2<=b)) ((Jn (S':=fun _=>False) T.out).move (w':=I.setCell ⟨w+1,4,none⟩ (.slice p9 (k+1) c9)) (Q9 _) (fun b hb h=>by
       rcases h with h | h
       ·exact h.elim
       have h1:=(T.out.row.lt b h).1
       exact (aP b hb (fun e=>Yh T.out.row aE.out.row Cc h e.symm)).resolve_right C7))
      have V:=aG.out.move (w':=I.setCell ⟨w+1,4,none⟩ (.slice p9 (k+1) c9)) (Q9 _) (fun b hb h=>aB b (by
       rcases h with h | h
       ·have:=h.1
        omega
       have:=(aG.out.row.lt b h).1
       omega))
      have HE:=Qq (show O0 w u v (k+1) (I.setCell ⟨w+1,4,none⟩ (.slice p9 (k+1) c9)) from ⟨p7,c7,bN,p9,c9,aW,Z,aI,U,V,aA⟩)
      have bL:=Qq aA
      clear Z aB A aP M aI aA U V aL
      refine O.out _ _ (aD.out _ bL.out) (fun D=>?_)
      refine wpAnyH_done Cd ?_ _
      clear O K D
      go_wp2_with fail
      go_roundw
      case measure=>simp [intOf];omega
      case rel=>exact ⟨k+1,C7,by go_num,HE.out⟩
     exact Qo
    exact Qo
   refine rcD (fun K O=>?_) ?_
   ·go_simp
    have aO:=bA.out w9 y3 y4 l3 l4 aN.out cF.out
    generalize aJ:World.alloc w9 (.cells (Cn x y3 l3 y4 l4) 36)=cB at aO |-
    have A:Below w8 w8 cB:=by rw [<- aJ];exact aN.out.thn (Zg _ _)
    have N:=Qq A;have aU:=Qq aO
    clear aJ A aO
    try dsimp only
    refine O.out _ _ (aD.out _ (G.out.thn N.out)) (fun D=>?_)
    clear O K
    refine rdD 1 (fun K O=>?_) ?_
    ·have b4:=kC N.out R4.out
     go_simp
     clear b4
     try dsimp only
     refine O.out _ _ (aD.out _ (G.out.thn N.out)) (fun D=>?_)
     clear O K
     refine rdD 9 (fun K O=>?_) ?_
     ·go_simp
      refine aU.out.mono ?_
      rintro e I ⟨p9,c9,aW,rfl,hO,hg,aX⟩
      have aZ:(Mh u v (k+1)).length=k+1:=Fv u v (k+1) C7
      rw [aZ] at hO aX |-
      have A:=N.out
      have aL:=A.size
      have M:∀ b,b<w.heap.size+2->some b≠(Value.slice kp k kc).ownBlock:=fun b hb e=>by have:=(aE.out.row.lt _ e.symm).1;omega
      have aK:Below w w I:=⟨hg.os.trans (A.os.trans G.out.os),hg.tape.trans (A.tape.trans G.out.tape),hg.output.trans (A.output.trans G.out.output),by have:=G.out.size;have:=hg.size;omega,fun b h=>(hg.block b (C8 G.out.size) (M b C7)).trans ((A.block b (C8 G.out.size)).trans (G.out.block b h))⟩
      have J:=(hg.block _ C7 (M (w+1) C7)).trans (kE A dK dE.out)
      obtain ⟨aV,aG,aT,aF⟩:=Qjz J hO hg aK
      have f4:=fA 4 J;have t4:=rA4 J
      clear J hO hg aX A aK
      try dsimp only
      refine O.out _ _ (aD.out _ aF.out) (fun D=>?_)
      clear O K
      refine tkD (v:=?_) 10 (fun w0 Y=>?_) ?_;rotate_left
      ·(obtain ⟨⟨y0,y1,y2,y3,y4⟩,_⟩:=Y;go_simp;try with_reducible rfl)
      refine rdD 11 (fun K O=>?_) Qo
      go_simp
      have Z:=Qi _ _ 4 _ _ (.slice p9 (k+1) c9) aV.out
      have aB:∀ b,b≠w.heap.size+1->(I.setCell ⟨w+1,4,none⟩ (.slice p9 (k+1) c9)).heap[b]?=I.heap[b]?:=fun b hb=>Za hb
      simp only [List.setIfInBounds_toArray,List.set_cons_zero,List.set_cons_succ] at Z
      have A:=N.out
      have aL:=A.size
      have aP:∀ b,b<w8.heap.size->some b≠(Value.slice kp k kc).ownBlock->(I.setCell ⟨w+1,4,none⟩ (.slice p9 (k+1) c9)).heap[b]?=w8.heap[b]?\/b=w.heap.size+1:=fun b hb bU=>by
       by_cases h:b=w.heap.size+1
       ·exact .inr h
       exact .inl ((aB b h).trans ((aT.out.block b C7 bU).trans (A.block b hb)))
      have aI:=((aP w C7 (M _ C7)).resolve_right C7).trans dC.out
      have aA:Below w w (I.setCell ⟨w+1,4,none⟩ (.slice p9 (k+1) c9)):=by
       exact aF.out.setCell (p:=⟨w+1,4,none⟩) (by show w<=w.heap.size+1;omega) _
      have U:=Jn (S':=(fun b=>w+2<=b)) ((Jn (S':=fun _=>False) T.out).move (w':=I.setCell ⟨w+1,4,none⟩ (.slice p9 (k+1) c9)) (Q9 _) (fun b hb h=>by
       rcases h with h | h
       ·exact h.elim
       have h1:=(T.out.row.lt b h).1
       exact (aP b hb (fun e=>Yh T.out.row aE.out.row Cc h e.symm)).resolve_right C7))
      have V:=aG.out.move (w':=I.setCell ⟨w+1,4,none⟩ (.slice p9 (k+1) c9)) (Q9 _) (fun b hb h=>aB b (by
       rcases h with h | h
       ·have:=h.1
        omega
       have:=(aG.out.row.lt b h).1
       omega))
      have HE:=Qq (show O0 w u v (k+1) (I.setCell ⟨w+1,4,none⟩ (.slice p9 (k+1) c9)) from ⟨p7,c7,bN,p9,c9,aW,Z,aI,U,V,aA⟩)
      have bL:=Qq aA
      clear Z aB A aP M aI aA U V aL
      refine O.out _ _ (aD.out _ bL.out) (fun D=>?_)
      refine wpAnyH_done Cd ?_ _
      clear O K D
      go_wp2_with fail
      go_roundw
      case measure=>simp [intOf];omega
      case rel=>exact ⟨k+1,C7,by go_num,HE.out⟩
     exact Qo
    exact Qo
   exact Qo
  exact Qo
 have fH:k=2:=C7
 subst fH
 have HR:=Qq bF
 have rr:=fun j=>Qk _ _ j _ _ _ bE
 obtain ⟨x0,x1,x2,x3,x4⟩:=Qjw rr
 simp only [Qf,Qg,Qh] at x0 x1 x2 x3 x4
 clear rr
 have fz:=fun j=>Qn _ _ j _ _ bF
 obtain ⟨f0,f1,f2,f3,f4⟩:=Qjw fz
 have rr:=fun j=>Qk _ _ j _ _ _ bF
 obtain ⟨r0,r1,r2,r3,r4⟩:=Qjw rr
 simp only [Qf,Qg,Qh] at r0 r1 r2 r3 r4
 clear rr fz
 clear bE bF
 go_wp2_with fail
 show bodyPost _ _ _ _ _ (Zi wr w (.int .i64 4) Ci Cl (.slice np 2 nc) (.slice kp 2 kc))
 refine Q7 (v:=.tuple #[.agg #[.int .i64 4,Ci,Cl,.slice np 2 nc,.slice kp 2 kc],Ci]) (by simp [results,results144,go_sem,Ze HR.out]) rfl ⟨_,rfl,?_,Zc cD.out (Q9 _)⟩
 refine Y5 (k:=4) (n:=0) (s:=[]) (names:=[[120],[121]]) (kids:=[v,u]) Ca ?_ ?_
 ·have h:Sl Zh (fun b=>w+2<=b) wr (.slice np 2 nc) [[120],[121]]:=aR.out.sl (S':=(fun b=>w+2<=b)) (by simp [Mp]) (fun b h=>h) (fun b _ h=>h)
  exact (h.frame (fun b hS _=>Zf (by have h':w.heap.size+2<=b:=hS;omega))).mono (fun b _ hS=>by have h':w.heap.size+2<=b:=hS;show w<=b;omega)
 have h:Sl Zd (fun b=>w+2<=b) wr (.slice kp 2 kc) [v,u]:=dB.out.sl (S':=(fun b=>w+2<=b)) (by simp [Mh]) (fun b h=>h) (fun b _ h=>h.1)
 exact (h.frame (fun b hS _=>Zf (by have h':w.heap.size+2<=b:=hS;omega))).mono (fun b _ hS=>by have h':w.heap.size+2<=b:=hS;show w<=b;omega)
theorem Jm {A B:Type} {p:A->B->Bool}:∀ {a:List A} {b:List B},eqL p a b=true->a.length=b.length/\∀ (j:Nat) (x:A) (y:B),a[j]?=some x->b[j]?=some y->p x y=true
 | [],[],_=>⟨rfl,fun _ _ _ h=>by simp at h⟩
 | [],_::_,h=>by cases h
 | _::_,[],h=>by cases h
 | x::s,y::t,h=>by
  have h':(p x y&&eqL p s t)=true:=h
  rw [Bool.and_eq_true] at h'
  obtain ⟨h1,h2⟩:=h'
  obtain ⟨h3,h4⟩:=Jm h2
  refine ⟨by rw [List.length_cons,List.length_cons,h3],fun j u v hu hv=>?_⟩
  cases j with
  | zero=>cases hu;cases hv;exact h1
  | succ j=>exact h4 j u v hu hv
theorem eqL_eq {a b:List Bs} (h:eqL (fun x y=>decide (x=y)) a b=true):a=b:=by
 obtain ⟨h1,h2⟩:=Jm h
 refine List.ext_getElem? fun j=>?_
 cases ha:a[j]? with
 | none=>rw [List.getElem?_eq_none_iff] at ha;exact (List.getElem?_eq_none_iff.2 C7).symm
 | some x=>
  have hj:=(Qj ha).1
  have hb:b[j]?=some (b[j]'C7):=Qx C7
  rw [hb]
  have:=h2 j x _ ha hb
  rw [of_decide_eq_true this]
theorem Tz {A:Type} {p:A->A->Bool} (hp:∀ x,p x x=true):∀ l:List A,eqL p l l=true
 | []=>rfl
 | x::s=>by show (p x x&&eqL p s s)=true;rw [hp,Tz hp s];rfl
theorem eqv_refl (x:Val):eqv x x=true:=B8.2 rfl
theorem eqv_int {a b:Int} (h:eqv (Yf a) (Yf b)=true):a=b:=by
 have h':=B8.1 h
 simpa [Yf,key] using h'
theorem N0:∀ {a b:List Int},eqL eqv (a.map Yf) (b.map Yf)=true->a=b
 | [],[],_=>rfl
 | [],_::_,h=>by cases h
 | _::_,[],h=>by cases h
 | x::s,y::t,h=>by
  have h':(eqv (Yf x) (Yf y)&&eqL eqv (s.map Yf) (t.map Yf))=true:=h
  rw [Bool.and_eq_true] at h'
  rw [eqv_int h'.1,N0 h'.2]
def Ua (us:List Sm) (t:Tbl) (v:Val):Bool:=An (Hm us) v (t.columns.map Col.name) (t.columns.map Col.type)
def Dd (t:Tbl) (v:Val):List Int:=((keyOf t.key v).getD []).map Val.n
structure Nr (s:Sc) (t:Tbl):Prop where
 srt:Srt Kq t.columns
 few:t.columns.length<=19
 some:t.columns≠[]
 keyc:∀ k ∈ t.key,∃ j c,Df (t.columns.map Col.name) k=.some j/\t.columns[j]?=.some c/\c.type.kind=0
 keyl:t.key.length<=3
 keyn:0<t.key.length
 refs:∀ r ∈ t.refs,(Yq s.tables r.table).isSome=true
theorem Y4.kind0 {v:Val} (h:Y4 v) (hk:v.kind=0):∃ n,v=Yf n/\-1000000<=n/\n<=1000000:=by
 cases h with
 | int n hb=>exact ⟨n,rfl,hb⟩
 | text s=>cases hk
 | bool n hn=>cases hk
 | make s kids hs hl hk'=>cases hk
 | record names kids hl hn hs hk'=>cases hk
 | list kids hk'=>cases hk
theorem Y4.kidG {v:Val} (h:Y4 v):∀ x ∈ v.kids,Y4 x:=by
 cases h with
 | int n hb=>intro x A;simp [Val.kids] at A
 | text s=>intro x A;simp [Val.kids] at A
 | bool n hn=>intro x A;simp [Val.kids] at A
 | make s kids hs hl hk=>exact hk
 | record names kids hl hn hs hk=>exact hk
 | list kids hk=>exact hk
theorem A7 {us:List Sm} {s:Sc} {t:Tbl} (hT:Nr s t) {v:Val} (hv:Y4 v) (h:Ua us t v=true) {k:Bs} (hk:k ∈ t.key):∃ n,Yt v k=some (Yf n)/\-1000000<=n/\n<=1000000:=by
 unfold Ua An at h
 rw [Bool.and_eq_true,Bool.and_eq_true] at h
 obtain ⟨⟨h1,h2⟩,h3⟩:=h
 have hn:=eqL_eq h2
 obtain ⟨j,c,hj,hc,G⟩:=hT.keyc k hk
 obtain ⟨h4,h5⟩:=Jm h3
 have I:v.kind=4:=by simpa using h1
 have A:=(Qj hc).1
 have N:v.kids[j]?=some (v.kids[j]'(by rw [h4,Z7];exact A)):=Qx _
 have D:=h5 j _ _ N (by rw [List.getElem?_map,hc];rfl)
 have h7:(v.kids[j]'(by rw [h4,Z7];exact A)).kind=0:=by
  unfold Hm at D
  rw [if_neg C7,G] at D
  simpa using D
 obtain ⟨n,J,M⟩:=(hv.kidG _ (Qy N)).kind0 h7
 refine ⟨n,?_,M⟩
 unfold Yt
 rw [if_pos I,hn,hj]
 show v.kids[j]?=_
 rw [N,J]
theorem Br {v:Val}:∀ {ks:List Bs},(∀ k ∈ ks,∃ n,Yt v k=some (Yf n)/\-1000000<=n/\n<=1000000)->∃ l:List Int,keyOf ks v=some (l.map Yf)/\l.length=ks.length/\∀ x ∈ l,-1000000<=x/\x<=1000000
 | [],_=>⟨[],rfl,rfl,fun _ h=>by cases h⟩
 | k::ks,h=>by
  obtain ⟨n,h1,h2⟩:=h k Ca
  obtain ⟨l,h3,h4,h5⟩:=Br (ks:=ks) (fun k hk=>h k (by simp [hk]))
  refine ⟨n::l,?_,by simp [h4],?_⟩
  ·unfold keyOf;rw [h1,h3];rfl
  intro x A
  rcases Z3.1 A with rfl | A
  ·exact h2
  exact h5 x A
theorem Rj (l:List Int):(l.map Yf).map Val.n=l:=by
 rw [List.map_map]
 have:(Val.n ∘ Yf)=id:=rfl
 rw [this,List.map_id]
theorem Fr {us:List Sm} {s:Sc} {t:Tbl} (hT:Nr s t) {v:Val} (hv:Y4 v) (h:Ua us t v=true):keyOf t.key v=some ((Dd t v).map Yf)/\(Dd t v).length=t.key.length/\∀ x ∈ Dd t v,-1000000<=x/\x<=1000000:=by
 obtain ⟨l,h1,h2,h3⟩:=Br (fun k hk=>A7 hT hv h hk)
 have:Dd t v=l:=by unfold Dd;rw [h1];exact Rj l
 rw [this]
 exact ⟨h1,h2,h3⟩
theorem Ry {us:List Sm} {s:Sc} {t:Tbl} (hT:Nr s t) {rows:List Val} (hg:∀ v ∈ rows,Y4 v) (h:∀ v ∈ rows,Ua us t v=true):B6 t rows (Dd t) where
 key:=fun r A=>(Fr hT (hg r A) (h r A)).1
 bd:=fun r A x hx=>by have:=(Fr hT (hg r A) (h r A)).2.2 x hx;omega
 len:=fun r A=>by rw [(Fr hT (hg r A) (h r A)).2.1];exact hT.keyl
theorem Hv (n:Nat) (ks:List Bs) (i:Nat):(ust n ks (i+1)).1<=(ust n ks i).1:=by
 show (Ub (ks.take i) (ust n ks i) (ks.getD i [])).1<=_
 generalize ust n ks i=st
 unfold Ub
 split
 ·exact Q9 _
 split
 ·show _<=_;simp only;omega
 exact Q9 _
theorem On (n:Nat) (ks:List Bs):∀ i,(ust n ks i).1<=n
 | 0=>Q9 n
 | i+1=>Qc (Hv n ks i) (On n ks i)
theorem Ns (n:Nat) (ks:List Bs) (i:Nat):∀ k,(ust n ks (i+k)).1<=(ust n ks i).1
 | 0=>Q9 _
 | k+1=>Qc (Hv n ks (i+k)) (Ns n ks i k)
theorem ust_zero {ks:List Bs} (h:(ust ks.length ks ks.length).1=ks.length) {i j:Nat} {a b:Bs} (hij:i<j) (ha:ks[i]?=some a) (hb:ks[j]?=some b):a≠b:=by
 intro e
 subst e
 have hj:=(Qj hb).1
 have h1:(ust ks.length ks (j+1)).1=ks.length:=by
  have h2:=Ns ks.length ks (j+1) (ks.length - (j+1))
  rw [show j+1+(ks.length - (j+1))=ks.length by omega,h] at h2
  have:=On ks.length ks (j+1)
  omega
 have h3:(ust ks.length ks j).1=ks.length:=by
  have:=Hv ks.length ks j
  have:=On ks.length ks j
  omega
 have A:(Ub (ks.take j) (ust ks.length ks j) (ks.getD j [])).1=ks.length:=h1
 have hd:ks.getD j []=a:=by rw [Qs,hb];rfl
 rw [hd] at A
 unfold Ub at A
 cases hf:Xq (ks.take j) a with
 | none=>
  unfold Xq at hf
  rw [List.findIdx?_eq_none_iff] at hf
  have:=hf a (Qy (i:=i) (by rw [List.getElem?_take_of_lt hij];exact ha))
  simp at this
 | some q=>
  have hq:=Di hf
  rw [Qm] at hq
  rw [hf] at A
  simp only [h3] at A
  rw [if_pos C7] at A
  simp only at A
  omega
theorem Cj {rows:List Val} {K:Val->List Int} (h:(Uk rows (ust rows.length (rows.map fun r=>kb (K r)) rows.length)).code=0) {i j:Nat} {a b:Val} (hij:i<j) (ha:rows[i]?=some a) (hb:rows[j]?=some b):K a≠K b:=by
 intro e
 unfold Uk at h
 split at h
 ·rename_i h1
  have h2:(ust (rows.map fun r=>kb (K r)).length (rows.map fun r=>kb (K r)) (rows.map fun r=>kb (K r)).length).1=(rows.map fun r=>kb (K r)).length:=by rw [Z7];exact h1
  exact ust_zero h2 hij (by rw [List.getElem?_map,ha];rfl) (by rw [List.getElem?_map,hb];rfl) (congrArg kb e)
 cases h
theorem Gi {s:Sc} {l:List Rel} {rows:List Val}:∀ {rs:List Rf},(Xg s l rows rs).code=0->∀ r ∈ rs,∀ x ∈ rows,Fg s l r x=true
 | [],_,r,hr=>by cases hr
 | q::rs,h,r,hr=>by
  unfold Xg at h
  split at h
  ·rename_i h0
   rcases Z3.1 hr with rfl | hr
   ·exact Er Cc h0
   exact Gi h r hr
  rename_i h0
  exact absurd h h0
theorem look_own {us:List Sm} {s:Sc} {l:List Rel} {t:Tbl} {r:Rel} (hT:Nr s t) (htn:Yq s.tables t.name=some t) (hro:Yo l t.name=r.rows) (hg:∀ v ∈ r.rows,Y4 v) (hty:∀ v ∈ r.rows,Ua us t v=true)
  (hu:(Uk r.rows (ust r.rows.length (r.rows.map fun x=>kb (Dd t x)) r.rows.length)).code=0) {k:Nat} {v:Val} (hv:r.rows[k]?=some v):V6 s l t.name ((keyOf t.key v).getD [])=some v:=by
 have hm:=Qy hv
 obtain ⟨h1,h2,_⟩:=Fr hT (hg v hm) (hty v hm)
 rw [Gx htn (by rw [h1];show 0<((Dd t v).map Yf).length;rw [Z7,h2];exact hT.keyn),hro]
 refine Bb hv (Tz eqv_refl _) (fun j y hj hy=>?_)
 have A:=Qy hy
 obtain ⟨h3,_,_⟩:=Fr hT (hg y A) (hty y A)
 unfold lkP
 rw [h1,h3]
 cases he:eqL eqv ((some ((Dd t y).map Yf)).getD []) ((some ((Dd t v).map Yf)).getD []) with
 | false=>rfl
 | true=>exact absurd (N0 he) (Cj hu hj hy hv)
theorem atP_sat {T:Type} {p:T->Bool} {xs:List T} {x:T} (h:atP p xs=some x):p x=true:=by
 unfold atP at h
 split at h
 ·cases h
 rename_i i hi
 obtain ⟨hl,hp,_⟩:=List.findIdx?_eq_some_iff_getElem.1 hi
 rw [Qx hl] at h
 cases h;exact hp
theorem look_ref {s:Sc} {l:List Rel} {tn:Bs} {o:Tbl} (ho:Yq s.tables tn=some o) {v y:Val} (h:V6 s l tn [v]=some y):eqL eqv ((keyOf o.key y).getD []) [v]=true:=by
 rw [Gx ho Ca] at h
 have h':lkP o.key [v] y=true:=atP_sat h
 exact h'
theorem T5 {s:Sc} {l:List Rel} {r:Rf} {v:Val} (h:Fg s l r v=true):∃ x y,Yt v r.column=some x/\V6 s l r.table [x]=some y:=by
 unfold Fg at h
 cases hg:Yt v r.column with
 | none=>rw [hg] at h;cases h
 | some x=>
  rw [hg] at h
  have h':(V6 s l r.table [x]).isSome=true:=h
  obtain ⟨y,hy⟩:=Option.isSome_iff_exists.1 h'
  exact ⟨x,y,rfl,hy⟩
end Go.Proofs.YtcljcblceodciaaGreatDoor
