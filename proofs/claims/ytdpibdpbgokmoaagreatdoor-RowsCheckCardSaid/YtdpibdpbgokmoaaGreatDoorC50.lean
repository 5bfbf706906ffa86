import Derived.Test.YtdpibdpbgokmoaaGreatDoorC49
import Derived.Test.YtdpibdpbgokmoaaGreatDoorC48
import Derived.Test.YtdpibdpbgokmoaaGreatDoorC47
import Derived.Test.YtdpibdpbgokmoaaGreatDoorC46
import Derived.Test.YtdpibdpbgokmoaaGreatDoorC45
import Derived.Test.YtdpibdpbgokmoaaGreatDoorC40
import Derived.Test.YtdpibdpbgokmoaaGreatDoorC39
set_option maxRecDepth 100000
set_option maxHeartbeats 400000000
namespace Go.Proofs.YtdpibdpbgokmoaaGreatDoor
open Go.RowKit Go.Shelf Go.Lib Tryz
theorem Rn (S0 S1:Nat→Prop) (s:Sc) (cs:List Value) (lv:Value) (l:List Rel) (w:World) (hs:Xu S0 w cs s) (hl0:Sl Y7 S1 w lv l) (hlen:l.length=s.tables.length) (hsm:Ko s.sums) (hT:∀ t ∈ s.tables,Mj t) (hR:∀ r ∈ l,∀ v ∈ r.rows,Vp v):
  Calls prog 10 #[cs,lv] w (Xt w s l (cfR s l)):=
 Ka.all Wt Ah Cj (M4.all (Fx.all Aw Wn)) Qjg S0 S1 s cs lv l w hs hl0 hlen hsm hT hR
def nmK:Nat→Bs
 | 0=>[121]
 | _=>[120]
def Mc:Nat→List Bs
 | 0=>[]
 | 1=>[[121]]
 | _=>[[120],[121]]
def Ms (u v:Val):Nat→List Val
 | 0=>[]
 | 1=>[u]
 | _=>[v,u]
theorem Ht (k:Nat) (h:k≤2):(Mc k).length=k:=by match k,h with | 0,_=>rfl | 1,_=>rfl | 2,_=>rfl
theorem Gy (u v:Val) (k:Nat) (h:k≤2):(Ms u v k).length=k:=by match k,h with | 0,_=>rfl | 1,_=>rfl | 2,_=>rfl
theorem Qjw (k:Nat) (h:k<2):Jh (Mc k) 0 (nmK k)=Mc (k+1):=by match k,h with | 0,_=>rfl | 1,_=>rfl
theorem Cr (u v:Val) (k:Nat) (h:k<2) {x:Val} (hx:[u,v][k]?=some x):Jh (Ms u v k) 0 x=Ms u v (k+1):=by
 match k,h,hx with
 | 0,_,hx=>cases hx;rfl
 | 1,_,hx=>cases hx;rfl
theorem nmK_word (k:Nat):Va (nmK k):=by
 match k with
 | 0=>exact ⟨Qqx,Qqx,by intro c A;simp [nmK] at A;subst A;decide,Qqx,Qqx⟩
 | k+1=>exact ⟨by simp [nmK],by simp [nmK],by intro c A;simp [nmK] at A;subst A;decide,by simp [nmK];decide,by simp [nmK];decide⟩
theorem Kb {E:TypeId} {S S':Nat→Prop} {B:Nat} {w:World} {v:Value} {xs:List Bs} {css:List (List Value)} (h:Own Zh E S B w v xs css):Own Zh E S' B w v xs css:=⟨h.row,⟨h.cs.len,fun j c x hc hx=>h.cs.R j c x hc hx⟩⟩
theorem bs_k (k:Nat) (hk:k<2) (S:Nat→Prop) (p:Option Addr) (c:Nat) (W:World) (h:Sl Zh S W (.slice p k c) (Mc k)):
  Calls prog 168 #[.slice p k c,(nmK k)] W fun e w'=>e=.returned (.tuple #[Qqd,.bool false])∧Below W W w':=by
 match k,hk with
 | 0,_=>
  have mixed:prog.follows .mixedOrders=true:=Qqy
  clear h
  go_enter func168,ntmps168
  go_wp2_with fail
  go_loopw [7,8] (fun t7 t8 wr=>t7=.int .i64 0∧t8=.int .i64 0∧Aside (Below W W wr)) (fun _ _ _=>0)
  case atStart=>
   exact ⟨by first | rfl | go_num,by first | rfl | go_num,Qz _ _⟩
  obtain ⟨rfl,rfl,hb⟩:=hrel
  go_wp2_with fail
  go_ret2
  exact ⟨rfl,hb.out⟩
 | 1,_=>
  obtain ⟨b,A,rfl,hc,_⟩:=h.str (i:=0) (x:=[121]) rfl
  refine (Any2.slices_BinarySearch_string Tryz.laysBS b A 1 c (fun _=>⟨#[121]⟩) ⟨#[120]⟩ W Qqj (fun j hj=>by
   obtain rfl:j=0:=Qqj
   exact hc)).mono ?_
  rintro e w' ⟨rfl,q,rfl⟩
  have e1:Op.bytesLess [121] [120]=false:=Qqx
  refine ⟨?_,Yq _ _⟩
  simp [Lib.bsGo,ByteArray.toList_mk,e1]
def Ok (w:World) (u v:Val) (k:Nat) (wr:World):Prop:=
 ∃ np nc cssN kp kc cssV,wr.heap[w.heap.size+1]?=some (.cells #[.int .i64 4,Qqd,Qqe,.slice np k nc,.slice kp k kc] 36 (0,0))∧wr.heap[w.heap.size]?=some (.cells zV 36 (0,0)) ∧
  Own Zh 9 (fun b=>w+2≤b) (w+2) wr (.slice np k nc) (Mc k) cssN∧Own Ze 36 (fun b=>w+2≤b∧some b≠(Value.ownBlock (.slice np k nc))) (w+2) wr (.slice kp k kc) (Ms u v k) cssV∧Below w w wr
theorem rec_xy (u v:Val):RecAt [[121],[120]] [u,v] (V8 [[120],[121]] [v,u]):=by
 intro S S' nv vv w eL eN eQ
 have hn:Sl Zh (fun b=>b<w) w nv [[121],[120]]:=eN.mono (fun b hb _=>hb)
 have hv:Sl Ze (fun b=>b<w) w vv [u,v]:=eQ.mono (fun b hb _=>hb)
 obtain ⟨ap,ac,rfl,_⟩:=hn.len
 obtain ⟨vp,vc,rfl,_⟩:=hv.len
 obtain ⟨HN,HV,fB⟩:=Qqo hn hv eL
 have mixed:prog.follows .mixedOrders=true:=Qqy
 clear eN eQ hn hv eL
 show Calls prog 136 #[.slice ap 2 ac,.slice vp 2 vc] w _
 go_enter func136,ntmps136
 go_upto_region 4 with fail
 generalize cH:World.alloc _ _=W1
 have eJ:=eqB cH (Zt _ _ _)
 have eG:=eqH (b:=w.heap.size) cH (Q5 _ _ _)
 have eC:=eqH (b:=w.heap.size+1) cH (Q6 _ _ _)
 have HM:Ok w u v 0 W1:=⟨none,0,[],none,0,[],eC,eG,Own.nil _ _ _ _ _,Own.nil _ _ _ _ _,eJ⟩
 have dU:=Qq HM
 clear cH eJ eG eC HM
 go_wp2_with fail
 go_loopw [20] (fun dN wr=>∃ k:Nat,k≤2∧dN=.int .i64 k∧Aside (Ok w u v k wr)) (fun dN _=>2 - (intOf dN).toNat)
 case atStart=>exact ⟨0,Q8 _,rfl,dU.out⟩
 obtain ⟨k,dJ,rfl,hA⟩:=hrel
 obtain ⟨np,nc,dZ,kp,kc,eA,bE,bF,eE,eF,eB⟩:=hA.out
 obtain ⟨dT,dD,aR,dB,cD⟩:=Qqr bE bF eE eF eB
 have fJ:=Z8 bE
 clear hA eE eF eB dU
 by_cases hlt:k<2
 ·have fS:(0:Int)≤(k:Int):=Qqj
  have fT:(k:Int)<2:=Qqj
  have eO:([[121],[120]]:List Bs)[k]?=some (nmK k):=by match k,hlt with | 0,_=>rfl | 1,_=>rfl
  obtain ⟨x,hx⟩:∃ x,[u,v][k]?=some x:=⟨_,Qx (by simpa using hlt)⟩
  obtain ⟨nb,fQ,rfl,dL,eP⟩:=HN.out.str eO
  obtain ⟨vb,cA,x3,m3,x4,m4,rfl,bW,eR,d0,d1,d2,d3,d4⟩:=HV.out.val hx
  obtain ⟨fD,HX,dV⟩:=Qqo eR hx eP
  have dR:=Qq (fun W (h:Below w w W)=>(show (Qzh W vb (cA+k*5) x.kind x.n x.s (.slice x3 x.names.length m3) (.slice x4 x.kids.length m4):Prop) from ⟨kD h bW d0,kD h bW d1,kD h bW d2,kD h bW d3,kD h bW d4⟩))
  have cP:=Qq (by have h:=aR.out.sl (S':=(fun b=>w+2≤b)) (by rw [Ht k dJ];omega) (fun b h=>h) (fun b _ h=>h);exact h:Sl Zh (fun b=>w+2≤b) wr (.slice np k nc) (Mc k))
  obtain ⟨nm,dM⟩:=eX (nmK k)
  have cG:=Qq (fun W (h:Below wr wr W)=>H7 (nmK k) (nmK_word k) W (fB.out.below (cD.out.thn h)))
  have cW:=Qq (fun W (h:Below wr wr W)=>bs_k k hlt _ np nc W (cP.out.below h))
  have dW:=Qq (Qjw k hlt)
  have dL:=kC cD.out dL
  rw [dM] at cG cW dL dV dW
  unfold sv at cG
  have fR:=Qq dM
  have rr:=fun j=>Qk _ _ j _ _ _ bE
  obtain ⟨r0,r1,r2,r3,r4⟩:=Qzj rr
  simp only [Qf,Qg,Qh] at r0 r1 r2 r3 r4
  clear rr
  clear bE bF hx eR eO dM eP d0 d1 d2 d3 d4 cP
  go_upto_region 12 with (first
   | (have h9:=cV.out;clear h9;go_at_call 112;refine (cG.out _ cV.out).mono ?_;rintro e w5 ⟨rfl,hb⟩;have bD:=Qq (cV.out.thn hb);clear hb)
   | (go_at_call 168;refine (cW.out _ (Qz _ _)).mono ?_;rintro e w4 ⟨rfl,hb⟩;have cV:=Qq hb;clear hb))
  have dF:=kE bD.out fJ dT.out
  have cY:=Qq dF
  clear r0 r1 r2 r3 r4
  have rr:=fun j=>Qk _ _ j _ _ _ dF
  obtain ⟨r0,r1,r2,r3,r4⟩:=Qzj rr
  simp only [Qf,Qg,Qh] at r0 r1 r2 r3 r4
  clear rr
  have cZ:=Qq (insAnyS (fun b=>w+2≤b) (w+2) (w5.alloc (.cells #[nm] 9)) (.slice np k nc) (Mc k) dZ nm [nm] 0 w5 1 (aR.out.below (bD.out.thn (Zg _ _))) (Qw _ _) ⟨by have:=bD.out.size;omega,fun e=>by have:=(aR.out.row.lt _ e.symm).2;have:=bD.out.size;omega⟩ ⟨rfl,dV.out⟩ (Q8 _) (by rw [Ht k dJ];omega) (by have:=bD.out.size;simp;omega))
  rw [dW.out] at cZ
  have eK:Below w5 w5 (w5.alloc (.cells #[nm] 9)):=Zg _ _
  have bK:=Qq (bD.out.thn eK)
  have bB:=Qq (dB.out.below bK.out);have cO:=Qq (aR.out.below bK.out)
  clear dF eK
  go_upto_region 13 with (go_at_call 169;refine cZ.out.mono ?_;rintro e w7 ⟨p7,c7,bN,rfl,dG,dI,bR⟩;have aZ:(Mc (k+1)).length=k+1:=Ht (k+1) Qqj;rw [aZ] at dG bR ⊢;have eD:some (w.heap.size+1)≠(Value.slice np k nc).ownBlock:=(fun e=>by have:=(aR.out.row.lt _ e.symm).1;omega);have eM:w.heap.size+1<(w5.alloc (.cells #[nm] 9)).heap.size:=(Z8 (kB (Zg w5 _) cY.out));have cI:=(dI.block _ eM eD).trans (kB (Zg w5 _) cY.out);have dX:=Qq cI;have f3:=fA 3 cI;have t3:=rA3 cI;obtain ⟨dA,cE,dQ⟩:=Qqo dG dI bR;clear cI dG dI bR)
  have bG:=Qi _ _ 3 _ _ (.slice p7 (k+1) c7) dX.out
  have bV:∀ b,b≠w.heap.size+1→(w7.setCell ⟨w+1,3,none⟩ (.slice p7 (k+1) c7)).heap[b]?=w7.heap[b]?:=fun b hb=>Za hb
  simp only [List.setIfInBounds_toArray,List.set_cons_zero,List.set_cons_succ] at bG
  have eH:=(cE.out.block _ (by have:=Z8 dD.out;have:=bK.out.size;omega) (fun e=>by have:=(aR.out.row.lt _ e.symm).1;omega)).trans (kB bK.out dD.out)
  have cQ:Below w w w7:=by
   have hb:=cD.out.thn bK.out
   have hg:=cE.out
   exact ⟨hg.os.trans hb.os,hg.tape.trans hb.tape,hg.output.trans hb.output,Qc hb.size hg.size,fun b h=>(hg.block b (Qqq hb.size) (fun e=>by have:=(aR.out.row.lt _ e.symm).1;omega)).trans (hb.block b h)⟩
  have bS:Below w w (w7.setCell ⟨w+1,3,none⟩ (.slice p7 (k+1) c7)):=cQ.setCell (p:=⟨w+1,3,none⟩) (by show w≤w.heap.size+1;omega) _
  have bP:=dA.out.move (w':=w7.setCell ⟨w+1,3,none⟩ (.slice p7 (k+1) c7)) (Q9 _) (fun b hb h=>bV b (by
   rcases h with h | h
   ·have h':w.heap.size+2≤b:=h
    omega
   have:=(dA.out.row.lt b h).1
   omega))
  have bQ:=((bB.out.wide (S':=fun b=>(w+2≤b∧some b≠(Value.slice np k nc).ownBlock)∧b<(w5.alloc (.cells #[nm] 9)).heap.size) (fun b hb h=>⟨h,hb⟩)).move (w':=w7.setCell ⟨w+1,3,none⟩ (.slice p7 (k+1) c7)) (Q9 _) (fun b hb h=>(bV b (by
   rcases h with h | h
   ·have:=h.1.1
    omega
   ·have:=(bB.out.row.lt b h).1
    omega)).trans (cE.out.block b hb (by
   rcases h with h | h
   ·exact h.1.2
   ·exact fun e=>Ym bB.out.row cO.out.row Qqx h e.symm)))).wide (S':=(fun b=>w+2≤b∧some b≠(Value.ownBlock (.slice p7 (k+1) c7)))) (fun b hb h=>⟨h.1.1,fun e=>by
   rcases dQ.out with h7 | h7
   ·exact h.1.2 (by rw [← h7];exact e)
   rw [h7] at e
   have e':=Qb e
   have:=h.2
   omega⟩)
  generalize World.setCell _ _ _=w8 at bG bV bS bP bQ ⊢
  have eI:=(bV _ Qqj).trans eH
  obtain ⟨dE,dC,G,T,aE⟩:=Qqr bG eI bS bP bQ
  have dK:=Z8 bG
  obtain ⟨d0,d1,d2,d3,d4⟩:=dR.out w8 bS
  have rr:=fun j=>Qk _ _ j _ _ _ bG
  obtain ⟨r0,r1,r2,r3,r4⟩:=Qzj rr
  simp only [Qf,Qg,Qh] at r0 r1 r2 r3 r4
  clear rr
  have fC:=Qq (Cr u v k hlt HX.out)
  have cX:=Qq (fun W (h:Below w8 w8 W)=>Fe x _ _ W (fD.out.move (.of_below (bS.thn h)) Qzx))
  unfold vcs at cX
  have bA:=Qq (fun (w9:World) (y3 y4:Option Addr) (l3 l4:Nat) (h:Below w8 w8 w9) (hv:Z9 (fun b=>w8≤b) w9 (vcs x y3 l3 y4 l4) x)=>insAny (fun b=>w+2≤b∧some b≠(Value.ownBlock (.slice p7 (k+1) c7))) (w+2) (w9.alloc (.cells (Qqg x y3 l3 y4 l4) 36)) (.slice kp k kc) (Ms u v k) eA x (Qqg x y3 l3 y4 l4) 0 w9 1 (aE.out.below (h.thn (Zg _ _))) (Qw _ _)
   ⟨⟨by have:=h.size;omega,fun e=>by have:=(T.out.row.lt _ e.symm).2;have:=h.size;omega⟩,fun e=>by have:=(aE.out.row.lt _ e.symm).2;have:=h.size;omega⟩
   (Z9.move (Z9.move hv (.refl _ _) (fun b hb h1=>(⟨⟨Qqj,fun e=>by have:=(T.out.row.lt _ e.symm).2;omega⟩,fun e=>by have:=(aE.out.row.lt _ e.symm).2;omega⟩:But (fun b=>w+2≤b∧some b≠(Value.ownBlock (.slice p7 (k+1) c7))) (.slice kp k kc) b))) (.of_below (Zg _ _)) Qzx) (Q8 _) (by rw [Gy u v k dJ];omega) (by have:=h.size;simp;omega))
  rw [fC.out] at bA
  clear bG eI bS bP bQ bV eH cQ dX cE dQ dA cO bB cZ cY aR dB dT dD cW cG
  have R4:=Qq r4
  have aD:=Qq (show ∀ W,Below w w W→(fun W=>((Qzh W vb (cA+k*5) x.kind x.n x.s (.slice x3 x.names.length m3) (.slice x4 x.kids.length m4):Prop))∧Below w w W) W from fun W h=>⟨dR.out W h,h⟩)
  refine wp_region_held_drew (S:=fun W=>((Qzh W vb (cA+k*5) x.kind x.n x.s (.slice x3 x.names.length m3) (.slice x4 x.kids.length m4):Prop))∧Below w w W) Qqy (aD.out _ G.out.drew) (fun D=>?_)
  refine tkD (v:=?_) 0 (fun w0 Y=>?_) ?_;rotate_left
  ·(obtain ⟨⟨y0,y1,y2,y3,y4⟩,_⟩:=Y;go_simp;try with_reducible rfl)
  refine tkD (v:=?_) 2 (fun w0 Y=>?_) ?_;rotate_left
  ·(obtain ⟨⟨y0,y1,y2,y3,y4⟩,_⟩:=Y;go_simp;try with_reducible rfl)
  refine tkD (v:=?_) 3 (fun w0 Y=>?_) ?_;rotate_left
  ·(obtain ⟨⟨y0,y1,y2,y3,y4⟩,_⟩:=Y;go_simp;try with_reducible rfl)
  refine tkD (v:=?_) 4 (fun w0 Y=>?_) ?_;rotate_left
  ·(obtain ⟨⟨y0,y1,y2,y3,y4⟩,_⟩:=Y;go_simp;try with_reducible rfl)
  refine tkD (v:=?_) 5 (fun w0 Y=>?_) ?_;rotate_left
  ·(obtain ⟨⟨y0,y1,y2,y3,y4⟩,_⟩:=Y;go_simp;try with_reducible rfl)
  refine tkD (v:=?_) 6 (fun w0 Y=>?_) ?_;rotate_left
  ·(obtain ⟨⟨y0,y1,y2,y3,y4⟩,_⟩:=Y;go_simp;try with_reducible rfl)
  have aS:Hid (Below w8 w8 w8.drew):=Qq (Qz _ _).drew
  have fM:=aS.out.size
  generalize w8.drew=wd at D aS fM ⊢
  clear r0 r1 r2 r3 r4 d0 d1 d2 d3 d4
  refine rsD [1,7] ?_
  refine rcD (fun K O=>?_) ?_
  ·have b4:=kC aS.out R4.out
   go_simp
   clear b4
   try dsimp only
   refine O.out _ _ (aD.out _ (G.out.thn aS.out)) (fun D=>?_)
   clear O K
   refine rdD 7 (fun K O=>?_) ?_
   ·go_simp
    refine (cX.out _ aS.out).mono ?_
    rintro e w9 ⟨fF,rfl,hv,hb⟩
    obtain ⟨y3,l3,y4,l4,bT,_⟩:=Z9.cells hv
    simp only [vcs] at bT
    subst bT
    have aN:Hid (Below w8 w8 w9):=Qq (aS.out.thn hb)
    have cF:Hid (Z9 (fun b=>w8≤b) w9 (vcs x y3 l3 y4 l4) x):=Qq (Z9.move hv (.refl _ _) (fun b _ h=>by have h':wd.heap.size≤b:=h;show w8≤b;omega))
    clear hv hb
    try dsimp only
    refine O.out _ _ (aD.out _ (G.out.thn aN.out)) (fun D=>?_)
    clear O K
    refine rdD 8 (fun K O=>?_) ?_
    ·go_simp
     have aO:=bA.out w9 y3 y4 l3 l4 aN.out cF.out
     generalize aJ:World.alloc w9 (.cells (Qqg x y3 l3 y4 l4) 36)=cB at aO ⊢
     have A:Below w8 w8 cB:=by rw [← aJ];exact aN.out.thn (Zg _ _)
     have N:=Qq A;have aU:=Qq aO
     clear aJ A aO
     try dsimp only
     refine O.out _ _ (aD.out _ (G.out.thn N.out)) (fun D=>?_)
     clear O K
     refine rdD 9 (fun K O=>?_) ?_
     ·go_simp
      refine aU.out.mono ?_
      rintro e I ⟨p9,c9,aW,rfl,hO,hg,aX⟩
      have aZ:(Ms u v (k+1)).length=k+1:=Gy u v (k+1) Qqj
      rw [aZ] at hO aX ⊢
      have A:=N.out
      have aL:=A.size
      have M:∀ b,b<w.heap.size+2→some b≠(Value.slice kp k kc).ownBlock:=fun b hb e=>by have:=(aE.out.row.lt _ e.symm).1;omega
      have aK:Below w w I:=⟨hg.os.trans (A.os.trans G.out.os),hg.tape.trans (A.tape.trans G.out.tape),hg.output.trans (A.output.trans G.out.output),by have:=G.out.size;have:=hg.size;omega,fun b h=>(hg.block b (Qqq G.out.size) (M b Qqj)).trans ((A.block b (Qqq G.out.size)).trans (G.out.block b h))⟩
      have J:=(hg.block _ Qqj (M (w+1) Qqj)).trans (kE A dK dE.out)
      obtain ⟨aV,aG,aT,aF⟩:=Qqp J hO hg aK
      have f4:=fA 4 J;have t4:=rA4 J
      clear J hO hg aX A aK
      try dsimp only
      refine O.out _ _ (aD.out _ aF.out) (fun D=>?_)
      clear O K
      refine tkD (v:=?_) 10 (fun w0 Y=>?_) ?_;rotate_left
      ·(obtain ⟨⟨y0,y1,y2,y3,y4⟩,_⟩:=Y;go_simp;try with_reducible rfl)
      refine rdD 11 (fun K O=>?_) Qo
      go_simp
      have Z:=Qi _ _ 4 _ _ (.slice p9 (k+1) c9) aV.out
      have aB:∀ b,b≠w.heap.size+1→(I.setCell ⟨w+1,4,none⟩ (.slice p9 (k+1) c9)).heap[b]?=I.heap[b]?:=fun b hb=>Za hb
      simp only [List.setIfInBounds_toArray,List.set_cons_zero,List.set_cons_succ] at Z
      have A:=N.out
      have aL:=A.size
      have aP:∀ b,b<w8.heap.size→some b≠(Value.slice kp k kc).ownBlock→(I.setCell ⟨w+1,4,none⟩ (.slice p9 (k+1) c9)).heap[b]?=w8.heap[b]?∨b=w.heap.size+1:=fun b hb bU=>by
       by_cases h:b=w.heap.size+1
       ·exact .inr h
       exact .inl ((aB b h).trans ((aT.out.block b Qqj bU).trans (A.block b hb)))
      have aI:=((aP w Qqj (M _ Qqj)).resolve_right Qqj).trans dC.out
      have aA:Below w w (I.setCell ⟨w+1,4,none⟩ (.slice p9 (k+1) c9)):=by
       exact aF.out.setCell (p:=⟨w+1,4,none⟩) (by show w≤w.heap.size+1;omega) _
      have U:=Kb (S':=(fun b=>w+2≤b)) ((Kb (S':=fun _=>False) T.out).move (w':=I.setCell ⟨w+1,4,none⟩ (.slice p9 (k+1) c9)) (Q9 _) (fun b hb h=>by
       rcases h with h | h
       ·exact h.elim
       have h1:=(T.out.row.lt b h).1
       exact (aP b hb (fun e=>Ym T.out.row aE.out.row Qqx h e.symm)).resolve_right Qqj))
      have V:=aG.out.move (w':=I.setCell ⟨w+1,4,none⟩ (.slice p9 (k+1) c9)) (Q9 _) (fun b hb h=>aB b (by
       rcases h with h | h
       ·have:=h.1
        omega
       have:=(aG.out.row.lt b h).1
       omega))
      have HE:=Qq (show Ok w u v (k+1) (I.setCell ⟨w+1,4,none⟩ (.slice p9 (k+1) c9)) from ⟨p7,c7,bN,p9,c9,aW,Z,aI,U,V,aA⟩)
      have bL:=Qq aA
      clear Z aB A aP M aI aA U V aL
      refine O.out _ _ (aD.out _ bL.out) (fun D=>?_)
      refine wpAnyH_done Qqy ?_ _
      clear O K D
      go_wp2_with fail
      go_roundw
      case measure=>simp [intOf];omega
      case rel=>exact ⟨k+1,Qqj,by go_num,HE.out⟩
     exact Qo
    exact Qo
   exact Qo
  refine rcD (fun K O=>?_) ?_
  ·go_simp
   refine (cX.out _ aS.out).mono ?_
   rintro e w9 ⟨fF,rfl,hv,hb⟩
   obtain ⟨y3,l3,y4,l4,bT,_⟩:=Z9.cells hv
   simp only [vcs] at bT
   subst bT
   have aN:Hid (Below w8 w8 w9):=Qq (aS.out.thn hb)
   have cF:Hid (Z9 (fun b=>w8≤b) w9 (vcs x y3 l3 y4 l4) x):=Qq (Z9.move hv (.refl _ _) (fun b _ h=>by have h':wd.heap.size≤b:=h;show w8≤b;omega))
   clear hv hb
   try dsimp only
   refine O.out _ _ (aD.out _ (G.out.thn aN.out)) (fun D=>?_)
   clear O K
   refine rsD [1,8] ?_
   refine rcD (fun K O=>?_) ?_
   ·have b4:=kC aN.out R4.out
    go_simp
    clear b4
    try dsimp only
    refine O.out _ _ (aD.out _ (G.out.thn aN.out)) (fun D=>?_)
    clear O K
    refine rdD 8 (fun K O=>?_) ?_
    ·go_simp
     have aO:=bA.out w9 y3 y4 l3 l4 aN.out cF.out
     generalize aJ:World.alloc w9 (.cells (Qqg x y3 l3 y4 l4) 36)=cB at aO ⊢
     have A:Below w8 w8 cB:=by rw [← aJ];exact aN.out.thn (Zg _ _)
     have N:=Qq A;have aU:=Qq aO
     clear aJ A aO
     try dsimp only
     refine O.out _ _ (aD.out _ (G.out.thn N.out)) (fun D=>?_)
     clear O K
     refine rdD 9 (fun K O=>?_) ?_
     ·go_simp
      refine aU.out.mono ?_
      rintro e I ⟨p9,c9,aW,rfl,hO,hg,aX⟩
      have aZ:(Ms u v (k+1)).length=k+1:=Gy u v (k+1) Qqj
      rw [aZ] at hO aX ⊢
      have A:=N.out
      have aL:=A.size
      have M:∀ b,b<w.heap.size+2→some b≠(Value.slice kp k kc).ownBlock:=fun b hb e=>by have:=(aE.out.row.lt _ e.symm).1;omega
      have aK:Below w w I:=⟨hg.os.trans (A.os.trans G.out.os),hg.tape.trans (A.tape.trans G.out.tape),hg.output.trans (A.output.trans G.out.output),by have:=G.out.size;have:=hg.size;omega,fun b h=>(hg.block b (Qqq G.out.size) (M b Qqj)).trans ((A.block b (Qqq G.out.size)).trans (G.out.block b h))⟩
      have J:=(hg.block _ Qqj (M (w+1) Qqj)).trans (kE A dK dE.out)
      obtain ⟨aV,aG,aT,aF⟩:=Qqp J hO hg aK
      have f4:=fA 4 J;have t4:=rA4 J
      clear J hO hg aX A aK
      try dsimp only
      refine O.out _ _ (aD.out _ aF.out) (fun D=>?_)
      clear O K
      refine tkD (v:=?_) 10 (fun w0 Y=>?_) ?_;rotate_left
      ·(obtain ⟨⟨y0,y1,y2,y3,y4⟩,_⟩:=Y;go_simp;try with_reducible rfl)
      refine rdD 11 (fun K O=>?_) Qo
      go_simp
      have Z:=Qi _ _ 4 _ _ (.slice p9 (k+1) c9) aV.out
      have aB:∀ b,b≠w.heap.size+1→(I.setCell ⟨w+1,4,none⟩ (.slice p9 (k+1) c9)).heap[b]?=I.heap[b]?:=fun b hb=>Za hb
      simp only [List.setIfInBounds_toArray,List.set_cons_zero,List.set_cons_succ] at Z
      have A:=N.out
      have aL:=A.size
      have aP:∀ b,b<w8.heap.size→some b≠(Value.slice kp k kc).ownBlock→(I.setCell ⟨w+1,4,none⟩ (.slice p9 (k+1) c9)).heap[b]?=w8.heap[b]?∨b=w.heap.size+1:=fun b hb bU=>by
       by_cases h:b=w.heap.size+1
       ·exact .inr h
       exact .inl ((aB b h).trans ((aT.out.block b Qqj bU).trans (A.block b hb)))
      have aI:=((aP w Qqj (M _ Qqj)).resolve_right Qqj).trans dC.out
      have aA:Below w w (I.setCell ⟨w+1,4,none⟩ (.slice p9 (k+1) c9)):=by
       exact aF.out.setCell (p:=⟨w+1,4,none⟩) (by show w≤w.heap.size+1;omega) _
      have U:=Kb (S':=(fun b=>w+2≤b)) ((Kb (S':=fun _=>False) T.out).move (w':=I.setCell ⟨w+1,4,none⟩ (.slice p9 (k+1) c9)) (Q9 _) (fun b hb h=>by
       rcases h with h | h
       ·exact h.elim
       have h1:=(T.out.row.lt b h).1
       exact (aP b hb (fun e=>Ym T.out.row aE.out.row Qqx h e.symm)).resolve_right Qqj))
      have V:=aG.out.move (w':=I.setCell ⟨w+1,4,none⟩ (.slice p9 (k+1) c9)) (Q9 _) (fun b hb h=>aB b (by
       rcases h with h | h
       ·have:=h.1
        omega
       have:=(aG.out.row.lt b h).1
       omega))
      have HE:=Qq (show Ok w u v (k+1) (I.setCell ⟨w+1,4,none⟩ (.slice p9 (k+1) c9)) from ⟨p7,c7,bN,p9,c9,aW,Z,aI,U,V,aA⟩)
      have bL:=Qq aA
      clear Z aB A aP M aI aA U V aL
      refine O.out _ _ (aD.out _ bL.out) (fun D=>?_)
      refine wpAnyH_done Qqy ?_ _
      clear O K D
      go_wp2_with fail
      go_roundw
      case measure=>simp [intOf];omega
      case rel=>exact ⟨k+1,Qqj,by go_num,HE.out⟩
     exact Qo
    exact Qo
   refine rcD (fun K O=>?_) ?_
   ·go_simp
    have aO:=bA.out w9 y3 y4 l3 l4 aN.out cF.out
    generalize aJ:World.alloc w9 (.cells (Qqg x y3 l3 y4 l4) 36)=cB at aO ⊢
    have A:Below w8 w8 cB:=by rw [← aJ];exact aN.out.thn (Zg _ _)
    have N:=Qq A;have aU:=Qq aO
    clear aJ A aO
    try dsimp only
    refine O.out _ _ (aD.out _ (G.out.thn N.out)) (fun D=>?_)
    clear O K
    refine rdD 1 (fun K O=>?_) ?_
    ·have b4:=kC N.out R4.out
     go_simp
     clear b4
     try dsimp only
     refine O.out _ _ (aD.out _ (G.out.thn N.out)) (fun D=>?_)
     clear O K
     refine rdD 9 (fun K O=>?_) ?_
     ·go_simp
      refine aU.out.mono ?_
      rintro e I ⟨p9,c9,aW,rfl,hO,hg,aX⟩
      have aZ:(Ms u v (k+1)).length=k+1:=Gy u v (k+1) Qqj
      rw [aZ] at hO aX ⊢
      have A:=N.out
      have aL:=A.size
      have M:∀ b,b<w.heap.size+2→some b≠(Value.slice kp k kc).ownBlock:=fun b hb e=>by have:=(aE.out.row.lt _ e.symm).1;omega
      have aK:Below w w I:=⟨hg.os.trans (A.os.trans G.out.os),hg.tape.trans (A.tape.trans G.out.tape),hg.output.trans (A.output.trans G.out.output),by have:=G.out.size;have:=hg.size;omega,fun b h=>(hg.block b (Qqq G.out.size) (M b Qqj)).trans ((A.block b (Qqq G.out.size)).trans (G.out.block b h))⟩
      have J:=(hg.block _ Qqj (M (w+1) Qqj)).trans (kE A dK dE.out)
      obtain ⟨aV,aG,aT,aF⟩:=Qqp J hO hg aK
      have f4:=fA 4 J;have t4:=rA4 J
      clear J hO hg aX A aK
      try dsimp only
      refine O.out _ _ (aD.out _ aF.out) (fun D=>?_)
      clear O K
      refine tkD (v:=?_) 10 (fun w0 Y=>?_) ?_;rotate_left
      ·(obtain ⟨⟨y0,y1,y2,y3,y4⟩,_⟩:=Y;go_simp;try with_reducible rfl)
      refine rdD 11 (fun K O=>?_) Qo
      go_simp
      have Z:=Qi _ _ 4 _ _ (.slice p9 (k+1) c9) aV.out
      have aB:∀ b,b≠w.heap.size+1→(I.setCell ⟨w+1,4,none⟩ (.slice p9 (k+1) c9)).heap[b]?=I.heap[b]?:=fun b hb=>Za hb
      simp only [List.setIfInBounds_toArray,List.set_cons_zero,List.set_cons_succ] at Z
      have A:=N.out
      have aL:=A.size
      have aP:∀ b,b<w8.heap.size→some b≠(Value.slice kp k kc).ownBlock→(I.setCell ⟨w+1,4,none⟩ (.slice p9 (k+1) c9)).heap[b]?=w8.heap[b]?∨b=w.heap.size+1:=fun b hb bU=>by
       by_cases h:b=w.heap.size+1
       ·exact .inr h
       exact .inl ((aB b h).trans ((aT.out.block b Qqj bU).trans (A.block b hb)))
      have aI:=((aP w Qqj (M _ Qqj)).resolve_right Qqj).trans dC.out
      have aA:Below w w (I.setCell ⟨w+1,4,none⟩ (.slice p9 (k+1) c9)):=by
       exact aF.out.setCell (p:=⟨w+1,4,none⟩) (by show w≤w.heap.size+1;omega) _
      have U:=Kb (S':=(fun b=>w+2≤b)) ((Kb (S':=fun _=>False) T.out).move (w':=I.setCell ⟨w+1,4,none⟩ (.slice p9 (k+1) c9)) (Q9 _) (fun b hb h=>by
       rcases h with h | h
       ·exact h.elim
       have h1:=(T.out.row.lt b h).1
       exact (aP b hb (fun e=>Ym T.out.row aE.out.row Qqx h e.symm)).resolve_right Qqj))
      have V:=aG.out.move (w':=I.setCell ⟨w+1,4,none⟩ (.slice p9 (k+1) c9)) (Q9 _) (fun b hb h=>aB b (by
       rcases h with h | h
       ·have:=h.1
        omega
       have:=(aG.out.row.lt b h).1
       omega))
      have HE:=Qq (show Ok w u v (k+1) (I.setCell ⟨w+1,4,none⟩ (.slice p9 (k+1) c9)) from ⟨p7,c7,bN,p9,c9,aW,Z,aI,U,V,aA⟩)
      have bL:=Qq aA
      clear Z aB A aP M aI aA U V aL
      refine O.out _ _ (aD.out _ bL.out) (fun D=>?_)
      refine wpAnyH_done Qqy ?_ _
      clear O K D
      go_wp2_with fail
      go_roundw
      case measure=>simp [intOf];omega
      case rel=>exact ⟨k+1,Qqj,by go_num,HE.out⟩
     exact Qo
    exact Qo
   exact Qo
  exact Qo
 have fI:k=2:=Qqj
 subst fI
 have HR:=Qq bF
 have rr:=fun j=>Qk _ _ j _ _ _ bE
 obtain ⟨x0,x1,x2,x3,x4⟩:=Qzj rr
 simp only [Qf,Qg,Qh] at x0 x1 x2 x3 x4
 clear rr
 have fz:=fun j=>Qn _ _ j _ _ bF
 obtain ⟨f0,f1,f2,f3,f4⟩:=Qzj fz
 have rr:=fun j=>Qk _ _ j _ _ _ bF
 obtain ⟨r0,r1,r2,r3,r4⟩:=Qzj rr
 simp only [Qf,Qg,Qh] at r0 r1 r2 r3 r4
 clear rr fz
 clear bE bF
 go_wp2_with fail
 show bodyPost _ _ _ _ _ (Zl wr w (.int .i64 4) Qqd Qqe (.slice np 2 nc) (.slice kp 2 kc))
 refine Q7 (v:=.tuple #[.agg #[.int .i64 4,Qqd,Qqe,.slice np 2 nc,.slice kp 2 kc],Qqd]) (by simp [results,results136,go_sem,Zd HR.out]) rfl ⟨_,rfl,?_,Zc cD.out (Q9 _)⟩
 refine Y8 (k:=4) (n:=0) (s:=[]) (names:=[[120],[121]]) (kids:=[v,u]) Qqk ?_ ?_
 ·have h:Sl Zh (fun b=>w+2≤b) wr (.slice np 2 nc) [[120],[121]]:=aR.out.sl (S':=(fun b=>w+2≤b)) (by simp [Mc]) (fun b h=>h) (fun b _ h=>h)
  exact (h.frame (fun b hS _=>Zf (by have h':w.heap.size+2≤b:=hS;omega))).mono (fun b _ hS=>by have h':w.heap.size+2≤b:=hS;show w≤b;omega)
 have h:Sl Ze (fun b=>w+2≤b) wr (.slice kp 2 kc) [v,u]:=dB.out.sl (S':=(fun b=>w+2≤b)) (by simp [Ms]) (fun b h=>h) (fun b _ h=>h.1)
 exact (h.frame (fun b hS _=>Zf (by have h':w.heap.size+2≤b:=hS;omega))).mono (fun b _ hS=>by have h':w.heap.size+2≤b:=hS;show w≤b;omega)
theorem enK:∀ args w,(callFunc 132 args).run prog w=.ok (.enter 132 args) w:=enters_of func132 Qqy rfl
section
variable {env:List (Bs × Val)} {x y:Ex} {u v:Val}
theorem Jy {nm:Bs} (h:Hi nm env=some v):EvO (Gen.var nm) env (some v):=(Sw nm 0 [] [] [] [] 0 0 env v h).out
theorem evo_int (n:Int):EvO (Gen.int n) env (some (Y5 n)):=ev_int [] n [] [] [] [] 0 0 env
theorem T9 (s:Bs) (h:s.length≤4096):EvO (Gen.str s) env (some (.mk 1 0 s [] [])):=ev_text [] 0 s [] [] [] 0 0 env h
theorem evo_bool (n:Int):EvO (Gen.bool n) env (some (Xr (n==1))):=(Tu [] n [] [] [] [] 0 0 env).out
theorem Jx {o:Bs} {f:Int→Bool} (ho:Lh o f) (hx:EvO x env (some u)) (hy:EvO y env (some v)):EvO (Gen.op o [x,y]) env (some (Xr (f (Yz u v)))):=
 B6 o 0 [] [] [] [x,y] 0 0 env _ fun lb S0 W hS H=>op_cmp _ lb enK S0 o f u v W hS ho (fun A hb D=>H 0 x _ rfl hx A hb D) (fun A hb D=>H 1 y _ rfl hy A hb D)
theorem Ry {o:Bs} {f:Int→Int→Int} (ho:IsAr o f) {a b:Int} (hx:EvO x env (some (Y5 a))) (hy:EvO y env (some (Y5 b))):EvO (Gen.op o [x,y]) env (some (Y5 (f a b))):=
 B6 o 0 [] [] [] [x,y] 0 0 env _ fun lb S0 W hS H=>op_ar _ lb enK S0 o f (Y5 a) (Y5 b) W hS ho rfl rfl (fun A hb D=>H 0 x _ rfl hx A hb D) (fun A hb D=>H 1 y _ rfl hy A hb D)
theorem Cp {o:Bs} {f:Int→Int→Int} (ho:IsAr o f) {a:Int} (hv:v.kind≠0) (hx:EvO x env (some (Y5 a))) (hy:EvO y env (some v)):EvO (Gen.op o [x,y]) env none:=
 B6 o 0 [] [] [] [x,y] 0 0 env none fun lb S0 W _ H=>Aj _ lb enK S0 o f (Y5 a) v W ho rfl hv (fun A hb D=>H 0 x _ rfl hx A hb D) (fun A hb D=>H 1 y _ rfl hy A hb D)
theorem evo_cat (hu:u.kind=1) (hv:v.kind=1) (hx:EvO x env (some u)) (hy:EvO y env (some v)):EvO (Gen.op [43,43] [x,y]) env (if u.s.length+v.s.length≤4096 then some (.mk 1 0 (u.s++v.s) [] []) else none):=
 B6 [43,43] 0 [] [] [] [x,y] 0 0 env _ fun lb S0 W hS H=>op_cat _ lb enK S0 u v W hS hu hv (fun A hb D=>H 0 x _ rfl hx A hb D) (fun A hb D=>H 1 y _ rfl hy A hb D)
theorem evo_not (hu:u.kind=2) (hx:EvO x env (some u)):EvO (Gen.op [110,111,116] [x]) env (some (Xr (!(u.n==1)))):=
 B6 [110,111,116] 0 [] [] [] [x] 0 0 env _ fun lb S0 W hS H=>op_not _ lb enK S0 u W hS hu (fun W' hb hl=>H 0 x _ rfl hx W' hb hl)
theorem Wj {o:Bs} {b:Bool} (ho:Pf o b) (hu:u.kind=2) (hv:v.kind=2) (hx:EvO x env (some u)) (hy:EvO y env (some v)):EvO (Gen.op o [x,y]) env (some (Xr (if (u.n==1)=b then v.n==1 else !b))):=
 B6 o 0 [] [] [] [x,y] 0 0 env _ fun lb S0 W hS H=>by
  by_cases h:(u.n==1)=b
  ·rw [if_pos h]
   exact op_log _ lb enK S0 o b u v W ho hS hu h hv (fun A hb D=>H 0 x _ rfl hx A hb D) (fun A hb D=>H 1 y _ rfl hy A hb D)
  rw [if_neg h]
  exact G7 _ lb enK S0 o b u W ho hS hu (by revert h;cases (u.n==1) <;> cases b <;> simp) (fun A hb D=>H 0 x _ rfl hx A hb D)
theorem Rl {o:Bs} {b:Bool} (ho:Pf o b) (hu:u.kind=2) (hx:EvO x env (some u)) (hy:EvO y env none):EvO (Gen.op o [x,y]) env (if (u.n==1)=b then none else some (Xr (!b))):=
 B6 o 0 [] [] [] [x,y] 0 0 env _ fun lb S0 W hS H=>by
  by_cases h:(u.n==1)=b
  ·rw [if_pos h]
   exact Sd _ lb enK S0 o b u W ho hu h (fun A hb D=>H 0 x _ rfl hx A hb D) (fun A hb D=>H 1 y _ rfl hy A hb D)
  rw [if_neg h]
  exact G7 _ lb enK S0 o b u W ho hS hu (by revert h;cases (u.n==1) <;> cases b <;> simp) (fun A hb D=>H 0 x _ rfl hx A hb D)
end
theorem Bq (b:Bool):(Xr b).kind=2:=by cases b <;> rfl
def rowV (A B:Int) (C:Bs) (D:Int) (E:Val):Val:=V8 [[97],[98],[99],[100],[101]] [Y5 A,Y5 B,.mk 1 0 C [] [],.mk 2 D [] [] [],E]
def hueV (E:Val):Prop:=E=.mk 3 0 [82,101,100] [] []∨∃ n,E=.mk 3 0 [68,97,114,107] [] [Y5 n]
theorem Y2.kind1 {v:Val} (h:Y2 v) (hk:v.kind=1):∃ s,v=.mk 1 0 s [] []:=by
 cases h with
 | int n hb=>cases hk
 | text s=>exact ⟨s,rfl⟩
 | bool n hn=>cases hk
 | make s kids hs hl hk'=>cases hk
 | record names kids hl hn hs hk'=>cases hk
 | list kids hk'=>cases hk
theorem Y2.kind2 {v:Val} (h:Y2 v) (hk:v.kind=2):∃ n,v=.mk 2 n [] [] []∧(n=0∨n=1):=by
 cases h with
 | int n hb=>cases hk
 | text s=>cases hk
 | bool n hn=>exact ⟨n,rfl,hn⟩
 | make s kids hs hl hk'=>cases hk
 | record names kids hl hn hs hk'=>cases hk
 | list kids hk'=>cases hk
theorem Y2.hue {v:Val} (h:Y2 v) (hk:Bt [Gen.hue] v [72,117,101]=true):hueV v:=by
 unfold Bt at hk
 rw [Bool.and_eq_true] at hk
 obtain ⟨G,h4⟩:=hk
 have D:J5 Gen.hue v=true:=h4
 have A:=D
 cases h with
 | int n hb=>cases G
 | text s=>cases G
 | bool n hn=>cases G
 | make s kids hs hl hk'=>
  unfold J5 at D
  by_cases h1:[82,101,100]=s
  ·subst h1
   have I:decide (kids.length=0)=true:=D
   have:kids=[]:=Zy (of_decide_eq_true I)
   subst this
   exact .inl rfl
  by_cases h2:[68,97,114,107]=s
  ·subst h2
   match kids,hk',D with
   | [x],hk',D=>
    have I:(x.kind==0)=true:=D
    obtain ⟨n,rfl,_⟩:=(hk' x Qqk).kind0 (by simpa using I)
    exact .inr ⟨n,rfl⟩
   | [],_,D=>cases D
   | _::_::_,_,D=>cases D
  have e:atP (fun c:Ct=>decide (c.name=(Val.mk 3 0 s [] kids).s)) Gen.hue.ctors=none:=by
   unfold atP Gen.hue
   simp [List.findIdx?_cons,Val.s,h1,h2]
  have I:J5 Gen.hue (.mk 3 0 s [] kids)=false:=by
   unfold J5
   rw [e]
  rw [I] at A
  cases A
 | record names kids hl hn hs hk'=>cases G
 | list kids hk'=>cases G
theorem row_t {t:Tbl} (hc:t.columns=[⟨[97],Gen.whole⟩,⟨[98],Gen.whole⟩,⟨[99],Gen.text⟩,⟨[100],Gen.yesno⟩,⟨[101],Gen.hueT⟩]) {v:Val} (hv:Y2 v) (h:J9 [Gen.hue] t v=true):∃ A B C D E,v=rowV A B C D E∧hueV E∧(D=0∨D=1):=by
 unfold J9 A9 at h
 rw [hc,Bool.and_eq_true,Bool.and_eq_true] at h
 obtain ⟨⟨h1,h2⟩,h3⟩:=h
 have M:v.names=[[97],[98],[99],[100],[101]]:=T1 h2
 have G:=hv.kidG
 obtain ⟨h4,J⟩:=Kq h3
 have I:v.kind=4:=by simpa using h1
 have hz:v.n=0∧v.s=[]:=by
  cases hv with
  | int n hb=>cases I
  | text s=>cases I
  | bool n M=>cases I
  | make s kids hs hl hk'=>cases I
  | record names kids hl M hs hk'=>exact ⟨rfl,rfl⟩
  | list kids hk'=>cases I
 obtain ⟨k,n,s,names,kids⟩:=v
 simp only [Val.kind,Val.n,Val.s,Val.names,Val.kids] at M I hz h4 J G
 obtain ⟨rfl,rfl⟩:=hz
 subst I;subst M
 match kids,h4,J,G with
 | [a,b,c,d,e],_,J,G=>
  have ha:(a.kind==0)=true:=J 0 _ _ rfl rfl
  have hb:(b.kind==0)=true:=J 1 _ _ rfl rfl
  have hc:(c.kind==1)=true:=J 2 _ _ rfl rfl
  have hd:(d.kind==2)=true:=J 3 _ _ rfl rfl
  have he:Bt [Gen.hue] e [72,117,101]=true:=J 4 _ _ rfl rfl
  obtain ⟨A,rfl,_⟩:=(G a Qqk).kind0 (by simpa using ha)
  obtain ⟨B,rfl,_⟩:=(G b Qqk).kind0 (by simpa using hb)
  obtain ⟨C,rfl⟩:=(G c Qqk).kind1 (by simpa using hc)
  obtain ⟨D,rfl,hD⟩:=(G d Qqk).kind2 (by simpa using hd)
  exact ⟨A,B,C,D,e,rfl,(G e Qqk).hue he,hD⟩
def Mu (A B:Int) (C:Bs) (D:Int) (E:Val):List (Bs × Val):=[([101],E),([100],.mk 2 D [] [] []),([99],.mk 1 0 C [] []),([98],Y5 B),([97],Y5 A)]
theorem Qjl (A B:Int) (C:Bs) (D:Int) (E:Val):Fz (rowV A B C D E)=Mu A B C D E:=rfl
section
variable (A B:Int) (C:Bs) (D:Int) (E:Val)
theorem eva:EvO Gen.a (Mu A B C D E) (some (Y5 A)):=Jy rfl
theorem evb:EvO Gen.b (Mu A B C D E) (some (Y5 B)):=Jy rfl
theorem evc:EvO Gen.c (Mu A B C D E) (some (.mk 1 0 C [] [])):=Jy rfl
theorem evd:EvO Gen.d (Mu A B C D E) (some (.mk 2 D [] [] [])):=Jy rfl
theorem eve:EvO Gen.e (Mu A B C D E) (some E):=Jy rfl
theorem ev1 {env:List (Bs × Val)}:EvO Gen.one env (some (Y5 1)):=evo_int 1
theorem evy {env:List (Bs × Val)}:EvO Gen.yes env (some (Xr true)):=evo_bool 1
theorem Lp {env:List (Bs × Val)} {x y:Ex} {u v:Val} (hne:y≠x) (hx:EvO x env (some u)) (hy:EvO y env (some v)):EvO (.mk 9 [] 0 [] [] [] [x,y] 0 0) env (some (.mk 5 0 [] [] [u,v])):=by
 classical
 have h:=ev_list [] 0 [] [] [] [x,y] 0 0 env (fun e=>if e=x then some u else some v) Qqk (fun e A=>by
  rcases Z3.1 A with rfl | A
  ·simp only [if_true];exact hx
  obtain rfl:=Z5.1 A
  simp only [if_neg hne];exact hy)
 have e:Jz (fun e=>if e=x then some u else some v) [x,y]=some [u,v]:=by
  simp [Jz,hne]
 rw [e] at h
 exact h
theorem T6 {env:List (Bs × Val)} {x y:Ex} {o:Bs} (ho:IsBin o) (hx:EvO x env none):EvO (Gen.op o [x,y]) env none:=
 B6 o 0 [] [] [] [x,y] 0 0 env none fun lb S0 W _ H=>op_no0 _ lb enK S0 o W ho (fun W' hb hl=>H 0 x _ rfl hx W' hb hl)
theorem Tp {env:List (Bs × Val)} {u v:Val} (ha:EvO Gen.a env (some u)) (hb:EvO Gen.b env (some v)):EvO Gen.rec env (some (V8 [[120],[121]] [v,u])):=by
 classical
 refine ev_rec [] 0 [] [[121],[120]] [] [Gen.a,Gen.b] 0 0 env (fun e=>if e=Gen.a then some u else some v) [u,v] _ (fun e A=>?_) ?_ (rec_xy u v)
 ·rcases Z3.1 A with rfl | A
  ·simp only [if_true];exact ha
  obtain rfl:=Z5.1 A
  rw [if_neg (by simp [Gen.a,Gen.b,Gen.var])];exact hb
 have D:¬ Gen.b=Gen.a:=by simp [Gen.a,Gen.b,Gen.var]
 simp [Jz,D]
theorem evo_fx {env:List (Bs × Val)} {u v:Val} (ha:EvO Gen.a env (some u)) (hb:EvO Gen.b env (some v)) (h1:EvO Gen.one env (some (Y5 1))):EvO (.mk 8 [120] 0 [] [] [] [Gen.wth] 0 0) env (some (Y5 1)):=
 Py [120] 0 [] [] [] Gen.wth 0 0 env (V8 [[120],[121]] [Y5 1,u]) (Y5 1)
  (ev_with [] 0 [] [[120]] [] Gen.rec Gen.one 0 0 env (V8 [[120],[121]] [v,u]) (Y5 1) _ [120] rfl (Tp ha hb) h1 rfl (fun S S1 cv cy w h1 h2=>Cf S S1 [120] [[121]] v [u] (Y5 1) cv cy w h1 h2)) rfl rfl
theorem evo_fy {env:List (Bs × Val)} {u v:Val} (ha:EvO Gen.a env (some u)) (hb:EvO Gen.b env (some v)):EvO (.mk 8 [121] 0 [] [] [] [Gen.rec] 0 0) env (some u):=
 Py [121] 0 [] [] [] Gen.rec 0 0 env (V8 [[120],[121]] [v,u]) u (Tp ha hb) rfl rfl
theorem isLt:Lh [60] fun c=>decide (c<0):=.inr (.inr (.inl ⟨rfl,rfl⟩))
theorem isLe:Lh [60,61] fun c=>decide (c≤0):=.inr (.inr (.inr ⟨rfl,rfl⟩))
theorem isEq:Lh [61,61] fun c=>c==0:=.inl ⟨rfl,rfl⟩
theorem isNe:Lh [33,61] fun c=>c != 0:=.inr (.inl ⟨rfl,rfl⟩)
theorem Gc (b:Bool):Ly (some (Xr b))=b:=by cases b <;> rfl
theorem chk_any (hD:D=0∨D=1) (hE:hueV E) (k:Nat) (hk:Vx (Gen.check k)=true):∃ r,EvO (Gen.check k) (Mu A B C D E) r∧Ly r=F9 (Y1 8 (Gen.check k) nmT (kdT A B C D E)):=by
 match k,hk with
 | 0,_=>exact ⟨_,evy,rfl⟩
 | 1,_=>exact ⟨_,evy,rfl⟩
 | 2,_=>exact ⟨_,evy,rfl⟩
 | 3,_=>
  refine ⟨_,Jx isLe (eva _ _ _ _ _) (Ry (.inl ⟨rfl,rfl⟩) (evb _ _ _ _ _) (Ry (.inr (.inr ⟨rfl,rfl⟩)) ev1 ev1)),?_⟩
  rw [rs_3,U2]
  exact Gc _
 | 4,_=>
  refine ⟨_,Wj (b:=false) (.inr ⟨rfl,rfl⟩) rfl (Bq _) (evd _ _ _ _ _) (Jx isNe (evc _ _ _ _ _) (T9 _ Qqx)),?_⟩
  rw [rs_4 _ _ _ _ _ hD]
  have h:∀ q:Int,Ly (some (Xr (if ((D==1)=false) then (Xr (q != 0)).n==1 else !false)))=(decide (D=1)||decide (q≠0)):=by
   intro q
   rcases hD with rfl | rfl
   ·by_cases hq:q=0 <;> simp [hq,Ly,Xr,Val.n,Val.kind]
   rfl
  exact h _
 | 5,_=>
  refine ⟨_,ev_if [] 0 [] [] [] _ _ _ 0 0 _ _ _ _ (evd _ _ _ _ _) (Jx isLt (eva _ _ _ _ _) (evb _ _ _ _ _)) (Jx isEq (evc _ _ _ _ _) (evc _ _ _ _ _)),?_⟩
  rw [rs_5 _ _ _ _ _ hD]
  rcases hD with rfl | rfl
  ·exact Gc _
  exact Gc _
 | 6,_=>
  refine ⟨_,ev_match [] 0 [] _ _ [110] _ _ _ 0 0 _ _ _ (fun u=>some (Xr (decide (Yz u (Y5 B)<0)))) Qqx (eve _ _ _ _ _) evy (fun u=>Jx isLt (Jy rfl) (Jy rfl)),?_⟩
  rcases hE with rfl | ⟨n,rfl⟩
  ·rw [rs_6r];rfl
  rw [rs_6d,U2]
  exact Gc _
 | 7,_=>
  refine ⟨_,Jx isLt (evo_fx (eva _ _ _ _ _) (evb _ _ _ _ _) ev1) (evo_fy (eva _ _ _ _ _) (evb _ _ _ _ _)),?_⟩
  rw [rs_7,U2]
  exact Gc _
 | 8,_=>
  refine ⟨letR (some (Y5 (IntKind.i64.wrap (A - B)))) (some (Xr (if ((Xr (decide (Yz (Y5 (IntKind.i64.wrap (A - B))) (Y5 1)<0))).n==1)=true then (Xr (!(D==1))).n==1 else !true))),ev_let [97] 0 [] [] [] _ _ 0 0 _ _ _ (Ry (.inr (.inl ⟨rfl,rfl⟩)) (eva _ _ _ _ _) (evb _ _ _ _ _)) (fun u hu=>by
   cases hu
   exact Wj (b:=true) (.inl ⟨rfl,rfl⟩) (Bq _) (Bq _) (Jx isLt (Jy rfl) ev1) (evo_not (u:=.mk 2 D [] [] []) rfl (Jy rfl))),?_⟩
  rw [rs_8 _ _ _ _ _ hD]
  have h:∀ q:Bool,Ly (some (Xr (if ((Xr q).n==1)=true then (Xr (!(D==1))).n==1 else !true)))=(q&&decide (D=0)):=by
   intro q
   rcases hD with rfl | rfl <;> cases q <;> rfl
  exact h _
 | 9,_=>
  have h:EvO (Gen.op [43,43] [Gen.c,Gen.c]) (Mu A B C D E) (if C.length+C.length≤4096 then some (.mk 1 0 (C++C) [] []) else none):=evo_cat (env:=Mu A B C D E) (x:=Gen.c) (y:=Gen.c) rfl rfl (evc A B C D E) (evc A B C D E)
  rw [rs_9]
  by_cases hl:C.length+C.length≤4096
  ·rw [if_pos hl] at h ⊢
   refine ⟨_,Jx isEq h (T9 _ Qqx),?_⟩
   rw [U2]
   exact Gc _
  rw [if_neg hl] at h ⊢
  exact ⟨none,T6 ⟨rfl,rfl,rfl⟩ h,rfl⟩
 | 10,_=>
  refine ⟨_,Rl (b:=true) (.inl ⟨rfl,rfl⟩) rfl (evd _ _ _ _ _) (Cp (v:=.mk 1 0 C [] []) (.inl ⟨rfl,rfl⟩) (by simp [Val.kind]) (eva _ _ _ _ _) (evc _ _ _ _ _)),?_⟩
  rw [rs_10 _ _ _ _ _ hD]
  rcases hD with rfl | rfl <;> rfl
 | 11,_=>
  refine ⟨_,Jx isNe (Lp (by simp [Gen.a,Gen.b,Gen.var]) (eva _ _ _ _ _) (evb _ _ _ _ _)) (Lp (by simp [Gen.a,Gen.one,Gen.var,Gen.int]) ev1 (eva _ _ _ _ _)),?_⟩
  rw [rs_11,U2]
  have h:∀ q:Int,Ly (some (Xr (q != 0)))=decide (q≠0):=by
   intro q
   by_cases hq:q=0 <;> simp [hq,Ly,Xr,Val.n,Val.kind]
  exact h _
 | k+12,hk=>exact absurd hk (by simp [Gen.check,Vx])
end
theorem sat_t {t:Tbl} {k:Nat} (hc:t.columns=[⟨[97],Gen.whole⟩,⟨[98],Gen.whole⟩,⟨[99],Gen.text⟩,⟨[100],Gen.yesno⟩,⟨[101],Gen.hueT⟩]) (hk:t.check=Gen.check k) {v:Val} (hv:Y2 v) (h:J9 [Gen.hue] t v=true):Bm t v (Vt 8 t v):=by
 obtain ⟨A,B,C,D,E,rfl,hE,hD⟩:=row_t hc hv h
 have e:Vt 8 t (rowV A B C D E)=(Vx (Gen.check k)&&F9 (Y1 8 (Gen.check k) nmT (kdT A B C D E))):=by
  unfold Vt;rw [hk];rfl
 rw [e]
 cases hs:Vx (Gen.check k) with
 | true=>
  obtain ⟨r,hr,hq⟩:=chk_any A B C D E hD hE k hs
  rw [Bool.true_and,← hq]
  exact fun G I M J w h0 N O=>Wd G I t _ M J r w N O (by rw [hk];exact hs) (by rw [hk,Qjl];exact hr) (by simp [rowV,V8,Val.names,Val.kids]) h0
 | false=>exact fun G I M J w _ N O=>sat_no G I t _ M J w N O (by rw [hk];exact hs)
theorem Wb {t:Tbl} (hk:t.check=Gen.yes) {v:Val} (hv:Y2 v):Bm t v (Vt 8 t v):=by
 have e:Vt 8 t v=Ly (some (Xr true)):=by unfold Vt;rw [hk];rfl
 rw [e]
 exact fun S0 S1 ct cr w h0 h1 h2=>Wd S0 S1 t _ ct cr _ w h1 h2 (by rw [hk];rfl) (by rw [hk];exact evy) hv.lens.1 h0
theorem Ea {P:Program} {T:Type} {r:Rd T} (t e:TypeId) (hu:P.underlying t=some (.slice e)) (hz:∀ w,(Go.sizeOf e).run P w=.ok r.k w) {S:Nat→Prop} {w:World} {p:Option Addr} {n cap:Nat} {l:List T} (h:Sl r S w (.slice p n cap) l) (hc:n≤cap) (k:Nat) (hk:k≤n):
  ∃ p2 c2,(∀ W,(Instr.slice t (.slice p n cap) (some (.int .i64 (k:Int))) none none).run P W=.ok (.slice p2 (n - k) c2) W)∧Sl r S w (.slice p2 (n - k) c2) (l.drop k)∧(l.drop k).length=n - k:=by
 have hn:l.length=n:=by
  obtain ⟨p',c',e,_⟩:=h.len
  simp only [Qr] at e
  exact e.2.1.symm
 obtain ⟨V1,V2,_,h2,_,A⟩:=Ux t e hu hz h ⟨p,cap,by rw [hn],Qqj⟩ k Qqj
 have hl:(l.drop k).length=n - k:=by rw [Zq,hn]
 obtain ⟨p2,c2,rfl,_⟩:=A.len
 rw [hl] at h2 A
 exact ⟨p2,c2,h2,A,hl⟩
structure Jn (s:Sc) (c:Nat) (l:List Rel):Prop where
 tabs:l.map Rel.table=s.tables.map Tbl.name
 rows:∀ r ∈ l,∀ v ∈ r.rows,Vp v
 few:∀ r ∈ l,r.rows.length≤c
theorem Ut.dy {s:Sc} {c:Nat} {l:List Rel} (h:Ut s c l):Jn s c l:=⟨h.tabs,h.rows,h.few⟩
theorem Jn.len {s:Sc} {c:Nat} {l:List Rel} (h:Jn s c l):l.length=s.tables.length:=by have:=congrArg List.length h.tabs;simpa using this
theorem Jn.mono {s:Sc} {c d:Nat} {l:List Rel} (h:Jn s c l) (hc:c≤d):Jn s d l:=⟨h.tabs,h.rows,fun r hr=>Qc (h.few r hr) hc⟩
theorem Jn.set {s:Sc} {c:Nat} {l:List Rel} (h:Jn s c l) {i:Nat} {r:Rel} (hr:l[i]?=some r) (zs:List Val) (hz:∀ v ∈ zs,Vp v) (hc:zs.length≤c):Jn s c (l.set i ⟨r.table,zs⟩):=by
 have D:∀ q ∈ l.set i ⟨r.table,zs⟩,q ∈ l∨q=⟨r.table,zs⟩:=fun q A=>List.mem_or_eq_of_mem_set A
 refine ⟨?_,fun q A u hu=>?_,fun q A=>?_⟩
 ·rw [← h.tabs,List.map_set]
  obtain ⟨h1,rfl⟩:=Qj hr
  apply List.ext_getElem?
  intro j
  rw [List.getElem?_set]
  split
  ·rename_i e
   subst e
   simp [h1]
  rfl
 ·rcases D q A with A | rfl
  ·exact h.rows q A u hu
  exact hz u hu
 rcases D q A with A | rfl
 ·exact h.few q A
 exact hc
theorem Jn.ins {s:Sc} {c:Nat} {l:List Rel} (h:Jn s c l) (x:Bs) (v:Val) (hv:Vp v):Jn s (c+1) (Dj l x v):=by
 cases ha:Ur l x with
 | none=>rw [Gp ha];exact h.mono (Nat.le_succ c)
 | some i=>
  obtain ⟨r,A⟩:∃ r,l[i]?=some r:=by
   unfold Ur at ha
   have:=(List.findIdx?_eq_some_iff_getElem.1 ha).1
   exact ⟨_,Qx this⟩
  rw [Gs ha A]
  have hm:=Qy A
  refine (h.mono (Nat.le_succ c)).set A _ (fun u D=>?_) ?_
  ·rcases Mz D with D | rfl
   ·exact h.rows r hm u D
   exact hv
  have:=Pg r.rows v;have:=h.few r hm;omega
theorem tabs_at {s:Sc} {l:List Rel} (ht:l.map Rel.table=s.tables.map Tbl.name) (hd:(s.tables.map Tbl.name).Nodup) {i:Nat} {t:Tbl} (h:s.tables[i]?=some t):Ur l t.name=some i:=by
 have hl:l.length=s.tables.length:=by have:=congrArg List.length ht;simpa using this
 have I:i<l.length:=by rw [hl];exact (Qj h).1
 have hn:∀ j (A:j<l.length),(l[j]).table=(s.tables.map Tbl.name)[j]'(by rw [← ht];simpa using A):=fun j A=>by
  have:(l.map Rel.table)[j]'(by simpa using A)=(l[j]).table:=Qqk
  rw [← this]
  simp only [ht]
 have G:(s.tables.map Tbl.name)[i]'(by rw [← ht];simpa using I)=t.name:=by
  obtain ⟨h1,rfl⟩:=Qj h
  simp
 unfold Ur
 refine List.findIdx?_eq_some_iff_getElem.2 ⟨I,by simp [hn i I,G],fun j A=>?_⟩
 have D:j<l.length:=Qqj
 have:(l[j]).table≠t.name:=by
  rw [hn j D,← G]
  intro e
  exact (List.pairwise_iff_getElem.1 hd) j i (by rw [← ht];simpa using D) (by rw [← ht];simpa using I) A e
 simpa using this
theorem Vp.dirty {v:Val} (h:Vp v) (hp:0<v.kids.length):Vp (.mk v.kind v.n v.s v.names (.mk 5 0 [] [] []::v.kids.drop 1)):=by
 obtain ⟨hg,hf⟩:=h
 refine ⟨?_,by show (_::_).length≤900;rw [List.length_cons,Zq];have:v.kids.length≤900:=hf;omega⟩
 have D:∀ kids:List Val,(∀ k ∈ kids,Y2 k)→∀ k ∈ (.mk 5 0 [] [] []::kids.drop 1:List Val),Y2 k:=fun kids A k h=>by
  rcases Z3.1 h with rfl | h
  ·exact .list [] (fun k h=>by cases h)
  exact A k (Zw h)
 have hL:∀ kids:List Val,0<kids.length→(.mk 5 0 [] [] []::kids.drop 1:List Val).length=kids.length:=fun kids h=>by
  rw [List.length_cons,Zq];omega
 cases hg with
 | int n=>exact absurd hp (Nat.lt_irrefl 0)
 | text s=>exact absurd hp (Nat.lt_irrefl 0)
 | bool n _=>exact absurd hp (Nat.lt_irrefl 0)
 | make s kids hs hl A=>exact .make s _ hs (Qc (Nat.le_of_eq (hL kids hp)) hl) (D kids A)
 | record names kids hl hn hs A=>exact .record names _ (hl.trans (hL kids hp).symm) hn hs (D kids A)
 | list kids A=>exact .list _ (D kids A)
theorem own_relP {E:TypeId} {S:Nat→Prop} {B g n cap:Nat} {w:World} {l:List Rel} {css:List (List Value)} (hl:l.length≤1000000) (hB:∀ b,B≤b→S b) (h:Own Yn E S B w (.slice (some ⟨g,0,none⟩) n cap) l css):Sl (Qju (fun b=>b≠g)) S w (.slice (some ⟨g,0,none⟩) n cap) l:=by
 have hO:Own (Qju (fun b=>b≠g)) E S B w (.slice (some ⟨g,0,none⟩) n cap) l css:=⟨h.row,⟨h.cs.len,fun i c x hc hx=>by
  obtain ⟨v,e,h1,h2,_⟩:=h.cs.R i c x hc hx
  exact ⟨v,e,h1,h2.mono (fun b _ hb=>⟨hb,fun e=>hb.2 (by rw [e];rfl)⟩)⟩⟩⟩
 exact hO.sl hl hB Qzx
def Fi (s:Sc) (c:Nat) (W0 wr:World) (v:Value) (n:Nat):Prop:=∃ l css,Jn s c l∧l.length=n∧Own Yn 70 (fun b=>W0≤b) W0 wr v l css
theorem Fi.grow {s:Sc} {c:Nat} {W0 wr wr':World} {v:Value} {n:Nat} (h:Fi s c W0 wr v n) (hb:Below wr wr wr'):Fi s c W0 wr' v n:=by
 obtain ⟨l,css,h1,h2,h3⟩:=h
 exact ⟨l,css,h1,h2,h3.below hb⟩
def DirtyIs (s:Sc) (w:World) (e:Ending) (w':World):Prop:=∃ l p cap,e=.returned (.slice p l.length cap)∧(∀ r ∈ l,(∀ v ∈ r.rows,Vp v)∧r.rows.length≤8)∧l.length≤s.tables.length∧(∃ d,l.map Rel.table=(s.tables.map Tbl.name).drop d)∧Sl Yn (fun b=>w≤b) w' (.slice p l.length cap) l∧Below w w w'
end Go.Proofs.YtdpibdpbgokmoaaGreatDoor
