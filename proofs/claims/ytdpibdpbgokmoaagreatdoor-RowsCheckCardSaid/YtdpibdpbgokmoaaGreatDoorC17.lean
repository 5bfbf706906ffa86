import Derived.Test.YtdpibdpbgokmoaaGreatDoorC16
set_option maxRecDepth 100000
set_option maxHeartbeats 400000000
namespace Go.Proofs.YtdpibdpbgokmoaaGreatDoor
open Go.RowKit Go.Shelf Go.Lib Tryz
theorem F7:∀ {l:List Bs} {x:Bs} {k:Nat} {y:Bs},(∀ (j:Nat) (z:Bs),j<k→l[j]?=some z→Yf z x<0)→l[k]?=some y→¬ Yf y x<0→below l x=k
 | [],_,_,_,_,hy,_=>by simp at hy
 | a::l,x,0,y,_,hy,hc=>by
  simp at hy;subst hy
  unfold below;rw [List.takeWhile_cons,if_neg (by simpa using hc)];rfl
 | a::l,x,k+1,y,h,hy,hc=>by
  have ha:=h 0 a Qqj rfl
  have:=F7 (l:=l) (x:=x) (k:=k) (y:=y) (fun j z hj hz=>h (j+1) z Qqj (by simpa using hz)) (by simpa using hy) hc
  unfold below at this ⊢
  rw [List.takeWhile_cons,if_pos (by simpa using ha),List.length_cons,this]
theorem Gi:∀ {l:List Bs} {x:Bs},(∀ (j:Nat) (z:Bs),l[j]?=some z→Yf z x<0)→below l x=l.length
 | [],_,_=>rfl
 | a::l,x,h=>by
  have ha:=h 0 a rfl
  have:=Gi (l:=l) (x:=x) (fun j z hz=>h (j+1) z (by simpa using hz))
  unfold below at this ⊢
  rw [List.takeWhile_cons,if_pos (by simpa using ha),List.length_cons,this,List.length_cons]
theorem Nl (l:List Bs) (x:Bs):below l x≤l.length:=by unfold below;exact (List.takeWhile_sublist _).length_le
theorem Uh {w w':World} {B:Nat} {e:TypeId} {sz n:Nat} {v:Value} {xs:List Value} (h:w.ownsRow B e sz v n xs) (hA:∀ b,b<w.heap.size→v.ownBlock=some b→w'.heap[b]?=w.heap[b]?):w'.ownsRow B e sz v n xs:=by
 refine ⟨h.1,?_⟩
 rcases h.2 with hn | ⟨g,cap,cur,rfl,hB,hg,rest⟩
 ·exact .inl hn
 refine .inr ⟨g,cap,cur,rfl,hB,?_,rest⟩
 rw [hA g (Array.getElem?_eq_some_iff.1 hg).1 rfl];exact hg
theorem vcs_mk (k n:Int) (s:Bs) (ns:List Bs) (ks:List Val) (p3:Option Addr) (k3:Nat) (p4:Option Addr) (k4:Nat):vcs (.mk k n s ns ks) p3 k3 p4 k4=[.int .i64 k,.int .i64 n,.string ⟨s.toArray⟩,.slice p3 ns.length k3,.slice p4 ks.length k4]:=rfl
def L0 (v:Val) (name:Bs) (x:Val):Val:=.mk v.kind v.n v.s (Xg v.names (below v.names name) name) (Xg v.kids (below v.names name) x)
def NewRec (S:Nat→Prop) (w:World) (u:Val) (e:Ending) (w':World):Prop:=∃ p3 k3 p4 k4,e=.returned (.agg (vcs u p3 k3 p4 k4).toArray)∧u.names.length≤k3∧u.kids.length≤k4∧Z9 (fun b=>S b∨w≤b) w' (vcs u p3 k3 p4 k4) u∧Below w w w'
theorem rins_any (S:Nat→Prop) (v x:Val) (name:Bs) (p3:Option Addr) (k3:Nat) (p4:Option Addr) (k4:Nat) (cx:List Value) (w:World) (hv0:Z9 S w (vcs v p3 k3 p4 k4) v) (hx0:Z9 S w cx x) (hc3:v.names.length≤k3) (hc4:v.kids.length≤k4) (hlen:v.names.length=v.kids.length) (hl1:v.names.length≤1000) (hnm:name.length≤1000000):
  Calls prog 108 #[.agg (vcs v p3 k3 p4 k4).toArray,sv name,cx] w (NewRec S w (L0 v name x)):=by
 have hv:Z9 (fun b=>S b∧b<w) w (vcs v p3 k3 p4 k4) v:=hv0.move (.refl _ _) (fun b hb h=>⟨h,hb⟩)
 have hx:Z9 (fun b=>S b∧b<w) w cx x:=hx0.move (.refl _ _) (fun b hb h=>⟨h,hb⟩)
 clear hv0 hx0
 obtain ⟨q3,l3,q4,l4,eJ,_⟩:=Z9.cells hx
 have gM:=Qq hx
 simp only [vcs] at eJ
 subst eJ
 obtain ⟨_,_,_,_,eT,cH,cG,gZ⟩:=Z9.cells hv
 simp only [vcs,List.cons.injEq,Qr,true_and,and_true] at eT
 obtain ⟨⟨rfl,rfl⟩,rfl,rfl⟩:=eT
 obtain ⟨n,hn⟩:=eX (v.names.length)
 have hm:v.kids.length=n:=Qqj
 have hO:below v.names name≤n:=by rw [← hn];exact Nl _ _
 unfold vcs
 rw [hn] at cH hc3 hl1 ⊢
 rw [hm] at cG hc4 ⊢
 obtain ⟨bT,fM,HN,HM⟩:=Qqp cH cG hn hm
 clear hx hv cH cG hn hm hlen
 obtain ⟨i0,j1,j2,j3,j4⟩:=Y9 (P:=prog) (t:=36) (z:=.agg zV) (n:=5) (b:=80) Qqy
 obtain ⟨HJ,bP,bQ,bR⟩:=Qqp j1 j2 j3 j4
 clear j1 j2 j3 j4
 obtain ⟨i9,j1,j2,j3,j4⟩:=Y9 (P:=prog) (t:=9) (z:=.string ⟨#[]⟩) (n:=1) (b:=16) Qqy
 obtain ⟨HS,aD,aE,aF⟩:=Qqp j1 j2 j3 j4
 clear j1 j2 j3 j4
 unfold sv
 go_enter func108,ntmps108
 go_wp2_with fail
 generalize aH:((w.alloc _).alloc _).alloc _=W1
 have eH:=eqB aH (Xm _ _ _ _)
 have cB:=eqH (b:=w.heap.size) aH (Zp _ _ _ _)
 have eC:=eqH (b:=w.heap.size+1) aH (Zo _ _ _ _)
 have cA:=eqH (b:=w.heap.size+1+1) aH (Zi _ _ _ _)
 obtain ⟨aQ,gC,gK,fQ⟩:=Qqp eH cB eC cA
 have hH:w.heap.size+2<W1.heap.size:=Z8 cA
 obtain ⟨c0,c1,c2,c3,c4⟩:=row5 cB
 clear aH eH cB eC cA
 go_loop [7] (fun i=>∃ k:Nat,k≤n∧i=.int .i64 k∧Aside (∀ (j:Nat) (y:Bs),j<k→v.names[j]?=some y→Yf y name<0)) (fun i=>n - (intOf i).toNat)
 case atStart=>exact ⟨0,Q8 _,rfl,fun j _ hj=>absurd hj (Z6 _)⟩
 obtain ⟨k,hk,rfl,A⟩:=hrel
 have cF:(∃ y,v.names[k]?=some y∧Yf y name<0)∨(below v.names name=k∧((∃ y,v.names[k]?=some y∧¬ Yf y name<0)∨k=n)):=by
  by_cases D:k<n
  ·obtain ⟨y,Y⟩:∃ y,v.names[k]?=some y:=⟨_,Qx (by rw [HN.out];exact D)⟩
   by_cases G:Yf y name<0
   ·exact .inl ⟨y,Y,G⟩
   exact .inr ⟨F7 A.out Y G,.inl ⟨y,Y,G⟩⟩
  have bA:k=n:=Qqj
  refine .inr ⟨?_,.inr bA⟩
  rw [bA,← HN.out]
  exact Gi (fun j z hz=>A.out j z (by have:=(Qj hz).1;have:=HN.out;omega) hz)
 rcases cF with ⟨y,Y,G⟩ | ⟨eR,cF⟩
 ·have D:k<n:=by have:=(Qj Y).1;have:=HN.out;omega
  have eL:(0:Int)≤(k:Int):=Qqj
  have eM:(k:Int)<(n:Int):=Qqj
  have aZ:decide (k<n)=true:=by simpa using D
  obtain ⟨b,hC,rfl,eU,-⟩:=(bT.out.below aQ.out).str Y
  have hq:Op.bytesLess y name=true:=by rw [(Vi y name).1];simpa using G
  have HC:=Qq G;have HY:=Qq Y
  clear G Y D
  go_wp2_with fail
  go_round
  case measure=>simp [intOf];omega
  case rel=>
   refine ⟨k+1,Qqj,by go_num,(show Aside _ from fun j z hj hz=>?_)⟩
   by_cases e:j=k
   ·subst e
    have:=HY.out
    rw [this] at hz
    cases hz
    exact HC.out
   exact A.out j z Qqj hz
 obtain ⟨V1,V2,hQ,hR,dV,dW⟩:=Ux (P:=prog) 33 9 underlying33 sizeOf9 bT.out (by rw [HN.out];exact ⟨_,_,rfl,hc3⟩) k (by rw [HN.out];exact hk)
 obtain ⟨V3,V4,hS,hT,dX,dY⟩:=Ux (P:=prog) 34 36 underlying34 sizeOf36 fM.out (by rw [HM.out];exact ⟨_,_,rfl,hc4⟩) k (by rw [HM.out];exact hk)
 obtain ⟨fY,fZ,gA,gB,fP⟩:=Qqr dV dW dX dY eR
 have eS:(v.names.take k).length=k:=by rw [Qm,HN.out];omega
 have eK:(v.names.drop k).length=n - k:=by rw [Zq,HN.out]
 have bN:(v.kids.take k).length=k:=by rw [Qm,HM.out];omega
 have bM:(v.kids.drop k).length=n - k:=by rw [Zq,HM.out]
 obtain ⟨bW,fK,aG,cP⟩:=Qqp eS eK bN bM
 clear dV dW dX dY eR eS eK bN bM A
 rcases cF with ⟨y,Y,G⟩ | bA
 focus
  have D:k<n:=by have:=(Qj Y).1;have:=HN.out;omega
  have eL:(0:Int)≤(k:Int):=Qqj
  have eM:(k:Int)<(n:Int):=Qqj
  have aZ:decide (k<n)=true:=by simpa using D
  obtain ⟨b,hC,rfl,eU,-⟩:=(bT.out.below aQ.out).str Y
  have hq:Op.bytesLess y name=false:=by rw [(Vi y name).1];simpa using G
  clear G Y D
  go_upto_region 5 with fail
  clear hq eU eL eM aZ
 rotate_left
 focus
  have aZ:decide (k<n)=false:=by simp;omega
  clear bA
  go_upto_region 5 with fail
  clear aZ
 all_goals
  have dC:Sl Zh (But (fun _=>True) (.slice none 0 0)) W1 V1 (v.names.take k):=(fY.out.mono (S':=But (fun _=>True) (.slice none 0 0)) (fun b _ h=>⟨trivial,fun e=>by cases e⟩)).below aQ.out
  have fG:=Qq dC
  have eN:([]:List Bs).length+(v.names.take k).length=k:=by rw [bW.out];simp
  have fN:=Qq eN
  clear dC eN
  go_upto_region 6 with (at_builtin;refine Xj (r:=Zh) Qqx Xx rfl (.tmp 26) (.tmp 30) _ rfl 9 i9 (.string ⟨#[]⟩) 16 underlying33 HS.out aD.out aE.out aF.out rfl Qqj (fun _=>True) (w+3) W1 (.slice none 0 0) [] [] rfl (Own.nil _ _ _ _ _) V1 (v.names.take k) rfl fG.out k fN.out Qqj Qqj ?_;intro pa ca cX wa dK dG;have cS:=Qq dK;have aA:=Qq dG;clear dK dG)
  rw [List.nil_append] at cS
  have eA:=kE aA.out.below Qqj gC.out;have eE:=kE aA.out.below Qqj gK.out;have dR:=kE aA.out.below Qqj fQ.out
  obtain ⟨gE,gN,fT⟩:=Qqo eA eE dR
  have hI:=aA.out.size
  clear eA eE dR
  have eI:Zh.R (But (fun _=>True) (.slice pa k ca)) wa [name] name:=⟨rfl,hnm⟩
  have cV:=Qq eI
  clear eI
  go_upto_region 7 with (at_builtin;refine Yl (r:=Zh) Qqx rfl (.tmp 32) (.tmp 34) _ rfl 9 i9 (.string ⟨#[]⟩) 16 underlying33 HS.out aD.out aE.out aF.out rfl Qqj (fun _=>True) (w+3) wa (.slice pa k ca) (v.names.take k) cX [name] name rfl cS.out rfl cV.out (by simp [Value.oneCell']) k bW.out Qqj Qqj ?_;intro pb cb cY wb dL dH;have cT:=Qq dL;have aB:=Qq dH;clear dL dH)
  have aV:=kE aB.out.below Qqj gE.out;have eF:=kE aB.out.below Qqj gN.out;have dS:=kE aB.out.below Qqj fT.out
  obtain ⟨gF,gO,fU⟩:=Qqo aV eF dS
  have hJ:=aB.out.size
  have aK:Below w w wb:=(aQ.out.trans (aA.out.below.mono Qqj)).trans (aB.out.below.mono Qqj)
  have dD:Sl Zh (But (fun _=>True) (.slice pb (k+1) cb)) wb V2 (v.names.drop k):=(fZ.out.mono (S':=But (fun _=>True) (.slice pb (k+1) cb)) (fun b hb _=>⟨trivial,fun e=>by have:=(cT.out.row.lt b e.symm).1;omega⟩)).below aK
  have eO:(v.names.take k++[name]).length+(v.names.drop k).length=n+1:=by rw [Ql,bW.out,fK.out];simp;omega
  have c3:=Qk _ _ 3 _ _ _ aV;have f3:=fA 3 aV
  simp only [Qf,Qg,Qh] at c3
  obtain ⟨fH,cQ,cM⟩:=Qqo dD eO aK
  clear aV eF dS dD eO aK
  go_upto_region 8 with (at_builtin;refine Xj (r:=Zh) Qqx Xx rfl (.tmp 36) (.tmp 40) _ rfl 9 i9 (.string ⟨#[]⟩) 16 underlying33 HS.out aD.out aE.out aF.out rfl Qqj (fun _=>True) (w+3) wb (.slice pb (k+1) cb) (v.names.take k++[name]) cY rfl cT.out V2 (v.names.drop k) rfl fH.out (n+1) cQ.out Qqj Qqj ?_;intro Z U M wc dM bY;have aW:=kE bY.below Qqj gF.out;have gW:=fA 3 aW;have gT:=rA3 aW;obtain ⟨bU,aR,gG⟩:=Qqo dM bY aW;clear dM bY aW)
  obtain ⟨W7,V⟩:=eX (wc.setCell ⟨w,3,none⟩ (.slice Z (n+1) U))
  rw [V]
  have cC:W7.heap[w.heap.size]?=some (.cells #[v.kind,v.n,v.s,.slice Z (n+1) U,.slice p4 n k4] 36 (0,0)):=by rw [← V,Qi _ _ _ _ _ _ gG.out];rfl
  have bB:∀ b,b≠w.heap.size→W7.heap[b]?=wc.heap[b]?:=fun b hb=>by rw [← V];exact Za hb
  have eD:=(bB (w+1) Qqj).trans (kE aR.out.below Qqj gO.out)
  have dQ:=(bB (w+1+1) Qqj).trans (kE aR.out.below Qqj fU.out)
  have hP:W7.heap.size=wc.heap.size:=by rw [← V];simp [World.setCell]
  have aJ:Below w w W7:=by rw [← V];exact (cM.out.trans (aR.out.below.mono Qqj)).setCell (p:=⟨w,3,none⟩) (Q9 _) _
  have bG:Own Zh 9 (fun _=>True) (w+3) W7 (.slice Z (n+1) U) (v.names.take k++[name]++v.names.drop k) M:=⟨Vw bU.out.row (Q9 _) (fun b hb _=>bB b Qqj),⟨bU.out.cs.len,fun i c x G hx=>bU.out.cs.R i c x G hx⟩⟩
  have hK:=aR.out.size
  obtain ⟨gD,gL,fR,cK,aC⟩:=Qqr cC eD dQ aJ bG
  have c4:=rA4 cC
  have dE:Sl Ze (But (fun b=>S b∧b<w) (.slice none 0 0)) W7 V3 (v.kids.take k):=(gA.out.mono (S':=But (fun b=>S b∧b<w) (.slice none 0 0)) (fun b _ h=>⟨h,fun e=>by cases e⟩)).below aJ
  have eP:([]:List Val).length+(v.kids.take k).length=k:=by rw [aG.out];simp
  have fI:=Qq dE;have fO:=Qq eP
  clear V cC bB eD dQ aJ bG dE eP c3 f3 gT gW
  go_upto_region 10 with (at_builtin;refine Xj (r:=Ze) Qqx Xw rfl (.tmp 43) (.tmp 47) _ rfl 36 i0 (.agg zV) 80 underlying34 HJ.out bP.out bQ.out bR.out rfl Qqj (fun b=>S b∧b<w) (w+3) W7 (.slice none 0 0) [] [] rfl (Own.nil _ _ _ _ _) V3 (v.kids.take k) rfl fI.out k fO.out Qqj Qqj ?_;intro pd cd cZ wd dN dI;have aT:=Qq dN;have O:=Qq dI;clear dN dI)
  rw [List.nil_append] at aT
  have eB:=kE O.out.below Qqj gD.out;have cE:=kE O.out.below Qqj gL.out;have dT:=kE O.out.below Qqj fR.out
  obtain ⟨gH,gP,fV⟩:=Qqo eB cE dT
  have hL:=O.out.size
  have bI:Own Zh 9 (fun _=>True) (w+3) wd (.slice Z (n+1) U) (v.names.take k++[name]++v.names.drop k) M:=⟨Vw aC.out.row (Q9 _) (fun b _ D=>O.out.other b D (fun e=>by cases e)),⟨aC.out.cs.len,fun i c x G hx=>aC.out.cs.R i c x G hx⟩⟩
  have aL:Below w w wd:=cK.out.trans (O.out.below.mono Qqj)
  have bK:Ze.R (But (fun b=>S b∧b<w) (.slice pd k cd)) wd (Qqg x q3 l3 q4 l4) x:=Z9.move gM.out (.of_below aL) (fun b hb h=>⟨h,fun e=>by have:=(aT.out.row.lt b e.symm).1;omega⟩)
  obtain ⟨x0,x1,x2,x3,x4⟩:=row5 cE
  obtain ⟨J,cN,cW⟩:=Qqo bI aL bK
  clear eB cE dT bI aL bK c4
  go_upto_region 11 with (at_builtin;refine Yl (r:=Ze) Qqx rfl (.tmp 49) (.tmp 51) _ rfl 36 i0 (.agg zV) 80 underlying34 HJ.out bP.out bQ.out bR.out rfl Qqj (fun b=>S b∧b<w) (w+3) wd (.slice pd k cd) (v.kids.take k) cZ (Qqg x q3 l3 q4 l4) x rfl aT.out rfl cW.out (by simp [Value.oneCell']) k aG.out Qqj Qqj ?_;intro pe ce dA we dO dJ;have bV:=Qq dO;have T:=Qq dJ;clear dO dJ)
  have cD:=kE T.out.below Qqj gH.out;have eG:=kE T.out.below Qqj gP.out;have dU:=kE T.out.below Qqj fV.out
  obtain ⟨gI,hN,fW⟩:=Qqo cD eG dU
  have hM:=T.out.size
  have bJ:Own Zh 9 (fun _=>True) (w+3) we (.slice Z (n+1) U) (v.names.take k++[name]++v.names.drop k) M:=⟨Uh J.out.row (fun b D aY=>T.out.other b D (fun e=>Ym aT.out.row J.out.row Qqx e.symm aY)),⟨J.out.cs.len,fun i c x G hx=>J.out.cs.R i c x G hx⟩⟩
  have aM:Below w w we:=cN.out.trans (T.out.below.mono Qqj)
  have dF:Sl Ze (But (fun b=>S b∧b<w) (.slice pe (k+1) ce)) we V4 (v.kids.drop k):=(gB.out.mono (S':=But (fun b=>S b∧b<w) (.slice pe (k+1) ce)) (fun b hb h=>⟨h,fun e=>by have:=(bV.out.row.lt b e.symm).1;omega⟩)).below aM
  have eQ:(v.kids.take k++[x]).length+(v.kids.drop k).length=n+1:=by rw [Ql,aG.out,cP.out];simp;omega
  have c4:=rA4 cD
  obtain ⟨I,cO,fJ,cR⟩:=Qqp bJ aM dF eQ
  clear cD eG dU bJ aM dF eQ x0 x1 x2 x3 x4
  go_upto_region 12 with (at_builtin;refine Xj (r:=Ze) Qqx Xw rfl (.tmp 53) (.tmp 57) _ rfl 36 i0 (.agg zV) 80 underlying34 HJ.out bP.out bQ.out bR.out rfl Qqj (fun b=>S b∧b<w) (w+3) we (.slice pe (k+1) ce) (v.kids.take k++[x]) dA rfl bV.out V4 (v.kids.drop k) rfl fJ.out (n+1) cR.out Qqj Qqj ?_;intro pf cf dB wf dP bZ;have aX:=kE bZ.below Qqj gI.out;have gX:=fA 4 aX;have gV:=rA4 aX;obtain ⟨cU,bS,gJ⟩:=Qqo dP bZ aX;clear dP bZ aX)
  obtain ⟨W8,aI⟩:=eX (wf.setCell ⟨w,4,none⟩ (.slice pf (n+1) cf))
  rw [aI]
  have dZ:W8.heap[w.heap.size]?=some (.cells #[v.kind,v.n,v.s,.slice Z (n+1) U,.slice pf (n+1) cf] 36 (0,0)):=by rw [← aI,Qi _ _ _ _ _ _ gJ.out];rfl
  have bC:∀ b,b≠w.heap.size→W8.heap[b]?=wf.heap[b]?:=fun b hb=>by rw [← aI];exact Za hb
  have aU:=(bC (w+1+1) Qqj).trans (kE bS.out.below Qqj fW.out)
  have bL:Below w w W8:=by rw [← aI];exact (cO.out.trans (bS.out.below.mono Qqj)).setCell (p:=⟨w,4,none⟩) (Q9 _) _
  have bH:Own Zh 9 (fun _=>False) (w+3) W8 (.slice Z (n+1) U) (v.names.take k++[name]++v.names.drop k) M:=⟨Uh I.out.row (fun b D aY=>(bC b (by have:=(I.out.row.lt b aY).1;omega)).trans (bS.out.other b D (fun e=>Ym bV.out.row I.out.row Qqx e.symm aY))),⟨I.out.cs.len,fun i c x G hx=>I.out.cs.R i c x G hx⟩⟩
  have bF:Own Ze 36 (fun b=>S b∧b<w) (w+3) W8 (.slice pf (n+1) cf) (v.kids.take k++[x]++v.kids.drop k) dB:=cU.out.move (Q9 _) (fun b _ h=>bC b (by
   rcases h with h | h
   ·have:=h.2;omega
   have:=(cU.out.row.lt b h).1;omega))
  obtain ⟨fS,cL,bE,bD⟩:=Qqp aU bL bH bF
  obtain ⟨e0,e1,e2,e3,e4⟩:=row5 dZ
  obtain ⟨r0,r1,r2,r3,r4⟩:=row5 aU
  obtain ⟨f0,f1,f2,f3,f4⟩:=frz5 aU
  clear aI dZ bC aU bL bH bF c4 gV gX
  go_wp2_with fail
  have hu:L0 v name x=.mk v.kind v.n v.s (v.names.take k++[name]++v.names.drop k) (v.kids.take k++[x]++v.kids.drop k):=by
   unfold L0 Xg;rw [fP.out];simp
  have aN:(v.names.take k++[name]++v.names.drop k).length=n+1:=by rw [Ql];have:=cQ.out;exact this
  have aO:(v.kids.take k++[x]++v.kids.drop k).length=n+1:=by rw [Ql];exact cR.out
  have N:vcs (L0 v name x) Z U pf cf=[.int .i64 v.kind,.int .i64 v.n,.string ⟨v.s.toArray⟩,.slice Z (n+1) U,.slice pf (n+1) cf]:=by rw [hu,vcs_mk,aN,aO]
  show bodyPost _ _ _ _ _ (Zl W8 (w+1+1) v.kind v.n v.s (.slice Z (n+1) U) (.slice pf (n+1) cf))
  refine Q7 (v:=.agg #[v.kind,v.n,v.s,.slice Z (n+1) U,.slice pf (n+1) cf]) (by simp [results,results108,go_sem,Zd fS.out]) rfl ⟨Z,U,pf,cf,by rw [N],?_,?_,?_,Zc cL.out Qqj⟩
  ·rw [hu];show (v.names.take k++[name]++v.names.drop k).length≤U;rw [aN];exact bE.out.cap.2
  ·rw [hu];show (v.kids.take k++[x]++v.kids.drop k).length≤cf;rw [aO];exact bD.out.cap.2
  rw [N,hu]
  refine Y8 gZ ?_ ?_
  ·exact ((bE.out.sl (S':=fun b=>w+3≤b) (by rw [aN];omega) (fun b hb=>hb) (fun b _ h=>h.elim)).frame (fun b hb _=>Zf (by have:w.heap.size+3≤b:=hb;omega))).mono (fun b _ hb=>.inr (by have:w.heap.size+3≤b:=hb;omega))
  refine ((bD.out.sl (S':=fun b=>(S b∧b<w)∨w+3≤b) (by rw [aO];omega) (fun b hb=>.inr hb) (fun b _ hb=>.inl hb)).frame (fun b hb _=>Zf Qqj)).mono (fun b _ hb=>?_)
  rcases hb with h | h
  ·exact .inl h.1
  exact .inr Qqj
end Go.Proofs.YtdpibdpbgokmoaaGreatDoor
