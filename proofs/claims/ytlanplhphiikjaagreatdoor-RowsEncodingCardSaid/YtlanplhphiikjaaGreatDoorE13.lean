import Derived.Test.YtlanplhphiikjaaGreatDoorE12
set_option maxRecDepth 100000
set_option maxHeartbeats 400000000
namespace Go.Proofs.YtlanplhphiikjaaGreatDoor
open Go.RowKit Go.Shelf Go.Lib Tryz
theorem Gv:∀ {l:List Bs} {x:Bs} {k:Nat} {y:Bs},(∀ (j:Nat) (z:Bs),j<k->l[j]?=some z->Yg z x<0)->l[k]?=some y->¬ Yg y x<0->below l x=k
 | [],_,_,_,_,hy,_=>by simp at hy
 | a::l,x,0,y,_,hy,hc=>by
  simp at hy;subst hy
  unfold below;rw [List.takeWhile_cons,if_neg (by simpa using hc)];rfl
 | a::l,x,k+1,y,h,hy,hc=>by
  have ha:=h 0 a Qvu rfl
  have:=Gv (l:=l) (x:=x) (k:=k) (y:=y) (fun j z hj hz=>h (j+1) z Qvu (by simpa using hz)) (by simpa using hy) hc
  unfold below at this |-
  rw [List.takeWhile_cons,if_pos (by simpa using ha),List.length_cons,this]
theorem Bi:∀ {l:List Bs} {x:Bs},(∀ (j:Nat) (z:Bs),l[j]?=some z->Yg z x<0)->below l x=l.length
 | [],_,_=>rfl
 | a::l,x,h=>by
  have ha:=h 0 a rfl
  have:=Bi (l:=l) (x:=x) (fun j z hz=>h (j+1) z (by simpa using hz))
  unfold below at this |-
  rw [List.takeWhile_cons,if_pos (by simpa using ha),List.length_cons,this,List.length_cons]
theorem Sg (l:List Bs) (x:Bs):below l x<=l.length:=by unfold below;exact (List.takeWhile_sublist _).length_le
theorem Us {w w':World} {B:Nat} {e:TypeId} {sz n:Nat} {v:Value} {xs:List Value} (h:w.ownsRow B e sz v n xs) (hA:∀ b,b<w.heap.size->v.ownBlock=some b->w'.heap[b]?=w.heap[b]?):w'.ownsRow B e sz v n xs:=by
 refine ⟨h.1,?_⟩
 rcases h.2 with hn | ⟨g,cap,cur,rfl,hB,hg,rest⟩
 ·exact .inl hn
 refine .inr ⟨g,cap,cur,rfl,hB,?_,rest⟩
 rw [hA g (Array.getElem?_eq_some_iff.1 hg).1 rfl];exact hg
theorem vcs_mk (k n:Int) (s:Bs) (ns:List Bs) (ks:List Val) (p3:Option Addr) (k3:Nat) (p4:Option Addr) (k4:Nat):vcs (.mk k n s ns ks) p3 k3 p4 k4=[.int .i64 k,.int .i64 n,.string ⟨s.toArray⟩,.slice p3 ns.length k3,.slice p4 ks.length k4]:=rfl
def Mo (v:Val) (name:Bs) (x:Val):Val:=.mk v.kind v.n v.s (X5 v.names (below v.names name) name) (X5 v.kids (below v.names name) x)
def NewRec (S:Nat->Prop) (w:World) (u:Val) (e:Ending) (w':World):Prop:=∃ p3 k3 p4 k4,e=.returned (.agg (vcs u p3 k3 p4 k4).toArray)/\u.names.length<=k3/\u.kids.length<=k4/\Za (fun b=>S b\/w<=b) w' (vcs u p3 k3 p4 k4) u/\Below w w w'
theorem rins_any (S:Nat->Prop) (v x:Val) (name:Bs) (p3:Option Addr) (k3:Nat) (p4:Option Addr) (k4:Nat) (cx:List Value) (w:World) (hv0:Za S w (vcs v p3 k3 p4 k4) v) (hx0:Za S w cx x) (hc3:v.names.length<=k3) (hc4:v.kids.length<=k4) (hlen:v.names.length=v.kids.length) (hl1:v.names.length<=1000) (hnm:name.length<=1000000):
  Calls prog 135 #[.agg (vcs v p3 k3 p4 k4).toArray,sv name,cx] w (NewRec S w (Mo v name x)):=by
 have hv:Za (fun b=>S b/\b<w) w (vcs v p3 k3 p4 k4) v:=hv0.move (.refl _ _) (fun b hb h=>⟨h,hb⟩)
 have hx:Za (fun b=>S b/\b<w) w cx x:=hx0.move (.refl _ _) (fun b hb h=>⟨h,hb⟩)
 clear hv0 hx0
 obtain ⟨q3,l3,q4,l4,eK,_⟩:=Za.cells hx
 have gN:=Qq hx
 simp only [vcs] at eK
 subst eK
 obtain ⟨_,_,_,_,eU,cI,cH,hA⟩:=Za.cells hv
 simp only [vcs,List.cons.injEq,Qr,true_and,and_true] at eU
 obtain ⟨⟨rfl,rfl⟩,rfl,rfl⟩:=eU
 obtain ⟨n,hn⟩:=eX (v.names.length)
 have hm:v.kids.length=n:=Qvu
 have hO:below v.names name<=n:=by rw [<- hn];exact Sg _ _
 unfold vcs
 rw [hn] at cI hc3 hl1 |-
 rw [hm] at cH hc4 |-
 obtain ⟨bU,fN,HN,HM⟩:=Qxo cI cH hn hm
 clear hx hv cI cH hn hm hlen
 obtain ⟨i0,j1,j2,j3,j4⟩:=Y4 (P:=prog) (t:=48) (z:=.agg zV) (n:=5) (b:=80) Qxx
 obtain ⟨HJ,bQ,bR,bS⟩:=Qxo j1 j2 j3 j4
 clear j1 j2 j3 j4
 obtain ⟨i9,j1,j2,j3,j4⟩:=Y4 (P:=prog) (t:=9) (z:=.string ⟨#[]⟩) (n:=1) (b:=16) Qxx
 obtain ⟨HS,aE,aF,aG⟩:=Qxo j1 j2 j3 j4
 clear j1 j2 j3 j4
 unfold sv
 go_enter func135,ntmps135
 go_wp2_with fail
 generalize aI:((w.alloc _).alloc _).alloc _=W1
 have eI:=eqB aI (U8 _ _ _ _)
 have cC:=eqH (b:=w.heap.size) aI (Yc _ _ _ _)
 have eD:=eqH (b:=w.heap.size+1) aI (Y8 _ _ _ _)
 have cB:=eqH (b:=w.heap.size+1+1) aI (Yz _ _ _ _)
 obtain ⟨aR,gD,gL,fR⟩:=Qxo eI cC eD cB
 have hH:w.heap.size+2<W1.heap.size:=Z8 cB
 obtain ⟨c0,c1,c2,c3,c4⟩:=row5 cC
 clear aI eI cC eD cB
 go_loop [7] (fun i=>∃ k:Nat,k<=n/\i=.int .i64 k/\Aside (∀ (j:Nat) (y:Bs),j<k->v.names[j]?=some y->Yg y name<0)) (fun i=>n - (intOf i).toNat)
 case atStart=>exact ⟨0,Q8 _,rfl,fun j _ hj=>absurd hj (Z6 _)⟩
 obtain ⟨k,hk,rfl,A⟩:=hrel
 have cG:(∃ y,v.names[k]?=some y/\Yg y name<0)\/(below v.names name=k/\((∃ y,v.names[k]?=some y/\¬ Yg y name<0)\/k=n)):=by
  by_cases D:k<n
  ·obtain ⟨y,Z⟩:∃ y,v.names[k]?=some y:=⟨_,Qx (by rw [HN.out];exact D)⟩
   by_cases I:Yg y name<0
   ·exact .inl ⟨y,Z,I⟩
   exact .inr ⟨Gv A.out Z I,.inl ⟨y,Z,I⟩⟩
  have bB:k=n:=Qvu
  refine .inr ⟨?_,.inr bB⟩
  rw [bB,<- HN.out]
  exact Bi (fun j z hz=>A.out j z (by have:=(Qj hz).1;have:=HN.out;omega) hz)
 rcases cG with ⟨y,Z,I⟩ | ⟨eS,cG⟩
 ·have D:k<n:=by have:=(Qj Z).1;have:=HN.out;omega
  have eM:(0:Int)<=(k:Int):=Qvu
  have eN:(k:Int)<(n:Int):=Qvu
  have bA:decide (k<n)=true:=by simpa using D
  obtain ⟨b,off,rfl,eV,-⟩:=(bU.out.below aR.out).str Z
  have hq:Op.bytesLess y name=true:=by rw [(Vc y name).1];simpa using I
  have HC:=Qq I;have HY:=Qq Z
  clear I Z D
  go_wp2_with fail
  go_round
  case measure=>simp [intOf];omega
  case rel=>
   refine ⟨k+1,Qvu,by go_num,(show Aside _ from fun j z hj hz=>?_)⟩
   by_cases e:j=k
   ·subst e
    have:=HY.out
    rw [this] at hz
    cases hz
    exact HC.out
   exact A.out j z Qvu hz
 obtain ⟨V1,V2,hQ,hR,dW,dX⟩:=Va (P:=prog) 46 9 underlying46 sizeOf9 bU.out (by rw [HN.out];exact ⟨_,_,rfl,hc3⟩) k (by rw [HN.out];exact hk)
 obtain ⟨V3,V4,hS,hT,dY,dZ⟩:=Va (P:=prog) 40 48 underlying40 sizeOf48 fN.out (by rw [HM.out];exact ⟨_,_,rfl,hc4⟩) k (by rw [HM.out];exact hk)
 obtain ⟨fZ,gA,gB,gC,fQ⟩:=Qxp dW dX dY dZ eS
 have eT:(v.names.take k).length=k:=by rw [Qm,HN.out];omega
 have eL:(v.names.drop k).length=n - k:=by rw [Zq,HN.out]
 have bO:(v.kids.take k).length=k:=by rw [Qm,HM.out];omega
 have bN:(v.kids.drop k).length=n - k:=by rw [Zq,HM.out]
 obtain ⟨bX,fL,aH,cQ⟩:=Qxo eT eL bO bN
 clear dW dX dY dZ eS eT eL bO bN A
 rcases cG with ⟨y,Z,I⟩ | bB
 focus
  have D:k<n:=by have:=(Qj Z).1;have:=HN.out;omega
  have eM:(0:Int)<=(k:Int):=Qvu
  have eN:(k:Int)<(n:Int):=Qvu
  have bA:decide (k<n)=true:=by simpa using D
  obtain ⟨b,off,rfl,eV,-⟩:=(bU.out.below aR.out).str Z
  have hq:Op.bytesLess y name=false:=by rw [(Vc y name).1];simpa using I
  clear I Z D
  go_upto_region 5 with fail
  clear hq eV eM eN bA
 rotate_left
 focus
  have bA:decide (k<n)=false:=by simp;omega
  clear bB
  go_upto_region 5 with fail
  clear bA
 all_goals
  have dD:Sl Zg (But (fun _=>True) (.slice none 0 0)) W1 V1 (v.names.take k):=(fZ.out.mono (S':=But (fun _=>True) (.slice none 0 0)) (fun b _ h=>⟨trivial,fun e=>by cases e⟩)).below aR.out
  have fH:=Qq dD
  have eO:([]:List Bs).length+(v.names.take k).length=k:=by rw [bX.out];simp
  have fO:=Qq eO
  clear dD eO
  go_upto_region 6 with (at_builtin;refine Yn (r:=Zg) Qxv Vq rfl (.tmp 26) (.tmp 30) _ rfl 9 i9 (.string ⟨#[]⟩) 16 underlying46 HS.out aE.out aF.out aG.out rfl Qvu (fun _=>True) (w+3) W1 (.slice none 0 0) [] [] rfl (Own.nil _ _ _ _ _) V1 (v.names.take k) rfl fH.out k fO.out Qvu Qvu ?_;intro pa ca cY wa dL dH;have cT:=Qq dL;have aB:=Qq dH;clear dL dH)
  rw [List.nil_append] at cT
  have eB:=kE aB.out.below Qvu gD.out;have eF:=kE aB.out.below Qvu gL.out;have dS:=kE aB.out.below Qvu fR.out
  obtain ⟨gF,gO,fU⟩:=Qxn eB eF dS
  have hI:=aB.out.size
  clear eB eF dS
  have eJ:Zg.R (But (fun _=>True) (.slice pa k ca)) wa [name] name:=⟨rfl,hnm⟩
  have cW:=Qq eJ
  clear eJ
  go_upto_region 7 with (at_builtin;refine Yf (r:=Zg) Qxv rfl (.tmp 32) (.tmp 34) _ rfl 9 i9 (.string ⟨#[]⟩) 16 underlying46 HS.out aE.out aF.out aG.out rfl Qvu (fun _=>True) (w+3) wa (.slice pa k ca) (v.names.take k) cY [name] name rfl cT.out rfl cW.out (by simp [Value.oneCell']) k bX.out Qvu Qvu ?_;intro pb cb cZ wb dM dI;have cU:=Qq dM;have aC:=Qq dI;clear dM dI)
  have aW:=kE aC.out.below Qvu gF.out;have eG:=kE aC.out.below Qvu gO.out;have dT:=kE aC.out.below Qvu fU.out
  obtain ⟨gG,gP,fV⟩:=Qxn aW eG dT
  have hJ:=aC.out.size
  have aL:Below w w wb:=(aR.out.trans (aB.out.below.mono Qvu)).trans (aC.out.below.mono Qvu)
  have dE:Sl Zg (But (fun _=>True) (.slice pb (k+1) cb)) wb V2 (v.names.drop k):=(gA.out.mono (S':=But (fun _=>True) (.slice pb (k+1) cb)) (fun b hb _=>⟨trivial,fun e=>by have:=(cU.out.row.lt b e.symm).1;omega⟩)).below aL
  have eP:(v.names.take k++[name]).length+(v.names.drop k).length=n+1:=by rw [Ql,bX.out,fL.out];simp;omega
  have c3:=Qk _ _ 3 _ _ _ aW;have f3:=fA 3 aW
  simp only [Qf,Qg,Qh] at c3
  obtain ⟨fI,cR,cN⟩:=Qxn dE eP aL
  clear aW eG dT dE eP aL
  go_upto_region 8 with (at_builtin;refine Yn (r:=Zg) Qxv Vq rfl (.tmp 36) (.tmp 40) _ rfl 9 i9 (.string ⟨#[]⟩) 16 underlying46 HS.out aE.out aF.out aG.out rfl Qvu (fun _=>True) (w+3) wb (.slice pb (k+1) cb) (v.names.take k++[name]) cZ rfl cU.out V2 (v.names.drop k) rfl fI.out (n+1) cR.out Qvu Qvu ?_;intro pc V N wc dN bZ;have aX:=kE bZ.below Qvu gG.out;have gX:=fA 3 aX;have gU:=rA3 aX;obtain ⟨bV,aS,gH⟩:=Qxn dN bZ aX;clear dN bZ aX)
  obtain ⟨W7,Y⟩:=eX (wc.setCell ⟨w,3,none⟩ (.slice pc (n+1) V))
  rw [Y]
  have cD:W7.heap[w.heap.size]?=some (.cells #[v.kind,v.n,v.s,.slice pc (n+1) V,.slice p4 n k4] 48 (0,0)):=by rw [<- Y,Qi _ _ _ _ _ _ gH.out];rfl
  have bC:∀ b,b≠w.heap.size->W7.heap[b]?=wc.heap[b]?:=fun b hb=>by rw [<- Y];exact Z9 hb
  have eE:=(bC (w+1) Qvu).trans (kE aS.out.below Qvu gP.out)
  have dR:=(bC (w+1+1) Qvu).trans (kE aS.out.below Qvu fV.out)
  have hP:W7.heap.size=wc.heap.size:=by rw [<- Y];simp [World.setCell]
  have aK:Below w w W7:=by rw [<- Y];exact (cN.out.trans (aS.out.below.mono Qvu)).setCell (p:=⟨w,3,none⟩) (Q9 _) _
  have bH:Own Zg 9 (fun _=>True) (w+3) W7 (.slice pc (n+1) V) (v.names.take k++[name]++v.names.drop k) N:=⟨Vl bV.out.row (Q9 _) (fun b hb _=>bC b Qvu),⟨bV.out.cs.len,fun i c x I hx=>bV.out.cs.R i c x I hx⟩⟩
  have hK:=aS.out.size
  obtain ⟨gE,gM,fS,cL,aD⟩:=Qxp cD eE dR aK bH
  have c4:=rA4 cD
  have dF:Sl Zc (But (fun b=>S b/\b<w) (.slice none 0 0)) W7 V3 (v.kids.take k):=(gB.out.mono (S':=But (fun b=>S b/\b<w) (.slice none 0 0)) (fun b _ h=>⟨h,fun e=>by cases e⟩)).below aK
  have eQ:([]:List Val).length+(v.kids.take k).length=k:=by rw [aH.out];simp
  have fJ:=Qq dF;have fP:=Qq eQ
  clear Y cD bC eE dR aK bH dF eQ c3 f3 gU gX
  go_upto_region 10 with (at_builtin;refine Yn (r:=Zc) Qxv Xg rfl (.tmp 43) (.tmp 47) _ rfl 48 i0 (.agg zV) 80 underlying40 HJ.out bQ.out bR.out bS.out rfl Qvu (fun b=>S b/\b<w) (w+3) W7 (.slice none 0 0) [] [] rfl (Own.nil _ _ _ _ _) V3 (v.kids.take k) rfl fJ.out k fP.out Qvu Qvu ?_;intro pd cd dA wd dO dJ;have aU:=Qq dO;have T:=Qq dJ;clear dO dJ)
  rw [List.nil_append] at aU
  have eC:=kE T.out.below Qvu gE.out;have cF:=kE T.out.below Qvu gM.out;have dU:=kE T.out.below Qvu fS.out
  obtain ⟨gI,gQ,fW⟩:=Qxn eC cF dU
  have hL:=T.out.size
  have bJ:Own Zg 9 (fun _=>True) (w+3) wd (.slice pc (n+1) V) (v.names.take k++[name]++v.names.drop k) N:=⟨Vl aD.out.row (Q9 _) (fun b _ D=>T.out.other b D (fun e=>by cases e)),⟨aD.out.cs.len,fun i c x I hx=>aD.out.cs.R i c x I hx⟩⟩
  have aM:Below w w wd:=cL.out.trans (T.out.below.mono Qvu)
  have bL:Zc.R (But (fun b=>S b/\b<w) (.slice pd k cd)) wd (Qxf x q3 l3 q4 l4) x:=Za.move gN.out (.of_below aM) (fun b hb h=>⟨h,fun e=>by have:=(aU.out.row.lt b e.symm).1;omega⟩)
  obtain ⟨x0,x1,x2,x3,x4⟩:=row5 cF
  obtain ⟨M,cO,cX⟩:=Qxn bJ aM bL
  clear eC cF dU bJ aM bL c4
  go_upto_region 11 with (at_builtin;refine Yf (r:=Zc) Qxv rfl (.tmp 49) (.tmp 51) _ rfl 48 i0 (.agg zV) 80 underlying40 HJ.out bQ.out bR.out bS.out rfl Qvu (fun b=>S b/\b<w) (w+3) wd (.slice pd k cd) (v.kids.take k) dA (Qxf x q3 l3 q4 l4) x rfl aU.out rfl cX.out (by simp [Value.oneCell']) k aH.out Qvu Qvu ?_;intro pe ce dB we dP dK;have bW:=Qq dP;have U:=Qq dK;clear dP dK)
  have cE:=kE U.out.below Qvu gI.out;have eH:=kE U.out.below Qvu gQ.out;have dV:=kE U.out.below Qvu fW.out
  obtain ⟨gJ,hN,fX⟩:=Qxn cE eH dV
  have hM:=U.out.size
  have bK:Own Zg 9 (fun _=>True) (w+3) we (.slice pc (n+1) V) (v.names.take k++[name]++v.names.drop k) N:=⟨Us M.out.row (fun b D aZ=>U.out.other b D (fun e=>Yp aU.out.row M.out.row Qxv e.symm aZ)),⟨M.out.cs.len,fun i c x I hx=>M.out.cs.R i c x I hx⟩⟩
  have aN:Below w w we:=cO.out.trans (U.out.below.mono Qvu)
  have dG:Sl Zc (But (fun b=>S b/\b<w) (.slice pe (k+1) ce)) we V4 (v.kids.drop k):=(gC.out.mono (S':=But (fun b=>S b/\b<w) (.slice pe (k+1) ce)) (fun b hb h=>⟨h,fun e=>by have:=(bW.out.row.lt b e.symm).1;omega⟩)).below aN
  have eR:(v.kids.take k++[x]).length+(v.kids.drop k).length=n+1:=by rw [Ql,aH.out,cQ.out];simp;omega
  have c4:=rA4 cE
  obtain ⟨J,cP,fK,cS⟩:=Qxo bK aN dG eR
  clear cE eH dV bK aN dG eR x0 x1 x2 x3 x4
  go_upto_region 12 with (at_builtin;refine Yn (r:=Zc) Qxv Xg rfl (.tmp 53) (.tmp 57) _ rfl 48 i0 (.agg zV) 80 underlying40 HJ.out bQ.out bR.out bS.out rfl Qvu (fun b=>S b/\b<w) (w+3) we (.slice pe (k+1) ce) (v.kids.take k++[x]) dB rfl bW.out V4 (v.kids.drop k) rfl fK.out (n+1) cS.out Qvu Qvu ?_;intro pf cf dC wf dQ cA;have aY:=kE cA.below Qvu gJ.out;have gY:=fA 4 aY;have gW:=rA4 aY;obtain ⟨cV,bT,gK⟩:=Qxn dQ cA aY;clear dQ cA aY)
  obtain ⟨W8,aJ⟩:=eX (wf.setCell ⟨w,4,none⟩ (.slice pf (n+1) cf))
  rw [aJ]
  have eA:W8.heap[w.heap.size]?=some (.cells #[v.kind,v.n,v.s,.slice pc (n+1) V,.slice pf (n+1) cf] 48 (0,0)):=by rw [<- aJ,Qi _ _ _ _ _ _ gK.out];rfl
  have bD:∀ b,b≠w.heap.size->W8.heap[b]?=wf.heap[b]?:=fun b hb=>by rw [<- aJ];exact Z9 hb
  have aV:=(bD (w+1+1) Qvu).trans (kE bT.out.below Qvu fX.out)
  have bM:Below w w W8:=by rw [<- aJ];exact (cP.out.trans (bT.out.below.mono Qvu)).setCell (p:=⟨w,4,none⟩) (Q9 _) _
  have bI:Own Zg 9 (fun _=>False) (w+3) W8 (.slice pc (n+1) V) (v.names.take k++[name]++v.names.drop k) N:=⟨Us J.out.row (fun b D aZ=>(bD b (by have:=(J.out.row.lt b aZ).1;omega)).trans (bT.out.other b D (fun e=>Yp bW.out.row J.out.row Qxv e.symm aZ))),⟨J.out.cs.len,fun i c x I hx=>J.out.cs.R i c x I hx⟩⟩
  have bG:Own Zc 48 (fun b=>S b/\b<w) (w+3) W8 (.slice pf (n+1) cf) (v.kids.take k++[x]++v.kids.drop k) dC:=cV.out.move (Q9 _) (fun b _ h=>bD b (by
   rcases h with h | h
   ·have:=h.2;omega
   have:=(cV.out.row.lt b h).1;omega))
  obtain ⟨fT,cM,bF,bE⟩:=Qxo aV bM bI bG
  obtain ⟨e0,e1,e2,e3,e4⟩:=row5 eA
  obtain ⟨r0,r1,r2,r3,r4⟩:=row5 aV
  obtain ⟨f0,f1,f2,f3,f4⟩:=frz5 aV
  clear aJ eA bD aV bM bI bG c4 gW gY
  go_wp2_with fail
  have hu:Mo v name x=.mk v.kind v.n v.s (v.names.take k++[name]++v.names.drop k) (v.kids.take k++[x]++v.kids.drop k):=by
   unfold Mo X5;rw [fQ.out];simp
  have aO:(v.names.take k++[name]++v.names.drop k).length=n+1:=by rw [Ql];have:=cR.out;exact this
  have aP:(v.kids.take k++[x]++v.kids.drop k).length=n+1:=by rw [Ql];exact cS.out
  have O:vcs (Mo v name x) pc V pf cf=[.int .i64 v.kind,.int .i64 v.n,.string ⟨v.s.toArray⟩,.slice pc (n+1) V,.slice pf (n+1) cf]:=by rw [hu,vcs_mk,aO,aP]
  show bodyPost _ _ _ _ _ (Zp W8 (w+1+1) v.kind v.n v.s (.slice pc (n+1) V) (.slice pf (n+1) cf))
  refine Q7 (v:=.agg #[v.kind,v.n,v.s,.slice pc (n+1) V,.slice pf (n+1) cf]) (by simp [results,results135,go_sem,Zd fT.out]) rfl ⟨pc,V,pf,cf,by rw [O],?_,?_,?_,Zf cM.out Qvu⟩
  ·rw [hu];show (v.names.take k++[name]++v.names.drop k).length<=V;rw [aO];exact bF.out.cap.2
  ·rw [hu];show (v.kids.take k++[x]++v.kids.drop k).length<=cf;rw [aP];exact bE.out.cap.2
  rw [O,hu]
  refine Yi hA ?_ ?_
  ·exact ((bF.out.sl (S':=fun b=>w+3<=b) (by rw [aO];omega) (fun b hb=>hb) (fun b _ h=>h.elim)).frame (fun b hb _=>Zi (by have:w.heap.size+3<=b:=hb;omega))).mono (fun b _ hb=>.inr (by have:w.heap.size+3<=b:=hb;omega))
  refine ((bE.out.sl (S':=fun b=>(S b/\b<w)\/w+3<=b) (by rw [aP];omega) (fun b hb=>.inr hb) (fun b _ hb=>.inl hb)).frame (fun b hb _=>Zi Qvu)).mono (fun b _ hb=>?_)
  rcases hb with h | h
  ·exact .inl h.1
  exact .inr Qvu
def Jc (A:List Bs × List Val) (p:Bs × Val):List Bs × List Val:=(X5 A.1 (below A.1 p.1) p.1,X5 A.2 (below A.1 p.1) p.2)
def Yu (z:List (Bs × Val)):List Bs × List Val:=z.foldl Jc ([],[])
theorem Nd (z:List (Bs × Val)) (p:Bs × Val):Yu (z++[p])=Jc (Yu z) p:=by unfold Yu;rw [List.foldl_append];rfl
theorem Qvy {T:Type} (l:List T) (i:Nat) (x:T):(X5 l i x).length=l.length+1:=by unfold X5;simp;omega
theorem U9 (z:List (Bs × Val)):(Yu z).1.length=z.length/\(Yu z).2.length=z.length:=by
 have:∀ (z:List (Bs × Val)) (A:List Bs × List Val),(z.foldl Jc A).1.length=A.1.length+z.length/\(z.foldl Jc A).2.length=A.2.length+z.length:=by
  intro z
  induction z with
  | nil=>intro A;exact ⟨rfl,rfl⟩
  | cons p z ih=>
   intro A
   obtain ⟨h1,h2⟩:=ih (Jc A p)
   rw [List.foldl_cons,h1,h2]
   unfold Jc
   simp only [Qvy,List.length_cons]
   omega
 have:=this z ([],[])
 simpa [Yu] using this
def RecIs (S:Nat->Prop) (w:World) (names:List Bs) (vals:List Val) (e:Ending) (w':World):Prop:=Below w w w' /\
 ((∃ err:Int,err≠0/\e=.returned (.tuple #[.agg zV,err])/\¬ (names.length=vals.length/\∀ (i j:Nat) (x:Bs),i<j->names[i]?=some x->names[j]?=some x->False)) \/
  (∃ p3 k3 p4 k4,names.length=vals.length/\e=.returned (.tuple #[.agg (vcs (Jj (Yu (names.zip vals)).1 (Yu (names.zip vals)).2) p3 k3 p4 k4).toArray,Qxc])/\names.length<=k3/\names.length<=k4 /\
   Za (fun b=>S b\/w<=b) w' (vcs (Jj (Yu (names.zip vals)).1 (Yu (names.zip vals)).2) p3 k3 p4 k4) (Jj (Yu (names.zip vals)).1 (Yu (names.zip vals)).2)))
def Kb (S:Nat->Prop) (w:World) (z:List (Bs × Val)) (wx:World):Prop:=Below w w wx/\∃ p3 k3 p4 k4,z.length<=k3/\z.length<=k4 /\
 wx.heap[w.heap.size+1]?=some (.cells #[.int .i64 4,Qxc,Qxd,.slice p3 z.length k3,.slice p4 z.length k4] 48 (0,0))/\Za (fun b=>(S b/\b<w)\/w+2<=b) wx (vcs (Jj (Yu z).1 (Yu z).2) p3 k3 p4 k4) (Jj (Yu z).1 (Yu z).2) /\
 wx.heap[w.heap.size]?=some (.cells zV 48 (0,0))
theorem Hi (z:List (Bs × Val)) (p3:Option Addr) (k3:Nat) (p4:Option Addr) (k4:Nat):vcs (Jj (Yu z).1 (Yu z).2) p3 k3 p4 k4=[.int .i64 4,.int .i64 0,.string ⟨#[]⟩,.slice p3 z.length k3,.slice p4 z.length k4]:=by
 obtain ⟨h1,h2⟩:=U9 z
 unfold Jj
 rw [vcs_mk,h1,h2]
theorem Kb.below {S:Nat->Prop} {w wr wx:World} {z:List (Bs × Val)} (h:Kb S w z wr) (hb:Below wr wr wx):Kb S w z wx:=by
 obtain ⟨h1,p3,k3,p4,k4,h2,h3,h4,h5,h6⟩:=h
 exact ⟨h1.thn hb,p3,k3,p4,k4,h2,h3,kB hb h4,h5.move (.of_below hb) Qyv,kB hb h6⟩
theorem Kb.next {S:Nat->Prop} {w wr w2:World} {z:List (Bs × Val)} {name:Bs} {x:Val} {p3:Option Addr} {k3:Nat} {p4:Option Addr} {k4:Nat} (h:Kb S w z wr) (hb:Below wr wr w2) (h3:(Mo (Jj (Yu z).1 (Yu z).2) name x).names.length<=k3) (h4:(Mo (Jj (Yu z).1 (Yu z).2) name x).kids.length<=k4)
  (hv:Za (fun b=>((fun b=>(S b/\b<w)\/w+2<=b)) b\/wr<=b) w2 (vcs (Mo (Jj (Yu z).1 (Yu z).2) name x) p3 k3 p4 k4) (Mo (Jj (Yu z).1 (Yu z).2) name x)):
  vcs (Mo (Jj (Yu z).1 (Yu z).2) name x) p3 k3 p4 k4=[.int .i64 4,.int .i64 0,.string ⟨#[]⟩,.slice p3 (z.length+1) k3,.slice p4 (z.length+1) k4] /\
  Kb S w (z++[(name,x)]) (Zp w2 (w+1) (.int .i64 4) Qxc Qxd (.slice p3 (z.length+1) k3) (.slice p4 (z.length+1) k4)):=by
 have hu:Mo (Jj (Yu z).1 (Yu z).2) name x=Jj (Yu (z++[(name,x)])).1 (Yu (z++[(name,x)])).2:=by rw [Nd];rfl
 rw [hu] at h3 h4 hv |-
 have hc:=Hi (z++[(name,x)]) p3 k3 p4 k4
 obtain ⟨N,O⟩:=U9 (z++[(name,x)])
 have A:(z++[(name,x)]).length=z.length+1:=Qxz
 refine ⟨by rw [hc,A],?_⟩
 obtain ⟨J,V,T,Y,U,_,_,h7,_,h9⟩:=h
 have M:w.heap.size+1<wr.heap.size:=Z8 h7
 have D:=kE hb M h7
 have I:=kB hb h9
 refine ⟨Zf (J.thn hb) Qvu,p3,k3,p4,k4,by rw [A];have:(Yu (z++[(name,x)])).1.length<=k3:=h3;omega,by rw [A];have:(Yu (z++[(name,x)])).2.length<=k4:=h4;omega,by rw [A];exact Vx D,?_,by rw [Zi Qvu];exact I⟩
 refine (hv.move (S':=(fun b=>(S b/\b<w)\/w+2<=b)) (.refl _ _) (fun b _ h=>?_)).move (fun b hS _=>Zi ?_) (fun b _ h=>h)
 ·rcases h with h | h
  ·exact h
  exact .inr Qvu
 rcases hS with h | h <;> omega
theorem Hx (S:Nat->Prop) (nv vv:Value) (names:List Bs) (vals:List Val) (w:World) (hn0:Sl Zg S w nv names) (hv0:Sl Zc S w vv vals) (hw:∀ x ∈ names,V8 x) (hl:names.length<=1000):
  Calls prog 82 #[nv,vv] w (RecIs S w names vals):=by
 have hn:=hn0.up
 have hv:=hv0.up
 obtain ⟨np,nc,rfl,_⟩:=hn.len
 obtain ⟨vp,vc,rfl,dC⟩:=hv.len
 obtain ⟨aH,aW,HW⟩:=Qxn hn hv hw
 clear hn0 hv0 hn hv hw
 by_cases hlen:names.length=vals.length
 ·obtain ⟨n,aM⟩:=eX (names.length)
  have hm:vals.length=n:=Qvu
  obtain ⟨HN,HM,M⟩:=Qxn aM hm hlen
  rw [aM] at aH hl |-
  rw [hm] at aW dC |-
  have hq:((n:Int) != (n:Int))=false:=Qxz
  clear aM hm hlen
  go_enter func82,ntmps82
  go_wp2_with fail
  generalize Y:(w.alloc _).alloc _=W1
  have bE:Kb S w ((names.zip vals).take 0) W1:=by
   refine ⟨by rw [<- Y];exact Zu _ _ _,none,0,none,0,Q9 _,Q9 _,by rw [<- Y];exact Q6 _ _ _,?_,by rw [<- Y];exact Q5 _ _ _⟩
   exact Yi (s:=[]) Qxz (Sl.nil _ _ _) (Sl.nil _ _ _)
  have bZ:=Qq bE
  clear Y bE hq
  go_loopw [7,8] (fun i _ wr=>∃ k:Nat,k<=n/\i=.int .i64 k/\Aside (Kb S w ((names.zip vals).take k) wr)/\Aside (∀ (i j:Nat) (x:Bs),j<k->i<j->names[i]?=some x->names[j]?=some x->False)) (fun i _ _=>n - (intOf i).toNat)
  case atStart=>exact ⟨0,Q8 _,rfl,bZ.out,fun i j x hj=>absurd hj (Z6 _)⟩
  obtain ⟨k,hk,rfl,hM,hD⟩:=hrel
  have bD:Kb S w ((names.zip vals).take k) wr:=hM
  have cC:=Qq bD
  obtain ⟨bF,p3,k3,p4,k4,h3,h4,hX,bO,hZ⟩:=bD
  have aN:((names.zip vals).take k).length=k:=by rw [Qm,List.length_zip,HN.out,HM.out];omega
  rw [aN] at h3 h4 hX
  obtain ⟨HB,HX,aI,HZ,N,HD⟩:=Qxr bF hX bO hZ aN (show ∀ (i j:Nat) (x:Bs),j<k->i<j->names[i]?=some x->names[j]?=some x->False from hD)
  have cR:=Z8 hX
  clear hM hD bF hX bO hZ aN
  by_cases hlt:k<n
  ·have dL:(0:Int)<=(k:Int):=Qvu
   have dM:(k:Int)<(n:Int):=Qvu
   obtain ⟨nm,aA⟩:∃ y,names[k]?=some y:=⟨_,Qx (by rw [HN.out];exact hlt)⟩
   obtain ⟨x,hx⟩:∃ y,vals[k]?=some y:=⟨_,Qx (by rw [HM.out];exact hlt)⟩
   obtain ⟨nb,bQ,rfl,T,bM⟩:=(aH.out.below HB.out).str aA
   obtain ⟨vb,dI,q3,l3,q4,l4,rfl,V,bP,d0,d1,d2,d3,d4⟩:=(aW.out.below HB.out).val hx
   have dA:=Qv _ _ T
   have HF:=Qq (fun W=>L7 nm (HW.out nm (Qy aA)) W)
   unfold sv at HF
   obtain ⟨aG,cE,cD⟩:=Qxn aA hx bP
   clear aA hx bP
   go_wp2_with (go_at_call 134;refine (HF.out _).mono ?_;rintro e w5 ⟨rfl,aL⟩;have bW:=Qq aL;have U:=kD aL dA T;clear aL)
   obtain ⟨W5,rfl⟩:∃ W5:World,W5=w5:=⟨_,rfl⟩
   have bL:nb<W5.heap.size:=Qv _ _ U
   have aV:=Qq U;have bX:=Qq (Qe d0 (Qe d1 (Qe d2 (Qe d3 d4))))
   clear T U d0 d1 d2 d3 d4
   go_loopw [8] (fun i dH=>∃ j:Nat,j<=k/\i=.int .i64 j/\Aside (∀ (i:Nat) (y:Bs),i<j->names[i]?=some y->(y==nm)=false)/\Aside (Below W5 W5 dH)) (fun i _=>k - (intOf i).toNat)
   case atStart=>exact ⟨0,Q8 _,rfl,fun i y hi=>absurd hi (Z6 _),Qz _ _⟩
   obtain ⟨j,hj,rfl,A,bC⟩:=hrel
   have aE:=Qq (show Below W5 W5 wr from bC)
   have I:=Qq (bW.out.thn aE.out)
   clear bC
   have T:=kD aE.out bL aV.out
   by_cases hlt2:j<k
   ·have dO:(0:Int)<=(j:Int):=Qvu
    have cT:(j:Int)<(n:Int):=Qvu
    have cU:(j:Int)<(k:Int):=Qvu
    obtain ⟨y,hy⟩:∃ y,names[j]?=some y:=⟨_,Qx (by rw [HN.out];omega)⟩
    obtain ⟨dG,aO,he,dF,-⟩:=(aH.out.below (HB.out.thn I.out)).str hy
    obtain ⟨rfl,rfl,-⟩:nb=dG/\bQ=aO/\True:=by simpa using he
    have HY:=Qq hy
    clear hy he
    by_cases heq:y=nm
    ·have hq:(y==nm)=true:=by rw [heq];simp
     have bY:=Qq heq
     have aK:=kB I.out HZ.out
     have dK:=Qq aK
     clear heq
     go_upto_region 12 with fail
     go_quiet (fail)
     clear hq dF T
     have Z:(wr.drewN nq).heap[w.heap.size]?=some (.cells zV 48 (0,0)):=aK
     have cF:=Qq Z
     obtain ⟨z0,z1,z2,z3,z4⟩:=row5 Z
     obtain ⟨f0,f1,f2,f3,f4⟩:=frz5 Z
     clear aK Z
     go_wp2_with fail
     show bodyPost _ _ _ _ _ (Zp (wr.drewN nq) w Qxc Qxc Qxd Qxe Qxe)
     refine Q7 (v:=.tuple #[.agg zV,.int .i64 8]) (by simp [results,results82,go_sem,Zd cF.out]) rfl ⟨Zf ((HB.out.thn I.out).thn (Zn _ _)) (Q9 _),.inl ⟨8,Qxv,rfl,fun h=>h.2 j k nm Qvu (by rw [<- bY.out];exact HY.out) aG.out⟩⟩
    have hq:(y==nm)=false:=by rw [<- Qt,beq_iff_eq];exact heq
    have HQ:=Qq hq
    clear heq
    go_wp2_with fail
    go_quiet (fail)
    go_wp2_with fail
    go_roundw
    case measure=>simp [intOf];omega
    case rel=>
     refine ⟨j+1,Qvu,by go_num,(show Aside _ from fun i z hi hz=>?_),aE.out.thn (Zn _ _)⟩
     by_cases e:i=j
     ·subst e
      have:=HY.out
      rw [this] at hz
      cases hz
      exact HQ.out
     exact A.out i z Qvu hz
   have cV:j=k:=Qvu
   subst cV
   have hd:=cC.out.below I.out
   have O:=kE I.out cR HX.out
   obtain ⟨c0,c1,c2,c3,c4⟩:=row5 O
   obtain ⟨f0,f1,f2,f3,f4⟩:=frz5 O
   obtain ⟨aX,aY,aZ,bA,bB⟩:=bX.out
   have d0:=kD I.out V aX;have d1:=kD I.out V aY;have d2:=kD I.out V aZ;have d3:=kD I.out V bA;have d4:=kD I.out V bB
   have aF:=Qq (fun W (hb:Below wr wr W)=>rins_any (fun b=>(S b/\b<w)\/w+2<=b) (Jj (Yu ((names.zip vals).take j)).1 (Yu ((names.zip vals).take j)).2) x nm p3 k3 p4 k4 (Qxf x q3 l3 q4 l4) W (aI.out.move (.of_below (I.out.thn hb)) Qyv) (cD.out.move (.of_below (I.out.thn hb)) (fun b _ h=>.inl h)) (by have:=(U9 ((names.zip vals).take j)).1;rw [N.out] at this;show (Yu ((names.zip vals).take j)).1.length<=k3;omega) (by have:=(U9 ((names.zip vals).take j)).2;rw [N.out] at this;show (Yu ((names.zip vals).take j)).2.length<=k4;omega)
    (by have h1:=(U9 ((names.zip vals).take j)).1;have h2:=(U9 ((names.zip vals).take j)).2;show (Yu ((names.zip vals).take j)).1.length=(Yu ((names.zip vals).take j)).2.length;omega) (by have:=(U9 ((names.zip vals).take j)).1;rw [N.out] at this;show (Yu ((names.zip vals).take j)).1.length<=1000;omega) bM)
   rw [Hi,N.out] at aF
   unfold sv at aF
   have cB:=Qq hd;have dJ:=Qq O
   have D:w.heap.size+1<wr.heap.size:=Z8 O
   clear hd O aX aY aZ bA bB
   have cT:(j:Int)<(n:Int):=Qvu
   have cU:¬ (j:Int)<(j:Int):=Qvu
   go_upto_region 14 with fail
   go_region_with (go_at_call 135;refine (aF.out _ (Qz _ _).drew).mono ?_;rintro e w7 ⟨r3,m3,r4,m4,rfl,bH,bI,bN,J⟩;have bK:=cB.out.next ((Qz _ wr).drew.thn J) bH bI bN;rw [N.out] at bK;obtain ⟨aC,bJ⟩:=bK;rw [aC];have cA:=Qq bJ;have g0:=Qyx ((Qz _ wr).drew.thn J) D f0;have g1:=Qyx ((Qz _ wr).drew.thn J) D f1;have g2:=Qyx ((Qz _ wr).drew.thn J) D f2;have g3:=Qyx ((Qz _ wr).drew.thn J) D f3;have g4:=Qyx ((Qz _ wr).drew.thn J) D f4;have e0:=kD ((Qz _ wr).drew.thn J) D c0;have e1:=kD ((Qz _ wr).drew.thn J) D c1;have e2:=kD ((Qz _ wr).drew.thn J) D c2;have e3:=kD ((Qz _ wr).drew.thn J) D c3;have e4:=kD ((Qz _ wr).drew.thn J) D c4;clear bH bI bN J bJ aC)
   all_goals
    go_wp2_with fail
    go_roundw
    case measure=>simp [intOf];omega
    case rel=>
     refine ⟨j+1,Qvu,by go_num,(show Aside _ from ?_),(show Aside _ from fun i j' z dN hi h1 h2=>?_)⟩
     ·have:(names.zip vals).take (j+1)=(names.zip vals).take j++[(nm,x)]:=by
       have cW:j<(names.zip vals).length:=by rw [List.length_zip,HN.out,HM.out];omega
       rw [Zz cW,List.getElem_zip]
       obtain ⟨_,e1⟩:=Qj aG.out
       obtain ⟨_,e2⟩:=Qj cE.out
       rw [e1,e2]
      show Kb S w _ _
      rw [this];exact cA.out
     by_cases e:j'=j
     ·subst e
      rw [aG.out] at h2
      cases h2
      have:=A.out i _ hi h1
      simp at this
     exact HD.out i j' z Qvu hi h1 h2
  have cX:k=n:=Qvu
  subst cX
  have hz:(names.zip vals).take k=names.zip vals:=Zj (by rw [List.length_zip,HN.out,HM.out];omega)
  rw [hz] at aI
  have aD:(names.zip vals).length=k:=by rw [List.length_zip,HN.out,HM.out];omega
  have hc:=Hi (names.zip vals) p3 k3 p4 k4
  rw [aD] at hc
  have HC:=Qq hc
  obtain ⟨c0,c1,c2,c3,c4⟩:=row5 HX.out
  obtain ⟨z0,z1,z2,z3,z4⟩:=row5 HZ.out
  obtain ⟨f0,f1,f2,f3,f4⟩:=frz5 HZ.out
  clear hz aD hc hlt
  go_wp2_with fail
  show bodyPost _ _ _ _ _ (Zp wr w (.int .i64 4) Qxc Qxd (.slice p3 k k3) (.slice p4 k k4))
  refine Q7 (v:=.tuple #[.agg #[.int .i64 4,Qxc,Qxd,.slice p3 k k3,.slice p4 k k4],Qxc]) (by simp [results,results82,go_sem,Zd HZ.out]) rfl ⟨Zf HB.out (Q9 _),.inr ⟨p3,k3,p4,k4,M.out,by rw [HC.out],by rw [HN.out];exact h3,by rw [HN.out];exact h4,?_⟩⟩
  refine aI.out.move (fun b hS _=>Zi ?_) (fun b _ hS=>?_)
  ·rcases hS with h | h <;> omega
  rcases hS with h | h
  ·exact .inl h.1
  exact .inr Qvu
 have hq:((names.length:Int) != (vals.length:Int))=true:=by rw [bne_iff_ne];omega
 have M:=Qq hlen
 clear hlen
 go_enter func82,ntmps82
 go_wp2_with fail
 exact Q7 (v:=.tuple #[.agg zV,.int .i64 1]) (by simp [results,results82,go_sem]) rfl ⟨Ze _ _,.inl ⟨1,Qxv,rfl,fun h=>M.out h.1⟩⟩
def Vh (n m:Int):Int:=(if n<0 then -(n+1) else n) % m
theorem Hy (n m:Int) (hm:0<m):0<=Vh n m/\Vh n m<m:=by
 unfold Vh;exact ⟨Int.emod_nonneg _ Qvu,Int.emod_lt_of_pos _ hm⟩
theorem ret_intE {k:IntKind} {a b:Int} (h:a=b):Ending.returned (.int k a)=.returned (.int k b):=by rw [h]
theorem Ma (n m:Int) (w:World) (hn1:-9223372036854775808<=n) (hn2:n<=9223372036854775807) (hm:1<=m) (hm2:m<=9223372036854775807):
  Calls prog 17 #[n,m] w fun e w'=>e=.returned (.int .i64 (Vh n m))/\w=w':=by
 have hz:(m==0)=false:=by simpa using (by omega:¬ m=0)
 by_cases h:n<0
 ·have A:Vh n m=(-(n+1)) % m:=by unfold Vh;rw [if_pos h]
  rw [A]
  clear A
  have h1:0<=-(n+1):=Qvu
  go_enter func17,ntmps17
  go_wp2
  go_ret
  exact ⟨ret_intE (by rw [<- Int.neg_tmod,Int.tmod_eq_emod_of_nonneg h1]),rfl⟩
 have A:Vh n m=n % m:=by unfold Vh;rw [if_neg h]
 rw [A]
 clear A
 go_enter func17,ntmps17
 go_wp2
 go_ret
 exact ⟨rfl,rfl⟩
def Yo (l:List Int) (i:Nat) (m:Int):Int:=match l[i]? with
 | some n=>Vh n m
 | none=>0
def Uh (l:List Int):Prop:=∀ n ∈ l,-9223372036854775808<=n/\n<=9223372036854775807
def L9 (w:World) (x:Val) (e:Ending) (w':World):Prop:=∃ cs,e=.returned (.agg cs.toArray)/\Za (fun b=>w<=b) w' cs x/\Below w w w'
theorem Y2 {T:Type} {r:Rd T} {S:Nat->Prop} {w:World} {b n:Nat} {E:TypeId} {cells:Array Value} {xs:List T} {css:List (List Value)} (hb:w.heap[b]?=some (.cells cells E (0,0))) (hS:S b) (hcs:Cs r S w css xs) (hc:css.flatten=cells.toList) (hn:n=xs.length) (hl:xs.length<=1000000):Sl r S w (.slice (some ⟨b,0,none⟩) n n) xs:=by
 subst hn
 refine Sl.of_css hl hcs hS (Array.getElem?_eq_some_iff.1 hb).1 (fun j u hu=>?_)
 rw [Nat.zero_add,Qk _ _ _ _ _ _ hb]
 rw [hc] at hu
 simpa using hu
theorem Ek (S:Nat->Prop) (w:World) (n:Int):Za S w [Qxc,n,Qxd,Qxe,Qxe] (Vr n):=Yi (s:=[]) Qxz (Sl.nil _ _ _) (Sl.nil _ _ _)
theorem Pt (S:Nat->Prop) (w:World) (a b:Bs) (ha:a.length<=1000000) (hb:b.length<=1000000):Cs Zg S w [[.string ⟨a.toArray⟩],[b]] [a,b]:=
 (Cs.one (r:=Zg) (x:=a) (show Zg.R S w [a] a from ⟨rfl,ha⟩)).app (Cs.one (r:=Zg) (x:=b) (show Zg.R S w [b] b from ⟨rfl,hb⟩))
theorem By (a b:Bs) (x y:Int) (w:World) (ha:a.length<=1000000) (hb:b.length<=1000000):
  Calls prog 48 #[sv a,x,sv b,y] w (L9 w (Jj [a,b] [Vr x,Vr y])):=by
 unfold sv
 go_enter func48,ntmps48
 go_wp2_with fail
 generalize A:((w.alloc _).alloc _).alloc _=W
 have h0:=eqH (b:=w.heap.size) A (Yc _ _ _ _)
 have h1:=eqH (b:=w.heap.size+1) A (Y8 _ _ _ _)
 have h2:=eqH (b:=w.heap.size+1+1) A (Yz _ _ _ _)
 have D:=eqB A (U8 _ _ _ _)
 refine Q7 (v:=.agg #[.int .i64 4,Qxc,Qxd,Qxa (w+1) 0 2 2,Qxa (w+1+1) 0 2 2]) (by simp [results,results48,go_sem,Qk _ _ _ _ _ _ h0]) rfl ⟨_,rfl,?_,D⟩
 refine Yi (s:=[]) Qxz ?_ ?_
 ·exact Y2 h1 (by show w<=w.heap.size+1;omega) (Pt _ _ a b ha hb) rfl rfl Qxz
 exact Y2 h2 (by show w<=w.heap.size+1+1;omega) ((Cs.one (r:=Zc) (Ek _ W x)).app (Cs.one (r:=Zc) (Ek _ W y))) rfl rfl Qxz
def D8:Nat->Bs->Option (Nat × Bs)
 | _,[]=>none
 | i,c::b=>
  if i=9/\1<c.toNat\/0<i/\c.toNat=0 then none
  else if c.toNat<128 then some (c.toNat,b)
  else match D8 (i+1) b with
   | none=>none
   | some (n,r)=>some (c.toNat - 128+128*n,r)
theorem L8 {n:Nat} (h:n<256):(UInt8.ofNat n).toNat=n:=by
 rw [UInt8.toNat_ofNat'];omega
theorem Sd (c:UInt8):UInt8.ofNat c.toNat=c:=by
 apply UInt8.toNat_inj.mp;rw [L8 c.toNat_lt]
theorem Cm {i:Nat} (h:i<=8):2 ^ (64 - 7*(i+1))*128=2 ^ (64 - 7*i):=by
 have:64 - 7*i=64 - 7*(i+1)+7:=Qvu
 rw [this,Nat.pow_add]
theorem dec_enc:∀ (n i:Nat) (r:Bs),i<=9->n<2 ^ (64 - 7*i)->(0<i->n≠0)->D8 i (vb n++r)=some (n,r):=by
 intro n
 induction n using Nat.strongRecOn with
 | _ n ih=>
  intro i r hi hn h0
  by_cases h:n<128
  ·rw [Kg h]
   simp only [List.cons_append,List.nil_append,D8,L8 (show n<256 by omega)]
   rw [if_neg,if_pos h]
   rintro (⟨rfl,A⟩ | ⟨A,h2⟩)
   ·simp at hn;omega
   exact h0 A h2
  rw [Ds h]
  have D:i<=8:=by
   rcases Nat.lt_or_ge i 9 with A | A
   ·omega
   obtain rfl:i=9:=Qvu
   simp at hn;omega
  have hp:=Cm D
  have A:=ih (n / 128) Qvu (i+1) r Qvu Qvu Qvu
  simp only [List.cons_append,D8,L8 (show n % 128+128<256 by omega),A]
  rw [if_neg Qvu,if_neg Qvu]
  simp only [Zv,Prod.mk.injEq,and_true]
  omega
theorem Qjw:∀ (b:Bs) (i n:Nat) (r:Bs),i<=9->D8 i b=some (n,r)->b=vb n++r/\n<2 ^ (64 - 7*i)/\(0<i->n≠0):=by
 intro b
 induction b with
 | nil=>intro i n r hi h;simp [D8] at h
 | cons c b ih=>
  intro i n r hi h
  rw [D8] at h
  have hc:=c.toNat_lt
  split at h
  ·cases h
  rename_i hA
  split at h
  ·rename_i hB
   simp only [Zv,Prod.mk.injEq] at h
   obtain ⟨rfl,rfl⟩:=h
   refine ⟨?_,?_,fun A D=>hA (Or.inr ⟨A,D⟩)⟩
   ·rw [Kg hB,Sd];rfl
   rcases Nat.lt_or_ge i 9 with A | A
   ·exact Qa hB (Nat.pow_le_pow_right (n:=2) Qvu (show 7<=64 - 7*i by omega))
   obtain rfl:i=9:=Qvu
   have:¬ 1<c.toNat:=fun D=>hA (Or.inl ⟨rfl,D⟩)
   simp;omega
  rename_i hB
  split at h
  ·cases h
  rename_i m q hq
  simp only [Zv,Prod.mk.injEq] at h
  obtain ⟨rfl,rfl⟩:=h
  have I:i<=8:=by
   rcases Nat.lt_or_ge i 9 with A | A
   ·omega
   exact absurd (Or.inl ⟨Qvu,Qvu⟩) hA
  obtain ⟨A,D,h3⟩:=ih (i+1) m q Qvu hq
  have hp:=Cm I
  have h4:=h3 Qvu
  refine ⟨?_,Qvu,fun _=>Qvu⟩
  rw [Ds Qvu,show (c.toNat - 128+128*m) % 128+128=c.toNat by omega,show (c.toNat - 128+128*m) / 128=m by omega,Sd,A]
  rfl
def Hc (z:Nat):Int:=if z % 2=0 then (z / 2:Nat) else -(z / 2:Nat) - 1
theorem unzz_zz (n:Int):Hc (zz n)=n:=by unfold Hc zz;split <;> split <;> omega
theorem zz_unzz (z:Nat):zz (Hc z)=z:=by unfold Hc zz;split <;> split <;> omega
def wI (n:Int):Bs:=vb (zz n)
def wT (s:Bs):Bs:=vb s.length++s
mutual
def Y6:Val->Bs
 | .mk k n s ns ks=>wI k++((if k=0\/k=2 then wI n else if k=1 then wT s else if k=3 then wT s++wI ks.length else wI ks.length)++Yt (k==4) ns ks)
def Yt:Bool->List Bs->List Val->Bs
 | _,_,[]=>[]
 | b,ns,v::ks=>(if b then wT (ns.headD []) else [])++(Y6 v++Yt b ns.tail ks)
end
def rdU:Option Bs->Nat × Option Bs
 | none=>(0,none)
 | some b=>match D8 0 b with
  | none=>(0,none)
  | some (n,r)=>(n,some r)
def rdI (o:Option Bs):Int × Option Bs:=(Hc (rdU o).1,(rdU o).2)
def rdT (o:Option Bs):Bs × Option Bs:=
 match rdU o with
 | (_,none)=>([],none)
 | (n,some r)=>if r.length<n then ([],none) else (r.take n,some (r.drop n))
theorem Cv {n:Nat} (h:n<2 ^ 64) (r:Bs):rdU (some (vb n++r))=(n,some r):=by
 unfold rdU;simp only [dec_enc n 0 r Qvu h Qvu]
theorem zz_lt64 {n:Int} (h1:-9223372036854775808<=n) (h2:n<=9223372036854775807):zz n<2 ^ 64:=by
 unfold zz;split <;> omega
theorem Gi {n:Int} (h1:-9223372036854775808<=n) (h2:n<=9223372036854775807) (r:Bs):rdI (some (wI n++r))=(n,some r):=by
 unfold rdI wI;rw [Cv (zz_lt64 h1 h2),unzz_zz]
theorem Ho {s:Bs} (h:s.length<2 ^ 64) (r:Bs):rdT (some (wT s++r))=(s,some r):=by
 unfold rdT wT
 rw [List.append_assoc,Cv h]
 simp
theorem Hf {b r:Bs} {n:Nat} (h:rdU (some b)=(n,some r)):b=vb n++r/\n<2 ^ 64:=by
 simp only [rdU] at h
 cases hq:D8 0 b with
 | none=>rw [hq] at h;cases h
 | some p=>
  obtain ⟨m,q⟩:=p
  rw [hq] at h
  obtain ⟨rfl,h2⟩:=Prod.mk.inj h
  obtain rfl:=Qb h2
  obtain ⟨h3,h4,_⟩:=Qjw b 0 _ _ Qvu hq
  exact ⟨h3,by simpa using h4⟩
theorem rdI_dec {b r:Bs} {n:Int} (h:rdI (some b)=(n,some r)):b=wI n++r:=by
 unfold rdI at h
 obtain ⟨rfl,h2⟩:=Prod.mk.inj h
 have:=Hf (b:=b) (n:=(rdU (some b)).1) (r:=r) (Prod.ext rfl h2)
 unfold wI;rw [zz_unzz];exact this.1
theorem rdT_dec {b r s:Bs} (h:rdT (some b)=(s,some r)):b=wT s++r:=by
 unfold rdT at h
 split at h
 ·cases h
 rename_i n q hq
 split at h
 ·cases h
 rename_i hl
 obtain ⟨rfl,h2⟩:=Prod.mk.inj h
 obtain rfl:=Qb h2
 obtain ⟨h3,_⟩:=Hf hq
 unfold wT
 rw [Qm,Z0 Qvu,List.append_assoc,List.take_append_drop];exact h3
mutual
inductive RdV:Int->Option Bs->Val->Option Bs->Int->Prop
 | int {L o o1 o2 k n}:k=0\/k=2->rdI o=(k,o1)->rdI o1=(n,o2)->RdV L o (.mk k n [] [] []) o2 (L - 1)
 | text {L o o1 o2 s}:rdI o=(1,o1)->rdT o1=(s,o2)->RdV L o (.mk 1 0 s [] []) o2 (L - 1)
 | make {L o o1 o2 o3 o4 s n ns ks L'}:rdI o=(3,o1)->rdT o1=(s,o2)->rdI o2=(n,o3)->RdK n false (L - 1) o3 ns ks o4 L'->RdV L o (.mk 3 0 s ns ks) o4 L'
 | kids {L o o1 o2 o3 k n ns ks L'}:k=4\/k=5->rdI o=(k,o1)->rdI o1=(n,o2)->RdK n (k==4) (L - 1) o2 ns ks o3 L'->RdV L o (.mk k 0 [] ns ks) o3 L'
 | other {L o o1 k}:k<0\/5<k->rdI o=(k,o1)->RdV L o (.mk k 0 [] [] []) o1 (L - 1)
inductive RdK:Int->Bool->Int->Option Bs->List Bs->List Val->Option Bs->Int->Prop
 | stop {n b L o}:n<=0\/L<=0->RdK n b L o [] [] o L
 | kid {n L o o1 o2 v ns ks L1 L2}:0<n->0<L->RdV L o v o1 L1->RdK (n - 1) false L1 o1 ns ks o2 L2->RdK n false L o ns (v::ks) o2 L2
 | field {n L o o0 o1 o2 s v ns ks L1 L2}:0<n->0<L->rdT o=(s,o0)->RdV L o0 v o1 L1->RdK (n - 1) true L1 o1 ns ks o2 L2->RdK n true L o (s::ns) (v::ks) o2 L2
end
end Go.Proofs.YtlanplhphiikjaaGreatDoor
