import Derived.Test.YtdpibdpbgokmoaaGreatDoorC11
import Derived.Test.YtdpibdpbgokmoaaGreatDoorC10
set_option maxRecDepth 100000
set_option maxHeartbeats 400000000
namespace Go.Proofs.YtdpibdpbgokmoaaGreatDoor
open Go.RowKit Go.Shelf Go.Lib Tryz
def Uq (v:Val) (x:Bs):Int:=if Xb v (X5 v x) then X5 v x else -1
theorem Et (S:Nat→Prop) (v:Val) (cs:List Value) (x:Bs) (w:World) (h:Z9 S w cs v):
  Calls prog 95 #[cs,sv x] w fun e w'=>e=.returned (.int .i64 (Uq v x))∧Below w w w':=by
 obtain ⟨p3,k3,p4,k4,N,U,T,_⟩:=Z9.cells h
 simp only [vcs] at N
 subst N
 have hl:v.kids.length≤1000000:=by obtain ⟨_,_,_,h⟩:=T.len;exact h
 obtain ⟨_,_,_,Z⟩:=U.len
 obtain ⟨r,O⟩:=eX (Uq v x)
 rw [O]
 by_cases h4:v.kind=4
 ·have V:(v.kind != 4)=false:=by rw [h4];rfl
  have HS:=Qq (U.below (Zg w (.cells #[.int .i64 4,v.n,v.s,.slice p3 v.names.length k3,.slice p4 v.kids.length k4] 36)))
  have Y:=Qq O
  have H4:=Qq h4
  rw [h4]
  clear h U T O h4 V
  obtain ⟨n,I⟩:=eX (v.names.length)
  rw [I] at HS Z ⊢
  have HN:=Qq I
  clear I
  unfold sv
  go_enter func95,ntmps95
  go_wp2_with fail
  go_loop [5] (fun i=>∃ k:Nat,k≤n∧i=.int .i64 k∧Aside (∀ (j:Nat) (y:Bs),j<k→v.names[j]?=some y→decide (y=x)=false)) (fun i=>n - (intOf i).toNat)
  case atStart=>exact ⟨0,Q8 _,rfl,fun j _ hj=>absurd hj (Z6 _)⟩
  obtain ⟨k,T,rfl,A⟩:=hrel
  by_cases hlt:k<n
  ·have aD:(0:Int)≤(k:Int):=Qqj
   have aE:(k:Int)<(n:Int):=Qqj
   obtain ⟨y,J⟩:∃ y,v.names[k]?=some y:=⟨_,Qx (by rw [HN.out];exact hlt)⟩
   obtain ⟨b,aF,rfl,hc,-⟩:=HS.out.str J
   have HY:=Qq J
   clear J
   by_cases he:y=x
   ·have V:(y==x)=true:=by rw [he];simp
    have G:X5 v x=k:=by unfold X5;exact K8 HY.out (by rw [he];simp) A.out
    have M:=Qq G
    clear he G
    by_cases hkl:k<v.kids.length
    ·have D:r=k:=by
      rw [← Y.out];unfold Uq;rw [M.out]
      have:Xb v (k:Int)=true:=by unfold Xb;simp [H4.out,hkl]
      rw [this];rfl
     subst D
     go_wp2_with fail
     go_ret
     exact ⟨rfl,Zg _ _⟩
    have D:r=-1:=by
     rw [← Y.out];unfold Uq;rw [M.out]
     have:Xb v (k:Int)=false:=by unfold Xb;simp [hkl]
     rw [this];rfl
    subst D
    have aB:¬ (k:Int)<(v.kids.length:Int):=Qqj
    go_wp2_with fail
    go_ret
    exact ⟨rfl,Zg _ _⟩
   have V:(y==x)=false:=by rw [← Qt,beq_iff_eq];exact he
   have HE:=Qq he
   clear he
   go_wp2_with fail
   go_round
   case measure=>simp [intOf];omega
   case rel=>
    refine ⟨k+1,Qqj,by go_num,(show Aside _ from fun j z hj hz=>?_)⟩
    by_cases e:j=k
    ·subst e
     have:=HY.out
     rw [this] at hz
     cases hz
     simpa using HE.out
    exact A.out j z Qqj hz
  have aC:¬ (k:Int)<(n:Int):=Qqj
  have:k=n:=Qqj
  subst this
  have G:X5 v x=-1:=by unfold X5;exact Uc (fun j y J=>A.out j y (by have:=(Qj J).1;have:=HN.out;omega) J)
  have D:r=-1:=by
   rw [← Y.out];unfold Uq;rw [G]
   have:Xb v (-1)=false:=by unfold Xb;simp
   rw [this];rfl
  subst D
  clear G
  go_wp2_with fail
  go_ret
  exact ⟨rfl,Zg _ _⟩
 have D:r=-1:=by
  rw [← O];unfold Uq
  have:Xb v (X5 v x)=false:=by unfold Xb;simp [h4]
  rw [this];rfl
 subst D
 have V:(v.kind != 4)=true:=by rw [bne_iff_ne];exact h4
 clear h U T O h4
 unfold sv
 go_enter func95,ntmps95
 go_wp2_with fail
 go_ret
 exact ⟨rfl,Zg _ _⟩
def RGetIs (S:Nat→Prop) (w:World) (o:Option Val) (e:Ending) (w':World):Prop:=
 ∃ cs',e=.returned (.tuple #[.agg cs'.toArray,.bool o.isSome])∧Z9 S w' cs' (o.getD Val.zero)∧Below w w w'
theorem Fl {v:Val} {x:Bs} (h:Ys v x=none):Uq v x=-1:=by unfold Uq;rw [M1 h];rfl
theorem Fr {v u:Val} {x:Bs} (h:Ys v x=some u):∃ i:Nat,Uq v x=i∧v.kids[i]?=some u:=by
 obtain ⟨i,hi,hu,hb⟩:=Dm h
 exact ⟨i,by unfold Uq;rw [hb,hi];rfl,hu⟩
theorem Hb (S:Nat→Prop) (v:Val) (cs:List Value) (x:Bs) (w:World) (h0:Z9 S w cs v):
  Calls prog 43 #[cs,sv x] w (RGetIs S w (Ys v x)):=by
 have h:Z9 (fun b=>S b∧b<w) w cs v:=h0.move (.refl _ _) (fun b hb hs=>⟨hs,hb⟩)
 clear h0
 have N:=Qq (fun W (hb:Below w w W)=>Et _ v cs x W (h.move (.of_below hb) Qzx))
 obtain ⟨p3,k3,p4,k4,O,hn,hk,_⟩:=Z9.cells h
 simp only [vcs] at O
 subst O
 have HK:=Qq hk
 clear h hn hk
 unfold sv at N ⊢
 cases hg:Ys v x with
 | none=>
  rw [Fl hg] at N
  clear hg
  go_enter func43,ntmps43
  go_wp2_with fail
  refine (N.out _ (Zt _ _ _)).mono ?_
  rintro e Y ⟨rfl,I⟩
  have HW:=Qq I
  have G:=(I.block (w+1) Qqk).trans (Q6 _ _ _)
  have V:=Qq G
  have f:=fun j=>Qn _ _ j _ _ G
  have y:=fun j=>Qk _ _ j _ _ _ G
  obtain ⟨Z,y1,y2,y3,y4⟩:=Qzj y
  obtain ⟨f0,f1,f2,f3,f4⟩:=Qzj f
  simp only [Qf,Qg,Qh] at Z y1 y2 y3 y4
  clear I G f y
  go_wp2_with fail
  show bodyPost _ _ _ _ _ (Zl Y _ _ _ _ _ _)
  refine Q7 (v:=.tuple #[.agg zV,.bool false]) (by simp [results,results43,go_sem,Zd V.out]) rfl ⟨_,rfl,Yw _ _,?_⟩
  exact Zc ((Zt w _ _).thn HW.out) Qqj
 | some u=>
  obtain ⟨i,hi,J⟩:=Fr hg
  rw [hi] at N
  obtain ⟨b,aE,q3,l3,q4,l4,rfl,D,U,d0,d1,d2,d3,d4⟩:=HK.out.val J
  have T:i<v.kids.length:=(Qj J).1
  have aB:(0:Int)≤(i:Int):=Qqj
  have aC:(i:Int)<(v.kids.length:Int):=Qqj
  have aD:decide ((i:Int)<0)=false:=Qqk
  have HV:=Qq U
  clear hg hi J U
  go_enter func43,ntmps43
  go_wp2_with fail
  refine (N.out _ (Zt _ _ _)).mono ?_
  rintro e Y ⟨rfl,I⟩
  have A:=(Zt w _ _).thn I
  have G:=(I.block (w+1) Qqk).trans (Q6 _ _ _)
  have hX:=(I.block w (by simp;omega)).trans (Q5 _ _ _)
  have e0:=kD A D d0;have e1:=kD A D d1;have e2:=kD A D d2;have e3:=kD A D d3;have e4:=kD A D d4
  have x4:=Qk _ _ 4 _ _ _ hX
  have f:=fun j=>Qn _ _ j _ _ G
  have y:=fun j=>Qk _ _ j _ _ _ G
  obtain ⟨Z,y1,y2,y3,y4⟩:=Qzj y
  obtain ⟨f0,f1,f2,f3,f4⟩:=Qzj f
  simp only [Qf,Qg,Qh] at x4 Z y1 y2 y3 y4
  have M:=Qq A;have V:=Qq G
  clear I A hX G d0 d1 d2 d3 d4 f y
  go_wp2_with fail
  show bodyPost _ _ _ _ _ (Zl Y _ _ _ _ _ _)
  refine Q7 (v:=.tuple #[.agg (Qqg u q3 l3 q4 l4),.bool true]) (by simp [results,results43,go_sem,Zd V.out]) rfl ⟨_,rfl,?_,Zc M.out Qqj⟩
  refine Z9.move HV.out (fun b hb T=>(Zf ?_).trans (M.out.block b T)) (fun b _ hb=>hb.1)
  have:=hb.2
  omega
def Rg:Rd Bs where
 k:=2
 R _ _ cs x:=cs=[sv x,.slice none 0 0]∧x.length≤1000000
 len h:=by rw [h.1];rfl
 frame h _:=h
 mono h _:=h
def X9 (s:Sc):List Rel:=s.tables.map (fun t=>⟨t.name,[]⟩)
theorem Ac {E:TypeId} {S:Nat→Prop} {B:Nat} {w:World} {v:Value} {ns:List Bs} {css:List (List Value)} (h:Own Rg E S B w v ns css) (hE:E=70):U3 B w v (ns.map fun x=>⟨x,[]⟩) (List.replicate ns.length (.slice none 0 0)):=by
 subst hE
 have hc:css=Yc (ns.map fun x=>⟨x,[]⟩) (List.replicate ns.length (.slice none 0 0)):=by
  apply List.ext_getElem?
  intro i
  by_cases G:i<ns.length
  ·have I:=Qx (l:=css) (i:=i) (by rw [h.cs.len];exact G)
   have h2:=Qx G
   have h3:=(h.cs.R i _ _ I h2).1
   rw [I,h3,Kr (r:=⟨ns[i],[]⟩) (rv:=.slice none 0 0) (by rw [List.getElem?_map,h2];rfl) (by rw [List.getElem?_replicate,if_pos G])]
  rw [List.getElem?_eq_none (by rw [h.cs.len];omega),List.getElem?_eq_none (by rw [Un Qqk];simp;omega)]
 refine ⟨Qqk,?_,?_,?_,?_⟩
 ·rw [← hc,Z7];exact h.row
 ·intro r D
  obtain ⟨x,M,rfl⟩:=List.mem_map.1 D
  obtain ⟨i,G⟩:=Zk M
  have N:=(Qj G).1
  exact (h.cs.R i _ _ (Qx (by rw [h.cs.len];exact N)) G).2
 ·intro i r rv D A
  rw [List.getElem?_replicate] at A
  split at A
  ·cases A
   rw [List.getElem?_map] at D
   cases M:ns[i]? with
   | none=>rw [M] at D;cases D
   | some x=>rw [M] at D;cases D;exact ⟨[],Own.nil _ _ _ _ _⟩
  cases A
 intro i j a b g J _ I
 rw [List.getElem?_replicate] at J
 split at J
 ·cases J;cases I
 cases J
def Tm (w:World) (s:Sc) (e:Ending) (w':World):Prop:=∃ p cap,e=.returned (.slice p s.tables.length cap)∧U3 w w' (.slice p s.tables.length cap) (X9 s) (List.replicate s.tables.length (.slice none 0 0))∧Below w w w'
theorem Ax (S0:Nat→Prop) (s:Sc) (cs:List Value) (w:World) (hs:Xu S0 w cs s) (hnl:∀ t ∈ s.tables,t.name.length≤1000000) (hl0:s.tables.length≤1000):
  Calls prog 46 #[cs] w (Tm w s):=by
 obtain ⟨uv,tv,rfl,hu,aP⟩:=hs
 have ht:Sl Zn (fun b=>b<w) w tv s.tables:=aP.mono (fun b hb _=>hb)
 obtain ⟨up,uc,rfl,_⟩:=hu.len
 obtain ⟨tp,tc,rfl,cF⟩:=ht.len
 have HT:=Qq ht;have aZ:=Qq hnl
 obtain ⟨i0,j1,j2,j3,j4⟩:=Y9 (P:=prog) (t:=70) (z:=.agg #[Qqe,Qqf]) (n:=2) (b:=40) Qqy
 obtain ⟨HJ,aV,aW,aX⟩:=Qqp j1 j2 j3 j4
 clear hu aP ht hnl j1 j2 j3 j4
 unfold Tm X9
 obtain ⟨n,hn⟩:=eX (s.tables.length)
 rw [hn] at HT hl0 ⊢
 have HN:=Qq hn
 clear hn
 go_enter func46,ntmps46
 go_wp2_with fail
 generalize N:w.alloc _=T
 have aL:=eqB N (Zg _ _)
 have aJ:=eqH (b:=w.heap.size) N (Qw _ _)
 have Z:=Qq aL;have bE:=Qq aJ
 clear N aL aJ
 have J:w.heap.size≤T.heap.size:=Z.out.size
 go_loopw [3,9] (fun o i wr=>∃ (k:Nat) (p:Option Addr) (cap:Nat) (Y:List Bs) (css:List (List Value)),k≤n∧i=.int .i64 k∧o=.slice p k cap∧Y.length=k∧Aside (Y=(s.tables.take k).map Tbl.name) ∧
  Own Rg 70 (fun _=>False) T wr (.slice p k cap) Y css∧Below T T wr) (fun _ i _=>n - (intOf i).toNat)
 case atStart=>exact ⟨0,none,0,[],[],Q8 _,rfl,rfl,rfl,rfl,Own.nil _ _ _ _ _,Qz _ _⟩
 obtain ⟨k,p,cap,Y,css,cD,rfl,rfl,aN,hE,U,D⟩:=hrel
 have bK:=kB D bE.out
 have bN:=D.size
 obtain ⟨aU,aA,HO,HE,M⟩:=Qqr D (Z.out.trans (D.mono J)) U hE.out aN
 clear bK D U hE aN
 by_cases hlt:k<n
 ·have cC:(0:Int)≤(k:Int):=Qqj
  have bL:(k:Int)<(n:Int):=Qqj
  obtain ⟨t,V⟩:∃ t,s.tables[k]?=some t:=⟨_,Qx (by rw [HN.out];exact hlt)⟩
  have aS:=aZ.out t (Qy V)
  have aR:(s.tables.take (k+1)).map Tbl.name=(s.tables.take k).map Tbl.name++[t.name]:=by
   have hk:=(Qj V).1
   rw [Zz hk,List.map_append]
   rw [Qx hk] at V;cases V;rfl
  obtain ⟨tb,cB,ct,rfl,cE,_,O,aQ,A⟩:=(HT.out.below aA.out).elem V
  obtain ⟨bJ,bI,bQ,bP,bY,bX,k9,bZ,n9,cA,bU,bR,bF,bV,bS,bG,bW,bT,bH,a9,z9,aM,_⟩:=Yj aQ
  simp only [tcs] at aM
  subst aM
  have d0:=A 0 _ rfl
  have d1:=A 1 _ rfl
  have d2:=A 2 _ rfl
  have d3:=A 3 _ rfl
  have d4:=A 4 _ rfl
  have d5:=A 5 _ rfl
  have d6:=A 6 _ rfl
  have d7:=A 7 _ rfl
  have d8:=A 8 _ rfl
  have d9:=A 9 _ rfl
  have aD:=A 10 _ rfl
  have aE:=A 11 _ rfl
  have aF:=A 12 _ rfl
  simp only [show Zn.k=13 from rfl,Nat.add_zero] at d0 d1 d2 d3 d4 d5 d6 d7 d8 d9 aD aE aF
  have bD:=Qq aS;have bC:=Qq aR
  clear V aS aR aQ A O
  go_upto_region 5 with fail
  obtain ⟨W5,G⟩:=eX (wr.alloc (.cells (Qqh t bJ bI bQ bP bY bX k9 bZ n9 cA bU bR bF bV bS bG bW bT bH a9 z9) 48))
  rw [G]
  have I:=eqB G (Zg _ _)
  have aK:=eqH (b:=wr.heap.size) G (Qw _ _)
  have x0:=rA0 aK
  have bA:=Qq (HO.out.below I);have aT:=Qq (aU.out.trans (I.mono bN))
  have aO:T.heap.size≤W5.heap.size:=Qqq I.size
  clear G I aK d0 d1 d2 d3 d4 d5 d6 d7 d8 d9 aD aE aF
  go_wp2_with (at_builtin;refine Yl (r:=Rg) Qqx rfl (.tmp 13) (.tmp 17) _ rfl 70 i0 (.agg #[Qqe,Qqf]) 40 underlying28 HJ.out aV.out aW.out aX.out rfl Qqj (fun _=>False) T W5 (.slice p k cap) Y css [t.name,Qqf] t.name rfl bA.out rfl ⟨rfl,bD.out⟩ (by simp [Value.oneCell']) k M.out Qqj aO ?_;intro p7 aB aC w7 aI aH;have bB:=Qq aI;have aY:=Qq aH;clear aI aH)
  go_roundw
  case measure=>simp [intOf];omega
  case rel=>exact ⟨k+1,p7,aB,Y++[t.name],aC,Qqj,by go_num,rfl,by have:=M.out;simp [this],(show Aside _ from by have:=HE.out;show _=_;rw [this,bC.out]),bB.out,aT.out.trans aY.out.below⟩
 obtain rfl:k=n:=Qqj
 have bL:¬ (k:Int)<(k:Int):=Qqj
 go_wp2_with fail
 go_ret
 have hE:=HE.out
 rw [Zj (by rw [HN.out];exact Q9 _)] at hE
 have U:=Ac (HO.out.move J (fun b hb _=>rfl)) rfl
 rw [M.out] at U
 refine ⟨p,cap,rfl,?_,aA.out⟩
 rw [hE,List.map_map] at U
 exact U
def R3 (w:World) (u:Val) (tv t t':Value) (wx:World):Prop:=
 ∃ G q3 m3 q4 m4,t=.pointer (some ⟨G,0,none⟩)∧t'=tv∧wx.heap[G]?=some (.cells (Qqg u q3 m3 q4 m4) 36 (0,0))∧Z9 (fun b=>w≤b∧b≠G) wx (vcs u q3 m3 q4 m4) u∧Below w w wx∧w.heap.size≤G
end Go.Proofs.YtdpibdpbgokmoaaGreatDoor
