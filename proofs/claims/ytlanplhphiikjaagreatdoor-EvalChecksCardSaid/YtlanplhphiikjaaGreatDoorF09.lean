import Derived.Test.YtlanplhphiikjaaGreatDoorF07
set_option maxRecDepth 100000
set_option maxHeartbeats 400000000
namespace Go.Proofs.YtlanplhphiikjaaGreatDoor
open Go.RowKit Go.Shelf Go.Lib Tryz
structure Z6 (G:Nat->Prop) (B:Nat) (w w':World):Prop where
 below:Below B w w'
 keep:∀ b,b<w.heap.size->¬ G b->w'.heap[b]?=w.heap[b]?
theorem Z6.refl (G:Nat->Prop) (B:Nat) (w:World):Z6 G B w w:=⟨Qz _ _,fun _ _ _=>rfl⟩
theorem Z6.size {G:Nat->Prop} {B:Nat} {w w':World} (h:Z6 G B w w'):w.heap.size<=w'.heap.size:=h.below.size
theorem Z6.trans {G:Nat->Prop} {B:Nat} {a b c:World} (h:Z6 G B a b) (k:Z6 G B b c):Z6 G B a c:=
 ⟨h.below.trans k.below,fun i hi hg=>(k.keep i (Q5 hi h.size) hg).trans (h.keep i hi hg)⟩
theorem Z6.mono {G G':Nat->Prop} {B B':Nat} {w w':World} (h:Z6 G B w w') (hG:∀ b,G b->G' b) (hB:B'<=B):Z6 G' B' w w':=
 ⟨h.below.mono hB,fun b hb hg=>h.keep b hb (fun e=>hg (hG b e))⟩
theorem Z6.of_below {G:Nat->Prop} {B:Nat} {w w':World} (hb:Below w w w') (hB:B<=w):Z6 G B w w':=⟨hb.mono hB,fun b D _=>hb.block b D⟩
theorem Z6.agree {G:Nat->Prop} {B:Nat} {w w':World} {S:Nat->Prop} (h:Z6 G B w w') (hS:∀ b,S b->¬ G b):Ys S w w':=fun b hb D=>h.keep b D (hS b hb)
theorem Z6.set {G:Nat->Prop} {B:Nat} {w W:World} (h:Z6 G B w W) (g j:Nat) (v:Value) (hg:G g\/w<=g) (hB:B<=g):Z6 G B w (W.setCell ⟨g,j,none⟩ v):=
 ⟨h.below.setCell (p:=⟨g,j,none⟩) hB _,fun b hb hn=>by
  rw [Z4 (show b≠g from fun e=>by
   rcases hg with hg | hg
   ·exact hn (e ▸ hg)
   omega)]
  exact h.keep b hb hn⟩
def RAt (S:Nat->Prop) (g:Nat) (w:World) (o:Option Bs):Prop:=
 ∃ (p:Option Addr) (b:Bs) (cap:Nat) (e:Int),w.heap[g]?=some (.cells #[.slice p b.length cap,e] 96 (0,0))/\b.length<=cap/\Sl Yl S w (.slice p b.length cap) b/\o=(if e=0 then some b else none)
theorem RAt.step {S:Nat->Prop} {g:Nat} {w w':World} {o:Option Bs} {G:Nat->Prop} {B:Nat} (h:RAt S g w o) (hs:Z6 G B w w') (hS:∀ b,S b->¬ G b) (hg:¬ G g):RAt S g w' o:=by
 obtain ⟨p,b,cap,e,h1,h2,h3,h4⟩:=h
 exact ⟨p,b,cap,e,(hs.keep g (Z3 h1) hg).trans h1,h2,h3.frame (hs.agree hS),h4⟩
theorem RAt.below {S:Nat->Prop} {g:Nat} {w w':World} {o:Option Bs} (h:RAt S g w o) (hb:Below w w w'):RAt S g w' o:=by
 obtain ⟨p,b,cap,e,h1,h2,h3,h4⟩:=h
 exact ⟨p,b,cap,e,(hb.block g (Z3 h1)).trans h1,h2,h3.below hb,h4⟩
theorem RAt.lt {S:Nat->Prop} {g:Nat} {w:World} {o:Option Bs} (h:RAt S g w o):g<w.heap.size:=by
 obtain ⟨p,b,cap,e,h1,_⟩:=h;exact Z3 h1
def Xu (v:Val) (x:Bs):Int:=if Yh v (Yi v x) then Yi v x else -1
theorem Ln (S:Nat->Prop) (v:Val) (cs:List Value) (x:Bs) (w:World) (h:Z5 S w cs v):
  Calls prog 108 #[cs,sv x] w fun e w'=>e=.returned (.int .i64 (Xu v x))/\Below w w w':=by
 obtain ⟨p3,k3,p4,k4,M,T,O,_⟩:=Z5.cells h
 simp only [vcs] at M
 subst M
 have hl:v.kids.length<=1000000:=by obtain ⟨_,_,_,h⟩:=O.len;exact h
 obtain ⟨_,_,_,Y⟩:=T.len
 obtain ⟨r,N⟩:=eX (Xu v x)
 rw [N]
 by_cases h4:v.kind=4
 ·have U:(v.kind != 4)=false:=by rw [h4];rfl
  have HS:=Qq (T.below (Zb w (.cells #[.int .i64 4,v.n,v.s,.slice p3 v.names.length k3,.slice p4 v.kids.length k4] 48)))
  have V:=Qq N
  have H4:=Qq h4
  rw [h4]
  clear h T O N h4 U
  obtain ⟨n,I⟩:=eX (v.names.length)
  rw [I] at HS Y |-
  have HN:=Qq I
  clear I
  unfold sv
  go_enter func108,ntmps108
  go_wp2_with fail
  go_loop [5] (fun i=>∃ k:Nat,k<=n/\i=.int .i64 k/\Aside (∀ (j:Nat) (y:Bs),j<k->v.names[j]?=some y->decide (y=x)=false)) (fun i=>n - (intOf i).toNat)
  case atStart=>exact ⟨0,Q3 _,rfl,fun j _ hj=>absurd hj (Z1 _)⟩
  obtain ⟨k,O,rfl,A⟩:=hrel
  by_cases hlt:k<n
  ·have aC:(0:Int)<=(k:Int):=Oa
   have aD:(k:Int)<(n:Int):=Oa
   obtain ⟨y,J⟩:∃ y,v.names[k]?=some y:=⟨_,Qx (by rw [HN.out];exact hlt)⟩
   obtain ⟨b,aE,rfl,hc,-⟩:=HS.out.str J
   have HY:=Qq J
   clear J
   by_cases he:y=x
   ·have U:(y==x)=true:=by rw [he];simp
    have G:Yi v x=k:=by unfold Yi;exact Js HY.out (by rw [he];simp) A.out
    have L:=Qq G
    clear he G
    by_cases hkl:k<v.kids.length
    ·have D:r=k:=by
      rw [<- V.out];unfold Xu;rw [L.out]
      have:Yh v (k:Int)=true:=by unfold Yh;simp [H4.out,hkl]
      rw [this];rfl
     subst D
     go_wp2_with fail
     go_ret
     exact ⟨rfl,Zb _ _⟩
    have D:r=-1:=by
     rw [<- V.out];unfold Xu;rw [L.out]
     have:Yh v (k:Int)=false:=by unfold Yh;simp [hkl]
     rw [this];rfl
    subst D
    have aA:¬ (k:Int)<(v.kids.length:Int):=Oa
    go_wp2_with fail
    go_ret
    exact ⟨rfl,Zb _ _⟩
   have U:(y==x)=false:=by rw [<- Qn,beq_iff_eq];exact he
   have HE:=Qq he
   clear he
   go_wp2_with fail
   go_round
   case measure=>simp [intOf];omega
   case rel=>
    refine ⟨k+1,Oa,by go_num,(show Aside _ from fun j z hj Z=>?_)⟩
    by_cases e:j=k
    ·subst e
     have:=HY.out
     rw [this] at Z
     cases Z
     simpa using HE.out
    exact A.out j z Oa Z
  have aB:¬ (k:Int)<(n:Int):=Oa
  have:k=n:=Oa
  subst this
  have G:Yi v x=-1:=by unfold Yi;exact J0 (fun j y J=>A.out j y (by have:=(Qj J).1;have:=HN.out;omega) J)
  have D:r=-1:=by
   rw [<- V.out];unfold Xu;rw [G]
   have:Yh v (-1)=false:=by unfold Yh;simp
   rw [this];rfl
  subst D
  clear G
  go_wp2_with fail
  go_ret
  exact ⟨rfl,Zb _ _⟩
 have D:r=-1:=by
  rw [<- N];unfold Xu
  have:Yh v (Yi v x)=false:=by unfold Yh;simp [h4]
  rw [this];rfl
 subst D
 have U:(v.kind != 4)=true:=by rw [bne_iff_ne];exact h4
 clear h T O N h4
 unfold sv
 go_enter func108,ntmps108
 go_wp2_with fail
 go_ret
 exact ⟨rfl,Zb _ _⟩
def RGetIs (S:Nat->Prop) (w:World) (o:Option Val) (e:Ending) (w':World):Prop:=
 ∃ cs',e=.returned (.tuple #[.agg cs'.toArray,.bool o.isSome])/\Z5 S w' cs' (o.getD Val.zero)/\Below w w w'
theorem Br {v:Val} {x:Bs} (h:Yn v x=none):Xu v x=-1:=by unfold Xu;rw [Gp h];rfl
theorem By {v u:Val} {x:Bs} (h:Yn v x=some u):∃ i:Nat,Xu v x=i/\v.kids[i]?=some u:=by
 obtain ⟨i,hi,hu,hb⟩:=Gw h
 exact ⟨i,by unfold Xu;rw [hb,hi];rfl,hu⟩
theorem rget_any (S:Nat->Prop) (v:Val) (cs:List Value) (x:Bs) (w:World) (h0:Z5 S w cs v):
  Calls prog 55 #[cs,sv x] w (RGetIs S w (Yn v x)):=by
 have h:Z5 (fun b=>S b/\b<w) w cs v:=h0.move (.refl _ _) (fun b hb hs=>⟨hs,hb⟩)
 clear h0
 have N:=Qq (fun W (hb:Below w w W)=>Ln _ v cs x W (h.move (.of_below hb) P8))
 obtain ⟨p3,k3,p4,k4,O,hn,hk,_⟩:=Z5.cells h
 simp only [vcs] at O
 subst O
 have HK:=Qq hk
 clear h hn hk
 unfold sv at N |-
 cases hg:Yn v x with
 | none=>
  rw [Br hg] at N
  clear hg
  go_enter func55,ntmps55
  go_wp2_with fail
  refine (N.out _ (Zl _ _ _)).mono ?_
  rintro e Y ⟨rfl,J⟩
  have HW:=Qq J
  have I:=(J.block (w+1) Od).trans (Q1 _ _ _)
  have V:=Qq I
  have f:=fun j=>Qg _ _ j _ _ I
  have y:=fun j=>Qk _ _ j _ _ _ I
  obtain ⟨Z,y1,y2,y3,y4⟩:=P3 y
  obtain ⟨f0,f1,f2,f3,f4⟩:=P3 f
  simp only [Qa,Qb,Qc] at Z y1 y2 y3 y4
  clear J I f y
  go_wp2_with fail
  show bodyPost _ _ _ _ _ (Zn Y _ _ _ _ _ _)
  refine Q2 (v:=.tuple #[.agg zV,.bool false]) (by simp [results,results55,go_sem,Z8 V.out]) rfl ⟨_,rfl,Yk _ _,?_⟩
  exact Z7 ((Zl w _ _).thn HW.out) Oa
 | some u=>
  obtain ⟨i,hi,L⟩:=By hg
  rw [hi] at N
  obtain ⟨b,aE,q3,l3,q4,l4,rfl,G,U,d0,d1,d2,d3,d4⟩:=HK.out.val L
  have T:i<v.kids.length:=(Qj L).1
  have aB:(0:Int)<=(i:Int):=Oa
  have aC:(i:Int)<(v.kids.length:Int):=Oa
  have aD:decide ((i:Int)<0)=false:=Od
  have HV:=Qq U
  clear hg hi L U
  go_enter func55,ntmps55
  go_wp2_with fail
  refine (N.out _ (Zl _ _ _)).mono ?_
  rintro e Y ⟨rfl,J⟩
  have D:=(Zl w _ _).thn J
  have I:=(J.block (w+1) Od).trans (Q1 _ _ _)
  have hX:=(J.block w (by simp;omega)).trans (Q0 _ _ _)
  have e0:=kD D G d0;have e1:=kD D G d1;have e2:=kD D G d2;have e3:=kD D G d3;have e4:=kD D G d4
  have x4:=Qk _ _ 4 _ _ _ hX
  have f:=fun j=>Qg _ _ j _ _ I
  have y:=fun j=>Qk _ _ j _ _ _ I
  obtain ⟨Z,y1,y2,y3,y4⟩:=P3 y
  obtain ⟨f0,f1,f2,f3,f4⟩:=P3 f
  simp only [Qa,Qb,Qc] at x4 Z y1 y2 y3 y4
  have M:=Qq D;have V:=Qq I
  clear J D hX I d0 d1 d2 d3 d4 f y
  go_wp2_with fail
  show bodyPost _ _ _ _ _ (Zn Y _ _ _ _ _ _)
  refine Q2 (v:=.tuple #[.agg (Ou u q3 l3 q4 l4),.bool true]) (by simp [results,results55,go_sem,Z8 V.out]) rfl ⟨_,rfl,?_,Z7 M.out Oa⟩
  refine Z5.move HV.out (fun b hb T=>(Za ?_).trans (M.out.block b T)) (fun b _ hb=>hb.1)
  have:=hb.2
  omega
theorem Bt {a b c:Val} (h1:Zt a b<=0) (h2:Zt b c<=0):Zt a c<=0:=by
 rw [X9] at *
 by_cases e1:key a=key b
 ·rw [e1];exact h2
 by_cases e2:key b=key c
 ·rw [<- e2];exact h1
 have h3:lex (key a) (key b)<0:=by
  have:lex (key a) (key b)≠0:=fun h=>e1 (Fx h)
  omega
 have h4:lex (key b) (key c)<0:=by
  have:lex (key b) (key c)≠0:=fun h=>e2 (Fx h)
  omega
 exact Int.le_of_lt (G7 h3 h4)
end Go.Proofs.YtlanplhphiikjaaGreatDoor
