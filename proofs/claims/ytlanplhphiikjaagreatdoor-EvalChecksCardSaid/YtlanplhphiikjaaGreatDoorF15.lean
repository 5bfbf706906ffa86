import Derived.Test.YtlanplhphiikjaaGreatDoorF14
set_option maxRecDepth 100000
set_option maxHeartbeats 400000000
namespace Go.Proofs.YtlanplhphiikjaaGreatDoor
open Go.RowKit Go.Shelf Go.Lib Tryz
theorem Dc:∀ {l:List Bs} {x:Bs} {k:Nat} {y:Bs},(∀ (j:Nat) (z:Bs),j<k->l[j]?=some z->Y7 z x<0)->l[k]?=some y->¬ Y7 y x<0->below l x=k
 | [],_,_,_,_,hy,_=>by simp at hy
 | a::l,x,0,y,_,hy,hc=>by
  simp at hy;subst hy
  unfold below;rw [List.takeWhile_cons,if_neg (by simpa using hc)];rfl
 | a::l,x,k+1,y,h,hy,hc=>by
  have ha:=h 0 a Oa rfl
  have:=Dc (l:=l) (x:=x) (k:=k) (y:=y) (fun j z hj hz=>h (j+1) z Oa (by simpa using hz)) (by simpa using hy) hc
  unfold below at this |-
  rw [List.takeWhile_cons,if_pos (by simpa using ha),List.length_cons,this]
theorem Ge:∀ {l:List Bs} {x:Bs},(∀ (j:Nat) (z:Bs),l[j]?=some z->Y7 z x<0)->below l x=l.length
 | [],_,_=>rfl
 | a::l,x,h=>by
  have ha:=h 0 a rfl
  have:=Ge (l:=l) (x:=x) (fun j z hz=>h (j+1) z (by simpa using hz))
  unfold below at this |-
  rw [List.takeWhile_cons,if_pos (by simpa using ha),List.length_cons,this,List.length_cons]
theorem below_le (l:List Bs) (x:Bs):below l x<=l.length:=by unfold below;exact (List.takeWhile_sublist _).length_le
theorem M2 (k n:Int) (s:Bs) (ns:List Bs) (ks:List Val) (p3:Option Addr) (k3:Nat) (p4:Option Addr) (k4:Nat):vcs (.mk k n s ns ks) p3 k3 p4 k4=[.int .i64 k,.int .i64 n,.string ⟨s.toArray⟩,.slice p3 ns.length k3,.slice p4 ks.length k4]:=rfl
def Nj (v:Val) (name:Bs) (x:Val):Val:=.mk v.kind v.n v.s (Yt v.names (below v.names name) name) (Yt v.kids (below v.names name) x)
end Go.Proofs.YtlanplhphiikjaaGreatDoor
