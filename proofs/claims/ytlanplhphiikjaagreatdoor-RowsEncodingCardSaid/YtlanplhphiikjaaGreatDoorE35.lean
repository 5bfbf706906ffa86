import Derived.Test.YtlanplhphiikjaaGreatDoorE34
set_option maxRecDepth 100000
set_option maxHeartbeats 400000000
namespace Go.Proofs.YtlanplhphiikjaaGreatDoor
open Go.RowKit Go.Shelf Go.Lib Tryz
theorem Qzp:Gk.P2:=by
 intro _ _ s _ w _ up uc _ tc _ _ _ _ _ _ n _ _ _ _ _ _ _ _ _ _ _ _ _ _ _ _ _ _ _ _ _ _ _ _ _ _ _ _ _ _ _ _ _ _ _ _ _ _ _ _ _ _ _ _ _ _ _ _ _ _ _ _ _ _ _ _ _ _ _ _ _ _ _ _ _ _ _ _ _ _ _ _ _ _ _ _ _ _ _ _ _ _ _ _ _ _ _ _ _ _ _ _ _ _ _ _ _ _ _ _ _ _ _ _ _ _ _ _ _ _ _ _ _ _ _ _ _ _ _ _ _ _ _ _ _ _ _ _ _ _ _ _ _ _ _ _ _ _ _ _ _ _ _ _ _ _ _ _ _ _ _ _ _ _ _ _ _ _ _ _ _ _ _ _ _ _ _ _ _ _ _ _ _ _ _ _ _ _ _ _ _ _ _ _ _ _ _ _ _ _ _ _ _ _ _ _ _ _ _ _ _ _ _ _ _ _ _ _ _ _ _ _ _ _ _ _ _ _ _ _ _ _ _ _ _ _ _ _ _ _ _ _ _ _ _ _ _ _ _ _ _ _ _ _ _ _ _ _ _ _ _ _ _ _ _ _ _ _ _ _ _ _ _ _ _ _ _ _ _ _ _ _ _ _ _ _ _ _ _ _ _ _ _ i _ _ _ _ _ _ _ _ _ _ _ _ _ _ _ _ _ _ _ _ _ _ t tb N _ _ _ _ _ _ _ _ _ _ _ _ _ _ _ aL _ _ _ _ _ _ _ _ _ _ _ _ _ _ _ _ _ _ _ _ _ mr _ _ _ _ _ _ _ _ _ _ _ _ _ _ _ _ _ _ _ _ _ _ _ _ _ _ _ _ _ _ _ _ _ _ _ _ _ _ _ _ _ _ _ _ _ _ _ _ _ _ _ _ _ _ _ _ _ _ _ _ _ _ _ _ _ _ _ _ _ _ _ _ _ _ _ _ _ _ _ _ _ _ _ _ _ _ _ _ _ a _ _ _ _ _ _ _ f fb M _ _ _ _ _ _ _ _ _ _ _ _ _ _ _ _ _ _ _ _ _ _ _ _ _ _ _ _ _ _ _ _ _ _ _ _ _ _ _ _ _ _ _ _ _ _ _ _ _ _ _ _ _ _ _ _ _ _ _ _ _ _ _ _ _ _ _ _ _ _ _ _ _ _ _ _ _ _ _ _ _ _ _ _ _ _ _ _ _ _ _ _ _ _ _ _ _ _ _ _ _ _ _ _ _ _ _ _ _ _ _ _ _ _ _ _ _ _ _ _ _ _ _ _ _ _ _ _ u _ _ _ _ _ _ _ _ _ _ _ _ _ _ _ _ _ _ _ _ _ _ _ _ _ _ _ _ _ _ _ _ _ _ _ _ _ _ _ _ _ _ _ _ _ _ _ _ _ _ _ _ _ _ _ _ _ _ _ _ _ _ _ _ _ _ _ _ _ _ _ _ _ _ _ _ G u3 m3 u4 m4 _ Z _ _ _ _ _ _ _ O Y U A D aE aB aC V _ _ aA;intros
 go_region_held3 (fun w'=>Qxw w' w 0 (.slice up s.sums.length uc)/\Qxw w' w 1 (Qxa tb N n tc)/\Qxw w' tb (N+i*13+3) (Qxa fb M mr aL)/\Qxw w' fb (M+a*2+1) f.table/\Qyy w' G u.kind u.n u.s (.slice u3 u.names.length m3) (.slice u4 u.kids.length m4) (Below Z Z w')) (first | with_reducible exact O.out | with_reducible exact I | with_reducible exact D.out _ _ O.out | with_reducible exact D.out _ _ (D.out _ _ O.out) | with_reducible exact D.out _ _ I | with_reducible exact aB.out _ _ _ _ _ _ I | with_reducible exact aC.out _ _ _ _ _ _ I | with_reducible exact U.out _ (D.out _ _ Y.out) | with_reducible exact U.out _ (D.out _ _ (D.out _ _ Y.out)))
  (first
   | (go_at_call 132;refine (aA.out _ _ (A.out _ Qxy) (V.out _ _ (A.out _ Qxy) (by first | exact Qw _ _ | exact Y3 Qxz _ | exact Zb (Qw _ _) _ | exact Zb (Y3 Qxz _) _ | fail))).mono ?_;rintro e w2 ⟨r0,r1,aM,o3,o4,o5,o6,o7,o8,rfl,T,aK⟩;have I:=aE.out _ aK;(try (have J:w2.heap[Z.heap.size]?=some (.cells zV 48 (0,0)):=kE T (by simp;omega) (Zb (Y3 rfl _) _);obtain ⟨y0,y1,y2,y3,y4⟩:=row5 J;obtain ⟨aF,aG,aH,aI,aJ⟩:=frz5 J;have aD:=Qq J;clear J));(try (have J:w2.heap[Z.heap.size+1]?=some (.cells zV 48 (0,0)):=kE T Qxz (Y3 Qxz _);obtain ⟨y0,y1,y2,y3,y4⟩:=row5 J;obtain ⟨aF,aG,aH,aI,aJ⟩:=frz5 J;have aD:=Qq J;clear J));clear T))
 all_goals
  go_wp2_with fail
  go_meet
  first
   | exact ⟨rfl,Zf (A.out _ I) (Q9 _)⟩
   | exact ⟨rfl,Zf (A.out _ I) (Nat.le_succ _)⟩
   | exact ⟨rfl,(A.out _ I).thn (Ze _ _)⟩
end Go.Proofs.YtlanplhphiikjaaGreatDoor
