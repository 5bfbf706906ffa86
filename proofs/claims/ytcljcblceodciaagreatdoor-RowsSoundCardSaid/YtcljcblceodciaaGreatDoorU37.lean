import Derived.Test.YtcljcblceodciaaGreatDoorU36
set_option maxRecDepth 100000
set_option maxHeartbeats 400000000
namespace Go.Proofs.YtcljcblceodciaaGreatDoor
open Go.RowKit Go.Shelf Go.Lib Tryz
theorem Tf:Dm.P2:=by
 intro _ _ s _ w up uc _ tc _ _ _ _ _ _ n _ _ _ _ _ _ _ _ _ _ _ _ _ _ _ _ _ _ _ _ _ _ _ _ _ _ _ _ _ _ _ _ _ _ _ _ _ _ _ _ _ _ _ _ _ _ _ _ _ _ _ _ _ _ _ _ _ _ _ _ _ _ _ _ _ _ _ _ _ _ _ _ _ _ _ _ _ _ _ _ _ _ _ _ _ _ _ _ _ _ _ _ _ _ _ _ _ _ _ _ _ _ _ _ _ _ _ _ _ _ _ _ _ _ _ _ _ _ _ _ _ _ _ _ _ _ _ _ _ _ _ _ _ _ _ _ _ _ _ _ _ _ _ _ _ _ _ _ _ _ _ _ _ _ _ _ _ _ _ _ _ _ _ _ _ _ _ _ _ _ _ _ _ _ _ _ _ _ _ _ _ _ _ _ _ _ _ _ _ _ _ _ _ _ _ _ _ _ _ _ _ _ _ _ _ _ _ _ _ _ _ _ _ _ _ _ _ _ _ _ _ _ _ _ _ _ _ _ _ _ _ _ _ _ _ _ _ _ _ _ _ _ _ _ _ _ _ _ _ _ _ _ _ _ _ _ _ _ _ _ _ _ _ _ _ _ _ _ _ _ _ _ _ _ _ _ _ _ _ i _ _ _ _ _ _ _ _ _ _ _ _ _ _ _ _ _ _ _ _ t tb N _ _ _ _ _ _ _ _ _ _ _ _ _ _ _ aM _ _ _ _ _ _ _ _ _ _ _ _ _ _ _ _ _ _ _ _ mr _ _ _ _ _ _ _ _ _ _ _ _ _ _ _ _ _ _ _ _ _ _ _ _ _ _ _ _ _ _ _ _ _ _ _ _ _ _ _ _ _ _ _ _ _ _ _ _ _ _ _ _ _ _ _ _ _ _ _ _ _ _ _ _ _ _ _ _ _ _ _ _ _ _ _ _ _ _ _ _ _ _ _ _ _ _ _ _ _ a _ _ _ _ _ _ f fb M _ _ _ _ _ _ _ _ _ _ _ _ _ _ _ _ _ _ _ _ _ _ _ _ _ _ _ _ _ _ _ _ _ _ _ _ _ _ _ _ _ _ _ _ _ _ _ _ _ _ _ _ _ _ _ _ _ _ _ _ _ _ _ _ _ _ _ _ _ _ _ _ _ _ _ _ _ _ _ _ _ _ _ _ _ _ _ _ _ _ _ _ _ _ _ _ _ _ _ _ _ _ _ _ _ _ _ _ _ _ _ _ _ _ _ _ _ _ _ _ _ _ _ _ _ u _ _ _ _ _ _ _ _ _ _ _ _ _ _ _ _ _ _ _ _ _ _ _ _ _ _ _ _ _ _ _ _ _ _ _ _ _ _ _ _ _ _ _ _ _ _ _ _ _ _ _ _ _ _ _ _ _ _ _ _ _ _ _ _ _ _ _ _ _ _ _ _ _ _ _ _ G u3 m3 u4 m4 _ Z _ _ _ _ _ _ _ O Y U A D aE aB aC V aA;intros
 go_region_held3 (fun w'=>Cf w' w 0 (.slice up s.sums.length uc)/\Cf w' w 1 (Cg tb N n tc)/\Cf w' tb (N+i*13+3) (Cg fb M mr aM)/\Cf w' fb (M+a*2+1) f.table/\Qjg w' G u.kind u.n u.s (.slice u3 u.names.length m3) (.slice u4 u.kids.length m4) (Below Z Z w')) (first | with_reducible exact O.out | with_reducible exact I | with_reducible exact D.out _ _ O.out | with_reducible exact D.out _ _ (D.out _ _ O.out) | with_reducible exact D.out _ _ I | with_reducible exact aB.out _ _ _ _ _ _ I | with_reducible exact aC.out _ _ _ _ _ _ I | with_reducible exact U.out _ (D.out _ _ Y.out) | with_reducible exact U.out _ (D.out _ _ (D.out _ _ Y.out)))
  (first
   | (go_at_call 50;refine (aA.out _ _ (A.out _ Ce) (V.out _ _ (A.out _ Ce) (by first | exact Qw _ _ | exact Y3 Ca _ | exact Zb (Qw _ _) _ | exact Zb (Y3 Ca _) _ | fail))).mono ?_;rintro e w2 ⟨r0,r1,aN,o3,o4,o5,o6,o7,o8,b',rfl,T,aL⟩;have I:=aE.out _ aL;(try (have J:w2.heap[Z.heap.size]?=some (.cells zV 36 (0,0)):=kE T (by simp;omega) (Zb (Y3 rfl _) _);obtain ⟨y0,y1,y2,y3,y4⟩:=row5 J;obtain ⟨aG,aH,aI,aJ,aK⟩:=frz5 J;have aD:=Qq J;clear J));(try (have J:w2.heap[Z.heap.size+1]?=some (.cells zV 36 (0,0)):=kE T Ca (Y3 Ca _);obtain ⟨y0,y1,y2,y3,y4⟩:=row5 J;obtain ⟨aG,aH,aI,aJ,aK⟩:=frz5 J;have aD:=Qq J;clear J));clear T))
 all_goals
  go_wp2_with fail
  go_meet
  first
   | exact ⟨b',rfl,Zc (A.out _ I) (Q9 _)⟩
   | exact ⟨b',rfl,Zc (A.out _ I) (Nat.le_succ _)⟩
   | exact ⟨b',rfl,(A.out _ I).thn (Zg _ _)⟩
end Go.Proofs.YtcljcblceodciaaGreatDoor
