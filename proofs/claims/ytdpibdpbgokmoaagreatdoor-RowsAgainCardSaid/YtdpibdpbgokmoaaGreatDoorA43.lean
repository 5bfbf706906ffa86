import Derived.Test.YtdpibdpbgokmoaaGreatDoorA42
set_option maxRecDepth 100000
set_option maxHeartbeats 400000000
namespace Go.Proofs.YtdpibdpbgokmoaaGreatDoor
open Go.RowKit Go.Shelf Go.Lib Tryz
theorem Qqe:G6.P2:=by
 intro _ _ s _ w _ up uc _ tc _ _ _ _ _ _ n _ _ _ _ _ _ _ _ _ _ _ _ _ _ _ _ _ _ _ _ _ _ _ _ _ _ _ _ _ _ _ _ _ _ _ _ _ _ _ _ _ _ _ _ _ _ _ _ _ _ _ _ _ _ _ _ _ _ _ _ _ _ _ _ _ _ _ _ _ _ _ _ _ _ _ _ _ _ _ _ _ _ _ _ _ _ _ _ _ _ _ _ _ _ _ _ _ _ _ _ _ _ _ _ _ _ _ _ _ _ _ _ _ _ _ _ _ _ _ _ _ _ _ _ _ _ _ _ _ _ _ _ _ _ _ _ _ _ _ _ _ _ _ _ _ _ _ _ _ _ _ _ _ _ _ _ _ _ _ _ _ _ _ _ _ _ _ _ _ _ _ _ _ _ _ _ _ _ _ _ _ _ _ _ _ _ _ _ _ _ _ _ _ _ _ _ _ _ _ _ _ _ _ _ _ _ _ _ _ _ _ _ _ _ _ _ _ _ _ _ _ _ _ _ _ _ _ _ _ _ _ _ _ _ _ _ _ _ _ _ _ _ _ _ _ _ _ _ _ _ _ _ _ _ _ _ _ _ _ _ _ _ _ _ _ _ _ _ _ _ _ _ _ _ _ _ _ _ _ _ _ _ _ i _ _ _ _ _ _ _ _ _ _ _ _ _ _ _ _ _ _ _ _ _ _ t tb N _ _ _ _ _ _ _ _ _ _ _ _ _ _ _ aL _ _ _ _ _ _ _ _ _ _ _ _ _ _ _ _ _ _ _ _ _ mr _ _ _ _ _ _ _ _ _ _ _ _ _ _ _ _ _ _ _ _ _ _ _ _ _ _ _ _ _ _ _ _ _ _ _ _ _ _ _ _ _ _ _ _ _ _ _ _ _ _ _ _ _ _ _ _ _ _ _ _ _ _ _ _ _ _ _ _ _ _ _ _ _ _ _ _ _ _ _ _ _ _ _ _ _ _ _ _ _ a _ _ _ _ _ _ _ f fb M _ _ _ _ _ _ _ _ _ _ _ _ _ _ _ _ _ _ _ _ _ _ _ _ _ _ _ _ _ _ _ _ _ _ _ _ _ _ _ _ _ _ _ _ _ _ _ _ _ _ _ _ _ _ _ _ _ _ _ _ _ _ _ _ _ _ _ _ _ _ _ _ _ _ _ _ _ _ _ _ _ _ _ _ _ _ _ _ _ _ _ _ _ _ _ _ _ _ _ _ _ _ _ _ _ _ _ _ _ _ _ _ _ _ _ _ _ _ _ _ _ _ _ _ _ _ _ _ u _ _ _ _ _ _ _ _ _ _ _ _ _ _ _ _ _ _ _ _ _ _ _ _ _ _ _ _ _ _ _ _ _ _ _ _ _ _ _ _ _ _ _ _ _ _ _ _ _ _ _ _ _ _ _ _ _ _ _ _ _ _ _ _ _ _ _ _ _ _ _ _ _ _ _ _ G u3 m3 u4 m4 _ Z _ _ _ _ _ _ _ O Y U A D aE aB aC V _ _ aA;intros
 go_region_held3 (λw'=>Ii w' w 0 (.slice up s.sums.length uc)/\Ii w' w 1 (Io tb N n tc)/\Ii w' tb (N+i*13+3) (Io fb M mr aL)/\Ii w' fb (M+a*2+1) f.table/\AQ w' G u.kind u.n u.s (.slice u3 u.names.length m3) (.slice u4 u.kids.length m4) (Below Z Z w')) (first | with_reducible exact O.o | with_reducible exact I | with_reducible exact D.o _ _ O.o | with_reducible exact D.o _ _ (D.o _ _ O.o) | with_reducible exact D.o _ _ I | with_reducible exact aB.o _ _ _ _ _ _ I | with_reducible exact aC.o _ _ _ _ _ _ I | with_reducible exact U.o _ (D.o _ _ Y.o) | with_reducible exact U.o _ (D.o _ _ (D.o _ _ Y.o)))
  (first
   | (go_at_call 44;refine (aA.o _ _ (A.o _ AN) (V.o _ _ (A.o _ AN) (by first | exact Qw _ _ | exact Y6 Ib _ | exact Zb (Qw _ _) _ | exact Zb (Y6 Ib _) _ | fail))).mono ?_;rintro e w2 ⟨r0,r1,aM,o3,o4,o5,o6,o7,o8,rfl,T,aK⟩;have I:=aE.o _ aK;(try (have J:w2.heap[Z.heap.size]?=some (.cells zV 36 (0,0)):=kE T (by simp;omega) (Zb (Y6 rfl _) _);obtain ⟨y0,y1,y2,y3,y4⟩:=If J;obtain ⟨aF,aG,aH,aI,aJ⟩:=Ip J;have aD:=Qq J;clear J));(try (have J:w2.heap[Z.heap.size+1]?=some (.cells zV 36 (0,0)):=kE T Ib (Y6 Ib _);obtain ⟨y0,y1,y2,y3,y4⟩:=If J;obtain ⟨aF,aG,aH,aI,aJ⟩:=Ip J;have aD:=Qq J;clear J));clear T))
 all_goals
  go_wp2_with fail
  go_meet
  first
   | exact ⟨rfl,Zd (A.o _ I) (Q9 _)⟩
   | exact ⟨rfl,Zd (A.o _ I) (Nat.le_succ _)⟩
   | exact ⟨rfl,(A.o _ I).n (Zg _ _)⟩
end Go.Proofs.YtdpibdpbgokmoaaGreatDoor
