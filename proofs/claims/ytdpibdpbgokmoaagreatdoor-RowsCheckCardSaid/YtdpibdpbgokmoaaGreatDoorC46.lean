import Derived.Test.YtdpibdpbgokmoaaGreatDoorC44
set_option maxRecDepth 100000
set_option maxHeartbeats 400000000
namespace Go.Proofs.YtdpibdpbgokmoaaGreatDoor
open Go.RowKit Go.Shelf Go.Lib Tryz
theorem Aw:Fx.P1:=by
 intro _ _ s _ w _ _ _ _ tc _ _ _ _ _ _ n _ _ _ _ _ _ _ _ _ _ _ _ _ _ _ _ _ _ _ _ _ _ _ _ _ _ _ _ _ _ _ _ _ _ _ _ _ _ _ _ _ _ _ _ _ _ _ _ _ _ _ _ _ _ _ _ _ _ _ _ _ _ _ _ _ _ _ _ _ _ _ _ _ _ _ _ _ _ _ _ _ _ _ _ _ _ _ _ _ _ _ _ _ _ _ _ _ _ _ _ _ _ _ _ _ _ _ _ _ _ _ _ _ _ _ _ _ _ _ _ _ _ _ _ _ _ _ _ _ _ _ _ _ _ _ _ _ _ _ _ _ _ _ _ _ _ _ _ _ _ _ _ _ _ _ _ _ _ _ _ _ _ _ _ _ _ _ _ _ _ _ _ _ _ _ _ _ _ _ _ _ _ _ _ _ _ _ _ _ _ _ _ _ _ _ _ _ _ _ _ _ _ _ _ _ _ _ _ _ _ _ _ _ _ _ _ _ _ _ _ _ _ _ _ _ _ _ _ _ _ _ _ _ _ _ _ _ _ _ _ _ _ _ _ _ _ _ _ _ _ _ _ _ _ _ _ _ _ _ _ _ _ _ _ _ _ _ _ _ _ _ _ _ _ _ _ _ _ _ _ _ _ _ i _ _ _ _ _ _ _ _ _ lb V _ _ _ qc m _ _ _ _ _ _ t tb I _ _ _ _ _ _ _ _ _ _ _ _ _ _ _ aH _ _ _ _ _ _ _ _ _ _ _ _ _ _ _ _ _ _ _ _ _ mr _ _ _ _ _ _ _ _ _ _ _ _ _ _ _ _ _ _ _ _ _ _ _ _ _ _ _ _ _ _ _ _ _ _ _ _ _ _ _ _ _ _ _ _ _ _ _ _ _ _ _ _ _ _ _ _ _ _ _ _ _ _ _ _ _ _ _ _ _ _ _ _ _ _ _ _ _ _ _ _ _ _ _ _ _ _ _ _ _ a _ _ _ _ _ _ _ f fb G _ _ _ _ _ _ _ _ _ _ _ _ _ _ wr _ _ _ _ _ _ _ _ _ _ _ _ _ _ _ _ _ _ _ _ _ _ _ _ _ _ _ _ _ _ _ _ _ _ _ _ _ _ _ _ _ _ _ _ _ _ _ _ _ _ _ _ _ _ _ _ _ _ _ _ _ _ _ _ _ _ _ _ _ _ _ _ _ _ k _ _ _ aF _ _ _ _ _ x xb J aK aI aL aJ _ _ _ _ _ _ _ _ g0 g1 g2 g4 _ _ _ _ _ _ _ _ _ _ _ b _ _ _ _ _ _ _ aC aE Z A N aD aB aA;intros
 go_region_held3 (fun w'=>Qqa w' w 1 (Qqb tb I n tc)∧Qqa w' lb (V+i*2+1) (Qqb xb J m qc)∧Qzc w' xb (J+k*5) x.kind x.n x.s (.slice aK x.names.length aI) (.slice aL x.kids.length aJ) (Qqa w' tb (I+i*13+3) (Qqb fb G mr aH)∧Qqa w' fb (G+a*2) f.column∧Below wr wr w')) (first | with_reducible exact aC.out | with_reducible exact D | with_reducible exact Z.out _ (N.out _ _ aE.out) | with_reducible exact N.out _ _ D | with_reducible exact aB.out _ _ _ _ _ _ D)
  (first
   | (go_at_call 43;refine (aA.out _ (A.out _ Qqw)).mono ?_;rintro e w2 ⟨u3,m3,u4,m4,rfl,U,M,aG⟩;have D:=aD.out _ aG;(try (have Y:w2.heap[wr.heap.size]?=some (.cells zV 36 (0,0)):=(M.block wr Qqk).trans (Qw wr _);obtain ⟨y0,y1,y2,y3,y4⟩:=row5 Y;obtain ⟨g0,g1,g2,g3,g4⟩:=frz5 Y;have O:=Qq Y;clear Y));have T:=Qq U;have aM:=Qq M;clear U M))
 all_goals
  go_wp2_with fail
  go_meet
  first
   | (have h9:=O.out;clear h9;exact ⟨wr.heap.size,u3,m3,u4,m4,rfl,rfl,Yd O.out,Z9.move T.out (fun b hb _=>Zf (by have:=hb.2;have:=aF.out.size;omega)) Qzx,Zc (A.out _ D) (Q9 _),Q9 _⟩)
   | exact ⟨w2.heap.size,u3,m3,u4,m4,rfl,rfl,Qw _ _,Z9.move T.out (.of_below (Zg _ _)) Qzx,(A.out _ D).thn (Zg _ _),(A.out _ D).size⟩
end Go.Proofs.YtdpibdpbgokmoaaGreatDoor
