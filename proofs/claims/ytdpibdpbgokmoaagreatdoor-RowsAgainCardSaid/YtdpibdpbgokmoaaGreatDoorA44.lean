import Derived.Test.YtdpibdpbgokmoaaGreatDoorA42
set_option maxRecDepth 100000
set_option maxHeartbeats 400000000
namespace Go.Proofs.YtdpibdpbgokmoaaGreatDoor
open Go.RowKit Go.Shelf Go.Lib Tryz
theorem Qqa:G6.P1:=by
 intro _ _ s _ w _ _ _ _ tc _ _ _ _ _ _ n _ _ _ _ _ _ _ _ _ _ _ _ _ _ _ _ _ _ _ _ _ _ _ _ _ _ _ _ _ _ _ _ _ _ _ _ _ _ _ _ _ _ _ _ _ _ _ _ _ _ _ _ _ _ _ _ _ _ _ _ _ _ _ _ _ _ _ _ _ _ _ _ _ _ _ _ _ _ _ _ _ _ _ _ _ _ _ _ _ _ _ _ _ _ _ _ _ _ _ _ _ _ _ _ _ _ _ _ _ _ _ _ _ _ _ _ _ _ _ _ _ _ _ _ _ _ _ _ _ _ _ _ _ _ _ _ _ _ _ _ _ _ _ _ _ _ _ _ _ _ _ _ _ _ _ _ _ _ _ _ _ _ _ _ _ _ _ _ _ _ _ _ _ _ _ _ _ _ _ _ _ _ _ _ _ _ _ _ _ _ _ _ _ _ _ _ _ _ _ _ _ _ _ _ _ _ _ _ _ _ _ _ _ _ _ _ _ _ _ _ _ _ _ _ _ _ _ _ _ _ _ _ _ _ _ _ _ _ _ _ _ _ _ _ _ _ _ _ _ _ _ _ _ _ _ _ _ _ _ _ _ _ _ _ _ _ _ _ _ _ _ _ _ _ _ _ _ _ _ _ _ _ _ i _ _ _ _ _ _ _ _ _ lb V _ _ _ qc m _ _ _ _ _ _ t tb I _ _ _ _ _ _ _ _ _ _ _ _ _ _ _ aH _ _ _ _ _ _ _ _ _ _ _ _ _ _ _ _ _ _ _ _ _ mr _ _ _ _ _ _ _ _ _ _ _ _ _ _ _ _ _ _ _ _ _ _ _ _ _ _ _ _ _ _ _ _ _ _ _ _ _ _ _ _ _ _ _ _ _ _ _ _ _ _ _ _ _ _ _ _ _ _ _ _ _ _ _ _ _ _ _ _ _ _ _ _ _ _ _ _ _ _ _ _ _ _ _ _ _ _ _ _ _ a _ _ _ _ _ _ _ f fb G _ _ _ _ _ _ _ _ _ _ _ _ _ _ wr _ _ _ _ _ _ _ _ _ _ _ _ _ _ _ _ _ _ _ _ _ _ _ _ _ _ _ _ _ _ _ _ _ _ _ _ _ _ _ _ _ _ _ _ _ _ _ _ _ _ _ _ _ _ _ _ _ _ _ _ _ _ _ _ _ _ _ _ _ _ _ _ _ _ k _ _ _ aF _ _ _ _ _ x xb J aK aI aL aJ _ _ _ _ _ _ _ _ g0 g1 g2 g4 _ _ _ _ _ _ _ _ _ _ _ b _ _ _ _ _ _ _ aC aE Z A N aD aB aA;intros
 go_region_held3 (λw'=>Ii w' w 1 (Io tb I n tc)/\Ii w' lb (V+i*2+1) (Io xb J m qc)/\BF w' xb (J+k*5) x.kind x.n x.s (.slice aK x.names.length aI) (.slice aL x.kids.length aJ) (Ii w' tb (I+i*13+3) (Io fb G mr aH)/\Ii w' fb (G+a*2) f.column/\Below wr wr w')) (first | with_reducible exact aC.o | with_reducible exact D | with_reducible exact Z.o _ (N.o _ _ aE.o) | with_reducible exact N.o _ _ D | with_reducible exact aB.o _ _ _ _ _ _ D)
  (first
   | (go_at_call 43;refine (aA.o _ (A.o _ AN)).mono ?_;rintro e w2 ⟨u3,m3,u4,m4,rfl,U,M,aG⟩;have D:=aD.o _ aG;(try (have Y:w2.heap[wr.heap.size]?=some (.cells zV 36 (0,0)):=(M.block wr Ib).trans (Qw wr _);obtain ⟨y0,y1,y2,y3,y4⟩:=If Y;obtain ⟨g0,g1,g2,g3,g4⟩:=Ip Y;have O:=Qq Y;clear Y));have T:=Qq U;have aM:=Qq M;clear U M))
 all_goals
  go_wp2_with fail
  go_meet
  first
   | (have h9:=O.o;clear h9;exact ⟨wr.heap.size,u3,m3,u4,m4,rfl,rfl,Yd O.o,Z9.move T.o (λb hb _=>Zf (by have:=hb.2;have:=aF.o.size;omega)) Ij,Zd (A.o _ D) (Q9 _),Q9 _⟩)
   | exact ⟨w2.heap.size,u3,m3,u4,m4,rfl,rfl,Qw _ _,Z9.move T.o (.f (Zg _ _)) Ij,(A.o _ D).n (Zg _ _),(A.o _ D).size⟩
end Go.Proofs.YtdpibdpbgokmoaaGreatDoor
