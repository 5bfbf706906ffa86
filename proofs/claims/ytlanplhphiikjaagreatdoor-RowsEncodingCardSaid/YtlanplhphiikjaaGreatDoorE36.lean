import Derived.Test.YtlanplhphiikjaaGreatDoorE34
set_option maxRecDepth 100000
set_option maxHeartbeats 400000000
namespace Go.Proofs.YtlanplhphiikjaaGreatDoor
open Go.RowKit Go.Shelf Go.Lib Tryz
theorem Qqa:Gk.P1:=by
 intro _ _ s _ w _ _ _ _ tc _ _ _ _ _ _ n _ _ _ _ _ _ _ _ _ _ _ _ _ _ _ _ _ _ _ _ _ _ _ _ _ _ _ _ _ _ _ _ _ _ _ _ _ _ _ _ _ _ _ _ _ _ _ _ _ _ _ _ _ _ _ _ _ _ _ _ _ _ _ _ _ _ _ _ _ _ _ _ _ _ _ _ _ _ _ _ _ _ _ _ _ _ _ _ _ _ _ _ _ _ _ _ _ _ _ _ _ _ _ _ _ _ _ _ _ _ _ _ _ _ _ _ _ _ _ _ _ _ _ _ _ _ _ _ _ _ _ _ _ _ _ _ _ _ _ _ _ _ _ _ _ _ _ _ _ _ _ _ _ _ _ _ _ _ _ _ _ _ _ _ _ _ _ _ _ _ _ _ _ _ _ _ _ _ _ _ _ _ _ _ _ _ _ _ _ _ _ _ _ _ _ _ _ _ _ _ _ _ _ _ _ _ _ _ _ _ _ _ _ _ _ _ _ _ _ _ _ _ _ _ _ _ _ _ _ _ _ _ _ _ _ _ _ _ _ _ _ _ _ _ _ _ _ _ _ _ _ _ _ _ _ _ _ _ _ _ _ _ _ _ _ _ _ _ _ _ _ _ _ _ _ _ _ _ _ _ _ _ _ i _ _ _ _ _ _ _ _ _ lb Y _ _ _ qc m _ _ _ _ _ _ t tb J _ _ _ _ _ _ _ _ _ _ _ _ _ _ _ aI _ _ _ _ _ _ _ _ _ _ _ _ _ _ _ _ _ _ _ _ _ mr _ _ _ _ _ _ _ _ _ _ _ _ _ _ _ _ _ _ _ _ _ _ _ _ _ _ _ _ _ _ _ _ _ _ _ _ _ _ _ _ _ _ _ _ _ _ _ _ _ _ _ _ _ _ _ _ _ _ _ _ _ _ _ _ _ _ _ _ _ _ _ _ _ _ _ _ _ _ _ _ _ _ _ _ _ _ _ _ _ a _ _ _ _ _ _ _ f fb I _ _ _ _ _ _ _ _ _ _ _ _ _ _ wr _ _ _ _ _ _ _ _ _ _ _ _ _ _ _ _ _ _ _ _ _ _ _ _ _ _ _ _ _ _ _ _ _ _ _ _ _ _ _ _ _ _ _ _ _ _ _ _ _ _ _ _ _ _ _ _ _ _ _ _ _ _ _ _ _ _ _ _ _ _ _ _ _ _ k _ _ _ aG _ _ _ _ _ x xb M aL aJ aM aK _ _ _ _ _ _ _ _ g0 g1 g2 g4 _ _ _ _ _ _ _ _ _ _ _ b _ _ _ _ _ _ _ aD aF aA A O aE aC aB;intros
 go_region_held3 (fun w'=>Qxw w' w 1 (Qxa tb J n tc)/\Qxw w' lb (Y+i*2+1) (Qxa xb M m qc)/\Qyb w' xb (M+k*5) x.kind x.n x.s (.slice aL x.names.length aJ) (.slice aM x.kids.length aK) (Qxw w' tb (J+i*13+3) (Qxa fb I mr aI)/\Qxw w' fb (I+a*2) f.column/\Below wr wr w')) (first | with_reducible exact aD.out | with_reducible exact D | with_reducible exact aA.out _ (O.out _ _ aF.out) | with_reducible exact O.out _ _ D | with_reducible exact aC.out _ _ _ _ _ _ D)
  (first
   | (go_at_call 55;refine (aB.out _ (A.out _ Qxy)).mono ?_;rintro e w2 ⟨u3,m3,u4,m4,rfl,V,N,aH⟩;have D:=aE.out _ aH;(try (have Z:w2.heap[wr.heap.size]?=some (.cells zV 48 (0,0)):=(N.block wr Qxz).trans (Qw wr _);obtain ⟨y0,y1,y2,y3,y4⟩:=row5 Z;obtain ⟨g0,g1,g2,g3,g4⟩:=frz5 Z;have T:=Qq Z;clear Z));have U:=Qq V;have aN:=Qq N;clear V N))
 all_goals
  go_wp2_with fail
  go_meet
  first
   | (have h9:=T.out;clear h9;exact ⟨wr.heap.size,u3,m3,u4,m4,rfl,rfl,Vx T.out,Za.move U.out (fun b hb _=>Zi (by have:=hb.2;have:=aG.out.size;omega)) Qyv,Zf (A.out _ D) (Q9 _),Q9 _⟩)
   | exact ⟨w2.heap.size,u3,m3,u4,m4,rfl,rfl,Qw _ _,Za.move U.out (.of_below (Ze _ _)) Qyv,(A.out _ D).thn (Ze _ _),(A.out _ D).size⟩
end Go.Proofs.YtlanplhphiikjaaGreatDoor
