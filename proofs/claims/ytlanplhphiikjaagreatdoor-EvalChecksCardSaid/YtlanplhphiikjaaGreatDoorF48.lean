import Derived.Test.YtlanplhphiikjaaGreatDoorF47
set_option maxRecDepth 100000
set_option maxHeartbeats 400000000
namespace Go.Proofs.YtlanplhphiikjaaGreatDoor
open Go.ChangeShapes Go.WideShapes Go.ChangeAt Go.RowKit
open Go.ChangeMaps (open_string shut_string)
set_option maxRecDepth 100000
theorem Yf {a b:Bool} (h:a=true) (k:b=true):(a&&b)=true:=by rw [h,k];rfl
theorem jf0:(Rows.evalChecksRow.wf (OpenSpec.ofChange Rows.evalChecksSpec))=true:=Og
theorem jf1:(laidOutB Tryz.prog)=true:=Bw
theorem jf2:(mapsRowed Tryz.prog)=true:=Og
theorem jf3:(Tryz.f4.params.all (Tryz.prog.readableRec ·))=true:=Og
theorem jf4:(namedTie Tryz.prog Rows.evalChecksRow.named Rows.evalChecksSpec.vars)=true:=Og
theorem jf5:((Rows.evalChecksRow.stops==[]))=true:=Og
theorem jf6:((Tryz.prog.stops==[]))=true:=Og
theorem jf7:((Rows.evalChecksRow.knobs==[]))=true:=Og
theorem jf8:((Tryz.prog.stopKnobs==[]))=true:=Og
theorem jf9:((Rows.evalChecksRow.inPlace==Tryz.prog.inPlace 4))=true:=Og
theorem jf10:((Rows.evalChecksRow.unfollowed==Tryz.prog.unfollowed 4))=true:=Og
theorem jf11:((Rows.evalChecksRow.recurses==Tryz.prog.recurses 4))=true:=Og
theorem jf12:((Rows.evalChecksRow.named==Tryz.prog.varsNamed 4))=true:=Og
theorem jf13:((Rows.evalChecksRow.maps==(Tryz.f4.params.toList++Rows.evalChecksSpec.plain.varTypes Tryz.prog).any (Tryz.prog.mapsRec ·)))=true:=Og
theorem jf14:((Rows.evalChecksRow.ifaces==(Tryz.f4.params.toList++Rows.evalChecksSpec.plain.varTypes Tryz.prog).any (Tryz.prog.ifacesRec ·)))=true:=Og
theorem jf15:((Rows.evalChecksRow.mapsOut==Tryz.prog.mapsAmong Tryz.f4.resultTypes.toList))=true:=Og
theorem jf16:((Rows.evalChecksRow.loops==(Tryz.f4.params.toList++Rows.evalChecksSpec.plain.varTypes Tryz.prog).any (Tryz.prog.loopsFrom ·)))=true:=Og
theorem jf17:((Rows.evalChecksRow.wideKeys==(Tryz.f4.params.toList++Rows.evalChecksSpec.plain.varTypes Tryz.prog++Tryz.f4.resultTypes.toList).any (Tryz.prog.wideKeysFrom ·)))=true:=Og
theorem jf18:(Rows.evalChecksSpec.vars.all (Tryz.prog.varReadable ·))=true:=Og
theorem jf19:(Tryz.f4.resultTypes.all (fun t=>Tryz.prog.readableRec t&&decide (t<Tryz.prog.types.size)))=true:=Og
theorem jf20:((Rows.evalChecksRow.ifacesOut==Tryz.f4.resultTypes.toList.any (Tryz.prog.ifacesRec ·)))=true:=Og
theorem jf21:((Rows.evalChecksRow.loopsOut==Tryz.f4.resultTypes.toList.any (Tryz.prog.loopsFrom ·)))=true:=Og
theorem jf22:((Rows.evalChecksRow.plainKeys==Tryz.prog.plainKeys))=true:=Og
theorem jf23:(Rows.evalChecksRow.shortTexts.isNone)=true:=Og
theorem jf24:(Tryz.prog.stopsHeard)=true:=Og
theorem jf25:(Tryz.prog.mayEnter)=true:=Og
theorem jf26:((Rows.evalChecksRow.lifted==Tryz.prog.liftsFinal))=true:=Og
theorem jf27:((Tryz.prog.make==some Rows.evalChecksRow.make))=true:=Og
theorem jf28:((Rows.evalChecksRow.kinds==(if Rows.evalChecksRow.domain.isEmpty then [] else Tryz.f4.params.toList.map fun t=>match Tryz.prog.underlying t with | some (.int k)=>some k | _=>none)))=true:=Og
theorem jf29:((Rows.evalChecksRow.pinned==Rows.evalChecksRow.pinnedBy))=true:=Og
theorem jf30:((Rows.evalChecksRow.veiled==(Tryz.f4.params.toList++Rows.evalChecksSpec.plain.varTypes Tryz.prog++Tryz.f4.resultTypes.toList).any (Tryz.prog.veiledRec ·)))=true:=Og
theorem jf31:(Rows.evalChecksRow.veiledFits Tryz.prog Tryz.f4.params.toList (Tryz.f4.params.toList++Rows.evalChecksSpec.plain.varTypes Tryz.prog++Tryz.f4.resultTypes.toList))=true:=Og
theorem Bq:joinedFacts Tryz.prog 4 Tryz.f4 Rows.evalChecksSpec Rows.evalChecksRow=true:=by
 unfold joinedFacts
 exact (Yf (Yf (Yf (Yf (Yf (Yf (Yf (Yf (Yf (Yf (Yf (Yf (Yf (Yf (Yf (Yf (Yf (Yf (Yf (Yf (Yf (Yf (Yf (Yf (Yf (Yf (Yf (Yf (Yf (Yf (Yf jf0 jf1) jf2) jf3) jf4) jf5) jf6) jf7) jf8) jf9) jf10) jf11) jf12) jf13) jf14) jf15) jf16) jf17) jf18) jf19) jf20) jf21) jf22) jf23) jf24) jf25) jf26) jf27) jf28) jf29) jf30) jf31)
theorem Ds:Rows.EvalChecksSaid:=
 OpenClaim.holds_of_wide 4 Tryz.f4 rfl rfl rfl rfl rfl rfl rfl ⟨rfl,rfl,rfl,rfl,rfl⟩ rfl rfl rfl rfl rfl Og Tryz.func4 Bq
  (of_decide_eq_true Og) (by unfold Func.isWrapper;first | (rw [if_pos (by decide +kernel)];kernel_rfl) | (rw [if_neg (by decide +kernel)];exact ⟨rfl,rfl⟩))
  (fun os D H enc _=>Jh os D H enc)
end Go.Proofs.YtlanplhphiikjaaGreatDoor
