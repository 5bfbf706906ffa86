import Derived.Test.YtlanplhphiikjaaGreatDoorE50
set_option maxRecDepth 100000
set_option maxHeartbeats 400000000
namespace Go.Proofs.YtlanplhphiikjaaGreatDoor
open Go.ChangeShapes Go.WideShapes Go.ChangeAt Go.RowKit
open Go.ChangeMaps (open_string shut_string)
set_option maxRecDepth 100000
theorem Xf {a b:Bool} (h:a=true) (k:b=true):(a&&b)=true:=by rw [h,k];rfl
theorem jf0:(Rows.rowsEncodingRow.wf (OpenSpec.ofChange Rows.rowsEncodingSpec))=true:=Qxx
theorem jf1:(laidOutB Tryz.prog)=true:=Gf
theorem jf2:(mapsRowed Tryz.prog)=true:=Qxx
theorem jf3:(Tryz.f3.params.all (Tryz.prog.readableRec ·))=true:=Qxx
theorem jf4:(namedTie Tryz.prog Rows.rowsEncodingRow.named Rows.rowsEncodingSpec.vars)=true:=Qxx
theorem jf5:((Rows.rowsEncodingRow.stops==[]))=true:=Qxx
theorem jf6:((Tryz.prog.stops==[]))=true:=Qxx
theorem jf7:((Rows.rowsEncodingRow.knobs==[]))=true:=Qxx
theorem jf8:((Tryz.prog.stopKnobs==[]))=true:=Qxx
theorem jf9:((Rows.rowsEncodingRow.inPlace==Tryz.prog.inPlace 3))=true:=Qxx
theorem jf10:((Rows.rowsEncodingRow.unfollowed==Tryz.prog.unfollowed 3))=true:=Qxx
theorem jf11:((Rows.rowsEncodingRow.recurses==Tryz.prog.recurses 3))=true:=Qxx
theorem jf12:((Rows.rowsEncodingRow.named==Tryz.prog.varsNamed 3))=true:=Qxx
theorem jf13:((Rows.rowsEncodingRow.maps==(Tryz.f3.params.toList++Rows.rowsEncodingSpec.plain.varTypes Tryz.prog).any (Tryz.prog.mapsRec ·)))=true:=Qxx
theorem jf14:((Rows.rowsEncodingRow.ifaces==(Tryz.f3.params.toList++Rows.rowsEncodingSpec.plain.varTypes Tryz.prog).any (Tryz.prog.ifacesRec ·)))=true:=Qxx
theorem jf15:((Rows.rowsEncodingRow.mapsOut==Tryz.prog.mapsAmong Tryz.f3.resultTypes.toList))=true:=Qxx
theorem jf16:((Rows.rowsEncodingRow.loops==(Tryz.f3.params.toList++Rows.rowsEncodingSpec.plain.varTypes Tryz.prog).any (Tryz.prog.loopsFrom ·)))=true:=Qxx
theorem jf17:((Rows.rowsEncodingRow.wideKeys==(Tryz.f3.params.toList++Rows.rowsEncodingSpec.plain.varTypes Tryz.prog++Tryz.f3.resultTypes.toList).any (Tryz.prog.wideKeysFrom ·)))=true:=Qxx
theorem jf18:(Rows.rowsEncodingSpec.vars.all (Tryz.prog.varReadable ·))=true:=Qxx
theorem jf19:(Tryz.f3.resultTypes.all (fun t=>Tryz.prog.readableRec t&&decide (t<Tryz.prog.types.size)))=true:=Qxx
theorem jf20:((Rows.rowsEncodingRow.ifacesOut==Tryz.f3.resultTypes.toList.any (Tryz.prog.ifacesRec ·)))=true:=Qxx
theorem jf21:((Rows.rowsEncodingRow.loopsOut==Tryz.f3.resultTypes.toList.any (Tryz.prog.loopsFrom ·)))=true:=Qxx
theorem jf22:((Rows.rowsEncodingRow.plainKeys==Tryz.prog.plainKeys))=true:=Qxx
theorem jf23:(Rows.rowsEncodingRow.shortTexts.isNone)=true:=Qxx
theorem jf24:(Tryz.prog.stopsHeard)=true:=Qxx
theorem jf25:(Tryz.prog.mayEnter)=true:=Qxx
theorem jf26:((Rows.rowsEncodingRow.lifted==Tryz.prog.liftsFinal))=true:=Qxx
theorem jf27:((Tryz.prog.make==some Rows.rowsEncodingRow.make))=true:=Qxx
theorem jf28:((Rows.rowsEncodingRow.kinds==(if Rows.rowsEncodingRow.domain.isEmpty then [] else Tryz.f3.params.toList.map fun t=>match Tryz.prog.underlying t with | some (.int k)=>some k | _=>none)))=true:=Qxx
theorem jf29:((Rows.rowsEncodingRow.pinned==Rows.rowsEncodingRow.pinnedBy))=true:=Qxx
theorem jf30:((Rows.rowsEncodingRow.veiled==(Tryz.f3.params.toList++Rows.rowsEncodingSpec.plain.varTypes Tryz.prog++Tryz.f3.resultTypes.toList).any (Tryz.prog.veiledRec ·)))=true:=Qxx
theorem jf31:(Rows.rowsEncodingRow.veiledFits Tryz.prog Tryz.f3.params.toList (Tryz.f3.params.toList++Rows.rowsEncodingSpec.plain.varTypes Tryz.prog++Tryz.f3.resultTypes.toList))=true:=Qxx
theorem P7:joinedFacts Tryz.prog 3 Tryz.f3 Rows.rowsEncodingSpec Rows.rowsEncodingRow=true:=by
 unfold joinedFacts
 exact (Xf (Xf (Xf (Xf (Xf (Xf (Xf (Xf (Xf (Xf (Xf (Xf (Xf (Xf (Xf (Xf (Xf (Xf (Xf (Xf (Xf (Xf (Xf (Xf (Xf (Xf (Xf (Xf (Xf (Xf (Xf jf0 jf1) jf2) jf3) jf4) jf5) jf6) jf7) jf8) jf9) jf10) jf11) jf12) jf13) jf14) jf15) jf16) jf17) jf18) jf19) jf20) jf21) jf22) jf23) jf24) jf25) jf26) jf27) jf28) jf29) jf30) jf31)
theorem E6:Rows.RowsEncodingSaid:=
 OpenClaim.holds_of_wide 3 Tryz.f3 rfl rfl rfl rfl rfl rfl rfl ⟨rfl,rfl,rfl,rfl,rfl⟩ rfl rfl rfl rfl rfl Qxx Tryz.func3 P7
  (of_decide_eq_true Qxx) (by unfold Func.isWrapper;first | (rw [if_pos (by decide +kernel)];kernel_rfl) | (rw [if_neg (by decide +kernel)];exact ⟨rfl,rfl⟩))
  (fun os A H enc _=>Fh os A H enc)
end Go.Proofs.YtlanplhphiikjaaGreatDoor
