import Derived.Test.YtfaclfkpnmcmlaaGreatDoorS00
import Derived.Deep.DeepHandedRow
import Derived.ProofKit
import Derived.SevenTiedAt
import Derived.Test.YtfaclfkpnmcmlaaGreatDoorRows
set_option maxHeartbeats 8000000
set_option linter.all false
namespace Go.Proofs.YtfaclfkpnmcmlaaGreatDoor
open Go
theorem R5:(Rows.syntaxFirstUptoRow.wf (OpenSpec.ofChange (OpenSpec.bare (Rows.OpenSpec.upto Rows.syntaxFirstSpec))))=true:=by kernel_rfl
theorem Rv:(namedTie Tryz.prog Rows.syntaxFirstUptoRow.named (OpenSpec.bare (Rows.OpenSpec.upto Rows.syntaxFirstSpec)).vars)=true:=by kernel_rfl
theorem RT:((Tryz.prog.stopKnobs == []))=true:=by kernel_rfl
theorem Qv:((Rows.syntaxFirstUptoRow.named == Tryz.prog.varsNamed 8))=true:=by kernel_rfl
theorem QA:((Rows.syntaxFirstUptoRow.loops == (Tryz.f8.params.toList++(OpenSpec.bare (Rows.OpenSpec.upto Rows.syntaxFirstSpec)).plain.varTypes Tryz.prog).any (Tryz.prog.loopsFrom ·)))=true:=by kernel_rfl
theorem QB:((Rows.syntaxFirstUptoRow.ifacesOut == Tryz.f8.resultTypes.toList.any (Tryz.prog.ifacesRec ·)))=true:=by kernel_rfl
theorem Qt:(Tryz.prog.stopsHeard)=true:=by kernel_rfl
theorem Pz:((Rows.syntaxFirstUptoRow.kinds == (if Rows.syntaxFirstUptoRow.domain.isEmpty then []else Tryz.f8.params.toList.map fun t=>match Tryz.prog.underlying t with|some (.int k)=>some k|_=>none)))=true:=by kernel_rfl
theorem Ry:Rows.syntaxFirstUptoRow.wfByText (Rows.OpenSpec.upto Rows.syntaxFirstSpec)=true:=by kernel_rfl
theorem RQ:Tryz.prog.mainIs=some (true,("fb6f3cea10b2bce7ccd9e68c58951443a6981fe33c0f78952a9ec7f837153f3e":String).toList):=by kernel_rfl
theorem QY:Tryz.prog.funcNamed "motley/motleylaw07.SyntaxFirst"=some 8:=by kernel_rfl
theorem R6:true=Tryz.prog.looks []:=by kernel_rfl
theorem RM:([22,23,22].all fun u=>!Tryz.prog.wantsStandIn u)=true:=by kernel_rfl
theorem Rd:false=Rows.syntaxFirstUptoRow.goesBy Tryz.prog:=by kernel_rfl
theorem RK:Tryz.f8.isInstance Tryz.prog Rows.syntaxFirstUptoRow.origin Rows.syntaxFirstUptoRow.targs:=TG (by kernel_rfl)
end Go.Proofs.YtfaclfkpnmcmlaaGreatDoor
