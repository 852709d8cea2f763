import Derived.Test.YtfaclfkpnmcmlaaGreatDoorS00
import Derived.Deep.DeepHandedRow
import Derived.ProofKit
import Derived.SevenTiedAt
import Derived.Test.YtfaclfkpnmcmlaaGreatDoorRows
set_option maxHeartbeats 8000000
set_option linter.all false
namespace Go.Proofs.YtfaclfkpnmcmlaaGreatDoor
open Go
theorem R5:(Rows.syntaxWithinUptoRow.wf (OpenSpec.ofChange (OpenSpec.bare (Rows.OpenSpec.upto Rows.syntaxWithinSpec))))=true:=by kernel_rfl
theorem Rv:(namedTie Tryz.prog Rows.syntaxWithinUptoRow.named (OpenSpec.bare (Rows.OpenSpec.upto Rows.syntaxWithinSpec)).vars)=true:=by kernel_rfl
theorem RT:((Tryz.prog.stopKnobs == []))=true:=by kernel_rfl
theorem Qv:((Rows.syntaxWithinUptoRow.named == Tryz.prog.varsNamed 9))=true:=by kernel_rfl
theorem QA:((Rows.syntaxWithinUptoRow.loops == (Tryz.f9.params.toList++(OpenSpec.bare (Rows.OpenSpec.upto Rows.syntaxWithinSpec)).plain.varTypes Tryz.prog).any (Tryz.prog.loopsFrom ·)))=true:=by kernel_rfl
theorem QB:((Rows.syntaxWithinUptoRow.ifacesOut == Tryz.f9.resultTypes.toList.any (Tryz.prog.ifacesRec ·)))=true:=by kernel_rfl
theorem Qt:(Tryz.prog.stopsHeard)=true:=by kernel_rfl
theorem Pz:((Rows.syntaxWithinUptoRow.kinds == (if Rows.syntaxWithinUptoRow.domain.isEmpty then []else Tryz.f9.params.toList.map fun t=>match Tryz.prog.underlying t with|some (.int k)=>some k|_=>none)))=true:=by kernel_rfl
theorem Ry:Rows.syntaxWithinUptoRow.wfByText (Rows.OpenSpec.upto Rows.syntaxWithinSpec)=true:=by kernel_rfl
theorem RQ:Tryz.prog.mainIs=some (true,("fb6f3cea10b2bce7ccd9e68c58951443a6981fe33c0f78952a9ec7f837153f3e":String).toList):=by kernel_rfl
theorem QY:Tryz.prog.funcNamed "motley/motleylaw07.SyntaxWithin"=some 9:=by kernel_rfl
theorem R6:true=Tryz.prog.looks []:=by kernel_rfl
theorem RM:([22,46,46].all fun u=>!Tryz.prog.wantsStandIn u)=true:=by kernel_rfl
theorem Rd:false=Rows.syntaxWithinUptoRow.goesBy Tryz.prog:=by kernel_rfl
theorem RK:Tryz.f9.isInstance Tryz.prog Rows.syntaxWithinUptoRow.origin Rows.syntaxWithinUptoRow.targs:=TG (by kernel_rfl)
end Go.Proofs.YtfaclfkpnmcmlaaGreatDoor
