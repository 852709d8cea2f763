import Derived.Test.YtfaclfkpnmcmlaaGreatDoorS00
import Derived.Deep.DeepHandedRow
import Derived.ProofKit
import Derived.SevenTiedAt
import Derived.Test.YtfaclfkpnmcmlaaGreatDoorRows
set_option maxHeartbeats 8000000
set_option linter.all false
namespace Go.Proofs.YtfaclfkpnmcmlaaGreatDoor
open Go
theorem R5:(Rows.syntaxProjectsUptoRow.wf (OpenSpec.ofChange (OpenSpec.bare (Rows.OpenSpec.upto Rows.syntaxProjectsSpec))))=true:=by kernel_rfl
theorem Rv:(namedTie Tryz.prog Rows.syntaxProjectsUptoRow.named (OpenSpec.bare (Rows.OpenSpec.upto Rows.syntaxProjectsSpec)).vars)=true:=by kernel_rfl
theorem RT:((Tryz.prog.stopKnobs == []))=true:=by kernel_rfl
theorem Qv:((Rows.syntaxProjectsUptoRow.named == Tryz.prog.varsNamed 7))=true:=by kernel_rfl
theorem QA:((Rows.syntaxProjectsUptoRow.loops == (Tryz.f7.params.toList++(OpenSpec.bare (Rows.OpenSpec.upto Rows.syntaxProjectsSpec)).plain.varTypes Tryz.prog).any (Tryz.prog.loopsFrom ·)))=true:=by kernel_rfl
theorem QB:((Rows.syntaxProjectsUptoRow.ifacesOut == Tryz.f7.resultTypes.toList.any (Tryz.prog.ifacesRec ·)))=true:=by kernel_rfl
theorem Qt:(Tryz.prog.stopsHeard)=true:=by kernel_rfl
theorem Pz:((Rows.syntaxProjectsUptoRow.kinds == (if Rows.syntaxProjectsUptoRow.domain.isEmpty then []else Tryz.f7.params.toList.map fun t=>match Tryz.prog.underlying t with|some (.int k)=>some k|_=>none)))=true:=by kernel_rfl
theorem Ry:Rows.syntaxProjectsUptoRow.wfByText (Rows.OpenSpec.upto Rows.syntaxProjectsSpec)=true:=by kernel_rfl
theorem RQ:Tryz.prog.mainIs=some (true,("fb6f3cea10b2bce7ccd9e68c58951443a6981fe33c0f78952a9ec7f837153f3e":String).toList):=by kernel_rfl
theorem QY:Tryz.prog.funcNamed "motley/motleylaw07.SyntaxProjects"=some 7:=by kernel_rfl
theorem R6:true=Tryz.prog.looks []:=by kernel_rfl
theorem RM:([22,46,23].all fun u=>!Tryz.prog.wantsStandIn u)=true:=by kernel_rfl
theorem Rd:false=Rows.syntaxProjectsUptoRow.goesBy Tryz.prog:=by kernel_rfl
theorem RK:Tryz.f7.isInstance Tryz.prog Rows.syntaxProjectsUptoRow.origin Rows.syntaxProjectsUptoRow.targs:=TG (by kernel_rfl)
end Go.Proofs.YtfaclfkpnmcmlaaGreatDoor
