import Derived.Test.YtfaclfkpnmcmlaaGreatDoorT00
import Derived.Deep.DeepHandedRow
import Derived.ProofKit
import Derived.SevenTiedAt
import Derived.Test.YtfaclfkpnmcmlaaGreatDoorRows
set_option maxHeartbeats 8000000
set_option linter.all false
open Go.Proofs.Tryz
namespace Go.Proofs.YtfaclfkpnmcmlaaGreatDoor
open Go
theorem ZQ:(Rows.syntaxPlainUptoRow.wf (OpenSpec.ofChange (OpenSpec.bare (Rows.OpenSpec.upto Rows.syntaxPlainSpec))))=true:=by kernel_rfl
theorem ZL:(namedTie prog Rows.syntaxPlainUptoRow.named (OpenSpec.bare (Rows.OpenSpec.upto Rows.syntaxPlainSpec)).vars)=true:=by kernel_rfl
theorem ZN:((prog.stopKnobs == []))=true:=by kernel_rfl
theorem Xh:((Rows.syntaxPlainUptoRow.named == prog.varsNamed 3))=true:=by kernel_rfl
theorem XI:((Rows.syntaxPlainUptoRow.loops == (f3.params.toList++(OpenSpec.bare (Rows.OpenSpec.upto Rows.syntaxPlainSpec)).plain.varTypes prog).any (prog.loopsFrom ·)))=true:=by kernel_rfl
theorem X6:((Rows.syntaxPlainUptoRow.ifacesOut == f3.resultTypes.toList.any (prog.ifacesRec ·)))=true:=by kernel_rfl
theorem Xj:(prog.stopsHeard)=true:=by kernel_rfl
theorem X0:((Rows.syntaxPlainUptoRow.kinds == (if Rows.syntaxPlainUptoRow.domain.isEmpty then []else f3.params.toList.map fun t=>match prog.underlying t with|some (.int k)=>some k|_=>none)))=true:=by kernel_rfl
theorem Za:Rows.syntaxPlainUptoRow.wfByText (Rows.OpenSpec.upto Rows.syntaxPlainSpec)=true:=by kernel_rfl
theorem Y7:prog.mainIs=some (true,("fb6f3cea10b2bce7ccd9e68c58951443a6981fe33c0f78952a9ec7f837153f3e":String).toList):=by kernel_rfl
theorem YL:prog.funcNamed "motley/motleylaw07.SyntaxPlain"=some 3:=by kernel_rfl
theorem Y3:true=prog.looks []:=by kernel_rfl
theorem Ze:([22,23].all fun u=>!prog.wantsStandIn u)=true:=by kernel_rfl
theorem Zb:false=Rows.syntaxPlainUptoRow.goesBy prog:=by kernel_rfl
def ZF:f3.isInstance prog Rows.syntaxPlainUptoRow.origin Rows.syntaxPlainUptoRow.targs:=abl (by kernel_rfl)
end Go.Proofs.YtfaclfkpnmcmlaaGreatDoor
