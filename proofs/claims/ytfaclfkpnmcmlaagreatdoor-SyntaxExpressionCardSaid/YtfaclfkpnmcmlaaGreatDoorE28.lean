import Derived.Test.YtfaclfkpnmcmlaaGreatDoorE00
import Derived.Deep.DeepHandedRow
import Derived.ProofKit
import Derived.SevenTiedAt
import Derived.Test.YtfaclfkpnmcmlaaGreatDoorRows
set_option maxHeartbeats 8000000
set_option linter.all false
namespace Go.Proofs.YtfaclfkpnmcmlaaGreatDoor
open Go
theorem ZQ:(Rows.syntaxExpressionRow.wf (OpenSpec.ofChange (OpenSpec.bare (OpenSpec.ofChange Rows.syntaxExpressionSpec))))=true:=by kernel_rfl
theorem ZL:(namedTie Tryz.prog Rows.syntaxExpressionRow.named (OpenSpec.bare (OpenSpec.ofChange Rows.syntaxExpressionSpec)).vars)=true:=by kernel_rfl
theorem ZN:((Tryz.prog.stopKnobs == []))=true:=by kernel_rfl
theorem Xh:((Rows.syntaxExpressionRow.named == Tryz.prog.varsNamed 6))=true:=by kernel_rfl
theorem XI:((Rows.syntaxExpressionRow.loops == (Tryz.f6.params.toList++(OpenSpec.bare (OpenSpec.ofChange Rows.syntaxExpressionSpec)).plain.varTypes Tryz.prog).any (Tryz.prog.loopsFrom ·)))=true:=by kernel_rfl
theorem X6:((Rows.syntaxExpressionRow.ifacesOut == Tryz.f6.resultTypes.toList.any (Tryz.prog.ifacesRec ·)))=true:=by kernel_rfl
theorem Xj:(Tryz.prog.stopsHeard)=true:=by kernel_rfl
theorem X0:((Rows.syntaxExpressionRow.kinds == (if Rows.syntaxExpressionRow.domain.isEmpty then []else Tryz.f6.params.toList.map fun t=>match Tryz.prog.underlying t with|some (.int k)=>some k|_=>none)))=true:=by kernel_rfl
theorem Za:Rows.syntaxExpressionRow.wfByText (OpenSpec.ofChange Rows.syntaxExpressionSpec)=true:=by kernel_rfl
theorem Y7:Tryz.prog.mainIs=some (true,("fb6f3cea10b2bce7ccd9e68c58951443a6981fe33c0f78952a9ec7f837153f3e":String).toList):=by kernel_rfl
theorem YL:Tryz.prog.funcNamed "motley/motleylaw07.SyntaxExpression"=some 6:=by kernel_rfl
theorem Y3:true=Tryz.prog.looks []:=by kernel_rfl
theorem Ze:([9].all fun u=>!Tryz.prog.wantsStandIn u)=true:=by kernel_rfl
theorem Zb:false=Rows.syntaxExpressionRow.goesBy Tryz.prog:=by kernel_rfl
def ZF:Tryz.f6.isInstance Tryz.prog Rows.syntaxExpressionRow.origin Rows.syntaxExpressionRow.targs:=abl (by kernel_rfl)
end Go.Proofs.YtfaclfkpnmcmlaaGreatDoor
