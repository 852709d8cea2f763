import Derived.Test.YtfaclfkpnmcmlaaGreatDoorE00
import Derived.Deep.DeepHandedRow
import Derived.ProofKit
import Derived.SevenTiedAt
import Derived.Test.YtfaclfkpnmcmlaaGreatDoorRows
set_option maxHeartbeats 8000000
set_option linter.all false
namespace Go.Proofs.YtfaclfkpnmcmlaaGreatDoor
open Go
theorem Zn:(Tryz.f6.params.all (Tryz.prog.readableRec ·))=true:=by kernel_rfl
theorem Zo:((Rows.syntaxExpressionRow.knobs == []))=true:=by kernel_rfl
theorem Yj:((Rows.syntaxExpressionRow.recurses == Tryz.prog.recurses 6))=true:=by kernel_rfl
theorem X4:((Rows.syntaxExpressionRow.mapsOut == Tryz.prog.mapsAmong Tryz.f6.resultTypes.toList))=true:=by kernel_rfl
theorem Xg:(Tryz.f6.resultTypes.all (fun t=>Tryz.prog.readableRec t && decide (t<Tryz.prog.types.size)))=true:=by kernel_rfl
theorem XS:(Rows.syntaxExpressionRow.shortTexts.isNone)=true:=by kernel_rfl
theorem Yi:((Tryz.prog.make == some Rows.syntaxExpressionRow.make))=true:=by kernel_rfl
theorem XD:(Rows.syntaxExpressionRow.veiledFits Tryz.prog Tryz.f6.params.toList (Tryz.f6.params.toList++(OpenSpec.bare (OpenSpec.ofChange Rows.syntaxExpressionSpec)).plain.varTypes Tryz.prog++Tryz.f6.resultTypes.toList))=true:=by kernel_rfl
end Go.Proofs.YtfaclfkpnmcmlaaGreatDoor
