import Derived.Test.YtfaclfkpnmcmlaaGreatDoorE00
import Derived.Deep.DeepHandedRow
import Derived.ProofKit
import Derived.SevenTiedAt
import Derived.Test.YtfaclfkpnmcmlaaGreatDoorRows
set_option maxHeartbeats 8000000
set_option linter.all false
namespace Go.Proofs.YtfaclfkpnmcmlaaGreatDoor
open Go
theorem ZA:(laidOutB Tryz.prog)=true:=by kernel_rfl
theorem Zu:((Rows.syntaxExpressionRow.stops == []))=true:=by kernel_rfl
theorem Y5:((Rows.syntaxExpressionRow.inPlace == Tryz.prog.inPlace 6))=true:=by kernel_rfl
theorem Yd:((Rows.syntaxExpressionRow.maps == (Tryz.f6.params.toList++(OpenSpec.bare (OpenSpec.ofChange Rows.syntaxExpressionSpec)).plain.varTypes Tryz.prog).any (Tryz.prog.mapsRec ·)))=true:=by kernel_rfl
theorem X2:((Rows.syntaxExpressionRow.wideKeys == (Tryz.f6.params.toList++(OpenSpec.bare (OpenSpec.ofChange Rows.syntaxExpressionSpec)).plain.varTypes Tryz.prog++Tryz.f6.resultTypes.toList).any (Tryz.prog.wideKeysFrom ·)))=true:=by kernel_rfl
theorem Xu:((Rows.syntaxExpressionRow.loopsOut == Tryz.f6.resultTypes.toList.any (Tryz.prog.loopsFrom ·)))=true:=by kernel_rfl
theorem Xq:(Tryz.prog.mayEnter)=true:=by kernel_rfl
theorem X9:((Rows.syntaxExpressionRow.pinned == Rows.syntaxExpressionRow.pinnedBy))=true:=by kernel_rfl
end Go.Proofs.YtfaclfkpnmcmlaaGreatDoor
