import Derived.Test.YtfaclfkpnmcmlaaGreatDoorT00
import Derived.Deep.DeepHandedRow
import Derived.ProofKit
import Derived.SevenTiedAt
import Derived.Test.YtfaclfkpnmcmlaaGreatDoorRows
set_option maxHeartbeats 8000000
set_option linter.all false
open Go.Proofs.Tryz
namespace Go.Proofs.YtfaclfkpnmcmlaaGreatDoor
open Go
theorem ZA:(laidOutB prog)=true:=by kernel_rfl
theorem Zu:((Rows.syntaxPlainUptoRow.stops == []))=true:=by kernel_rfl
theorem Y5:((Rows.syntaxPlainUptoRow.inPlace == prog.inPlace 3))=true:=by kernel_rfl
theorem Yd:((Rows.syntaxPlainUptoRow.maps == (f3.params.toList++(OpenSpec.bare (Rows.OpenSpec.upto Rows.syntaxPlainSpec)).plain.varTypes prog).any (prog.mapsRec ·)))=true:=by kernel_rfl
theorem X2:((Rows.syntaxPlainUptoRow.wideKeys == (f3.params.toList++(OpenSpec.bare (Rows.OpenSpec.upto Rows.syntaxPlainSpec)).plain.varTypes prog++f3.resultTypes.toList).any (prog.wideKeysFrom ·)))=true:=by kernel_rfl
theorem Xu:((Rows.syntaxPlainUptoRow.loopsOut == f3.resultTypes.toList.any (prog.loopsFrom ·)))=true:=by kernel_rfl
theorem Xq:(prog.mayEnter)=true:=by kernel_rfl
theorem X9:((Rows.syntaxPlainUptoRow.pinned == Rows.syntaxPlainUptoRow.pinnedBy))=true:=by kernel_rfl
end Go.Proofs.YtfaclfkpnmcmlaaGreatDoor
