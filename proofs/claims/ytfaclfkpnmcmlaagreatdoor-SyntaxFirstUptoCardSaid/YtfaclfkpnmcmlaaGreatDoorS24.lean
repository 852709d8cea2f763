import Derived.Test.YtfaclfkpnmcmlaaGreatDoorS00
import Derived.Deep.DeepHandedRow
import Derived.ProofKit
import Derived.SevenTiedAt
import Derived.Test.YtfaclfkpnmcmlaaGreatDoorRows
set_option maxHeartbeats 8000000
set_option linter.all false
namespace Go.Proofs.YtfaclfkpnmcmlaaGreatDoor
open Go
theorem RS:(laidOutB Tryz.prog)=true:=by kernel_rfl
theorem R2:((Rows.syntaxFirstUptoRow.stops == []))=true:=by kernel_rfl
theorem RP:((Rows.syntaxFirstUptoRow.inPlace == Tryz.prog.inPlace 8))=true:=by kernel_rfl
theorem P4:((Rows.syntaxFirstUptoRow.maps == (Tryz.f8.params.toList++(OpenSpec.bare (Rows.OpenSpec.upto Rows.syntaxFirstSpec)).plain.varTypes Tryz.prog).any (Tryz.prog.mapsRec ·)))=true:=by kernel_rfl
theorem QM:((Rows.syntaxFirstUptoRow.wideKeys == (Tryz.f8.params.toList++(OpenSpec.bare (Rows.OpenSpec.upto Rows.syntaxFirstSpec)).plain.varTypes Tryz.prog++Tryz.f8.resultTypes.toList).any (Tryz.prog.wideKeysFrom ·)))=true:=by kernel_rfl
theorem P0:((Rows.syntaxFirstUptoRow.loopsOut == Tryz.f8.resultTypes.toList.any (Tryz.prog.loopsFrom ·)))=true:=by kernel_rfl
theorem Qf:(Tryz.prog.mayEnter)=true:=by kernel_rfl
theorem QE:((Rows.syntaxFirstUptoRow.pinned == Rows.syntaxFirstUptoRow.pinnedBy))=true:=by kernel_rfl
end Go.Proofs.YtfaclfkpnmcmlaaGreatDoor
