import Derived.Test.YtfaclfkpnmcmlaaGreatDoorW02
import Derived.Test.YtfaclfkpnmcmlaaGreatDoorProg
import Derived.KernelRfl
import Derived.DeepKeys4
set_option maxHeartbeats 20000000
set_option linter.all false
section
namespace Go.Proofs.YtfaclfkpnmcmlaaGreatDoor
open Go Go.Sx
theorem ag3 : Sx.aggOf Tryz.prog 3 = some none := by kernel_rfl
theorem sz3 : Sx.szOf Tryz.prog 3 = some 1 := by kernel_rfl
theorem ze3 : Sx.zeroOf Tryz.prog 3 = some (.int .i64 0) := by kernel_rfl
theorem el3 : Sx.elOf Tryz.prog 3 = .none := by kernel_rfl
theorem ki3 : Sx.kindOf Tryz.prog 3 = .int .i64 := by kernel_rfl
theorem hu3 : Sx.hasU Tryz.prog 3 = true := by kernel_rfl
theorem ag4 : Sx.aggOf Tryz.prog 4 = some none := by kernel_rfl
theorem sz4 : Sx.szOf Tryz.prog 4 = some 1 := by kernel_rfl
theorem ze4 : Sx.zeroOf Tryz.prog 4 = some (.bool false) := by kernel_rfl
theorem el4 : Sx.elOf Tryz.prog 4 = .none := by kernel_rfl
theorem ki4 : Sx.kindOf Tryz.prog 4 = .other := by kernel_rfl
theorem hu4 : Sx.hasU Tryz.prog 4 = true := by kernel_rfl
theorem ag5 : Sx.aggOf Tryz.prog 5 = some none := by kernel_rfl
theorem sz5 : Sx.szOf Tryz.prog 5 = some 1 := by kernel_rfl
theorem ze5 : Sx.zeroOf Tryz.prog 5 = some (.int .u8 0) := by kernel_rfl
theorem el5 : Sx.elOf Tryz.prog 5 = .none := by kernel_rfl
theorem ki5 : Sx.kindOf Tryz.prog 5 = .int .u8 := by kernel_rfl
theorem hu5 : Sx.hasU Tryz.prog 5 = true := by kernel_rfl
theorem ag9 : Sx.aggOf Tryz.prog 9 = some none := by kernel_rfl
theorem sz9 : Sx.szOf Tryz.prog 9 = some 1 := by kernel_rfl
theorem ze9 : Sx.zeroOf Tryz.prog 9 = some (.string ⟨#[]⟩) := by kernel_rfl
theorem el9 : Sx.elOf Tryz.prog 9 = .none := by kernel_rfl
theorem ki9 : Sx.kindOf Tryz.prog 9 = .str := by kernel_rfl
theorem hu9 : Sx.hasU Tryz.prog 9 = true := by kernel_rfl
theorem ag22 : Sx.aggOf Tryz.prog 22 = some none := by kernel_rfl
theorem sz22 : Sx.szOf Tryz.prog 22 = some 1 := by kernel_rfl
theorem ze22 : Sx.zeroOf Tryz.prog 22 = some (.slice none 0 0) := by kernel_rfl
theorem el22 : Sx.elOf Tryz.prog 22 = .sl 3 := by kernel_rfl
theorem ki22 : Sx.kindOf Tryz.prog 22 = .sl := by kernel_rfl
theorem hu22 : Sx.hasU Tryz.prog 22 = true := by kernel_rfl
theorem ag23 : Sx.aggOf Tryz.prog 23 = some none := by kernel_rfl
theorem sz23 : Sx.szOf Tryz.prog 23 = some 1 := by kernel_rfl
theorem ze23 : Sx.zeroOf Tryz.prog 23 = some (.int .u32 0) := by kernel_rfl
theorem el23 : Sx.elOf Tryz.prog 23 = .none := by kernel_rfl
theorem ki23 : Sx.kindOf Tryz.prog 23 = .int .u32 := by kernel_rfl
theorem hu23 : Sx.hasU Tryz.prog 23 = true := by kernel_rfl
theorem ag24 : Sx.aggOf Tryz.prog 24 = some none := by kernel_rfl
theorem sz24 : Sx.szOf Tryz.prog 24 = some 1 := by kernel_rfl
theorem ze24 : Sx.zeroOf Tryz.prog 24 = some (.slice none 0 0) := by kernel_rfl
theorem el24 : Sx.elOf Tryz.prog 24 = .sl 7 := by kernel_rfl
theorem ki24 : Sx.kindOf Tryz.prog 24 = .sl := by kernel_rfl
theorem hu24 : Sx.hasU Tryz.prog 24 = true := by kernel_rfl
theorem ag27 : Sx.aggOf Tryz.prog 27 = some (some 2) := by kernel_rfl
theorem sz27 : Sx.szOf Tryz.prog 27 = some 2 := by kernel_rfl
theorem ze27 : Sx.zeroOf Tryz.prog 27 = some (.agg #[.slice none 0 0, .slice none 0 0]) := by kernel_rfl
theorem fo27_0 : Sx.fieldOf Tryz.prog 27 0 = some (0, 24) := by kernel_rfl
theorem fo27_1 : Sx.fieldOf Tryz.prog 27 1 = some (1, 25) := by kernel_rfl
theorem is27 : Sx.isSt Tryz.prog 27 = true := by kernel_rfl
theorem el27 : Sx.elOf Tryz.prog 27 = .none := by kernel_rfl
theorem ki27 : Sx.kindOf Tryz.prog 27 = .other := by kernel_rfl
theorem hu27 : Sx.hasU Tryz.prog 27 = true := by kernel_rfl
theorem ag28 : Sx.aggOf Tryz.prog 28 = some none := by kernel_rfl
theorem sz28 : Sx.szOf Tryz.prog 28 = some 1 := by kernel_rfl
theorem ze28 : Sx.zeroOf Tryz.prog 28 = some (.slice none 0 0) := by kernel_rfl
theorem el28 : Sx.elOf Tryz.prog 28 = .sl 6 := by kernel_rfl
theorem ki28 : Sx.kindOf Tryz.prog 28 = .sl := by kernel_rfl
theorem hu28 : Sx.hasU Tryz.prog 28 = true := by kernel_rfl
theorem ag33 : Sx.aggOf Tryz.prog 33 = some none := by kernel_rfl
theorem sz33 : Sx.szOf Tryz.prog 33 = some 1 := by kernel_rfl
theorem ze33 : Sx.zeroOf Tryz.prog 33 = some (.slice none 0 0) := by kernel_rfl
theorem el33 : Sx.elOf Tryz.prog 33 = .sl 7 := by kernel_rfl
theorem ki33 : Sx.kindOf Tryz.prog 33 = .sl := by kernel_rfl
theorem hu33 : Sx.hasU Tryz.prog 33 = true := by kernel_rfl
theorem ag34 : Sx.aggOf Tryz.prog 34 = some none := by kernel_rfl
theorem sz34 : Sx.szOf Tryz.prog 34 = some 1 := by kernel_rfl
theorem ze34 : Sx.zeroOf Tryz.prog 34 = some (.slice none 0 0) := by kernel_rfl
theorem el34 : Sx.elOf Tryz.prog 34 = .sl 4 := by kernel_rfl
theorem ki34 : Sx.kindOf Tryz.prog 34 = .sl := by kernel_rfl
theorem hu34 : Sx.hasU Tryz.prog 34 = true := by kernel_rfl
theorem ag36 : Sx.aggOf Tryz.prog 36 = some (some 2) := by kernel_rfl
theorem sz36 : Sx.szOf Tryz.prog 36 = some 2 := by kernel_rfl
theorem ze36 : Sx.zeroOf Tryz.prog 36 = some (.agg #[.slice none 0 0, .slice none 0 0]) := by kernel_rfl
theorem fo36_0 : Sx.fieldOf Tryz.prog 36 0 = some (0, 33) := by kernel_rfl
theorem fo36_1 : Sx.fieldOf Tryz.prog 36 1 = some (1, 34) := by kernel_rfl
theorem is36 : Sx.isSt Tryz.prog 36 = true := by kernel_rfl
theorem el36 : Sx.elOf Tryz.prog 36 = .none := by kernel_rfl
theorem ki36 : Sx.kindOf Tryz.prog 36 = .other := by kernel_rfl
theorem hu36 : Sx.hasU Tryz.prog 36 = true := by kernel_rfl
theorem ag38 : Sx.aggOf Tryz.prog 38 = some none := by kernel_rfl
theorem sz38 : Sx.szOf Tryz.prog 38 = some 1 := by kernel_rfl
theorem ze38 : Sx.zeroOf Tryz.prog 38 = some (.slice none 0 0) := by kernel_rfl
theorem el38 : Sx.elOf Tryz.prog 38 = .sl 6 := by kernel_rfl
theorem ki38 : Sx.kindOf Tryz.prog 38 = .sl := by kernel_rfl
theorem hu38 : Sx.hasU Tryz.prog 38 = true := by kernel_rfl
theorem ag39 : Sx.aggOf Tryz.prog 39 = some none := by kernel_rfl
theorem sz39 : Sx.szOf Tryz.prog 39 = some 1 := by kernel_rfl
theorem ze39 : Sx.zeroOf Tryz.prog 39 = some (.slice none 0 0) := by kernel_rfl
theorem el39 : Sx.elOf Tryz.prog 39 = .sl 3 := by kernel_rfl
theorem ki39 : Sx.kindOf Tryz.prog 39 = .sl := by kernel_rfl
theorem hu39 : Sx.hasU Tryz.prog 39 = true := by kernel_rfl
theorem ag41 : Sx.aggOf Tryz.prog 41 = some (some 2) := by kernel_rfl
theorem sz41 : Sx.szOf Tryz.prog 41 = some 2 := by kernel_rfl
theorem ze41 : Sx.zeroOf Tryz.prog 41 = some (.agg #[.slice none 0 0, .slice none 0 0]) := by kernel_rfl
theorem fo41_0 : Sx.fieldOf Tryz.prog 41 0 = some (0, 38) := by kernel_rfl
theorem fo41_1 : Sx.fieldOf Tryz.prog 41 1 = some (1, 39) := by kernel_rfl
theorem is41 : Sx.isSt Tryz.prog 41 = true := by kernel_rfl
theorem el41 : Sx.elOf Tryz.prog 41 = .none := by kernel_rfl
theorem ki41 : Sx.kindOf Tryz.prog 41 = .other := by kernel_rfl
theorem hu41 : Sx.hasU Tryz.prog 41 = true := by kernel_rfl
theorem ag43 : Sx.aggOf Tryz.prog 43 = some none := by kernel_rfl
theorem sz43 : Sx.szOf Tryz.prog 43 = some 1 := by kernel_rfl
theorem ze43 : Sx.zeroOf Tryz.prog 43 = some (.slice none 0 0) := by kernel_rfl
theorem el43 : Sx.elOf Tryz.prog 43 = .sl 1 := by kernel_rfl
theorem ki43 : Sx.kindOf Tryz.prog 43 = .sl := by kernel_rfl
theorem hu43 : Sx.hasU Tryz.prog 43 = true := by kernel_rfl
theorem ag46 : Sx.aggOf Tryz.prog 46 = some none := by kernel_rfl
theorem sz46 : Sx.szOf Tryz.prog 46 = some 1 := by kernel_rfl
theorem ze46 : Sx.zeroOf Tryz.prog 46 = some (.slice none 0 0) := by kernel_rfl
theorem el46 : Sx.elOf Tryz.prog 46 = .sl 2 := by kernel_rfl
theorem ki46 : Sx.kindOf Tryz.prog 46 = .sl := by kernel_rfl
theorem hu46 : Sx.hasU Tryz.prog 46 = true := by kernel_rfl
theorem ag48 : Sx.aggOf Tryz.prog 48 = some none := by kernel_rfl
theorem sz48 : Sx.szOf Tryz.prog 48 = some 1 := by kernel_rfl
theorem ze48 : Sx.zeroOf Tryz.prog 48 = some (.slice none 0 0) := by kernel_rfl
theorem el48 : Sx.elOf Tryz.prog 48 = .sl 3 := by kernel_rfl
theorem ki48 : Sx.kindOf Tryz.prog 48 = .sl := by kernel_rfl
theorem hu48 : Sx.hasU Tryz.prog 48 = true := by kernel_rfl
theorem ag50 : Sx.aggOf Tryz.prog 50 = some (some 2) := by kernel_rfl
theorem sz50 : Sx.szOf Tryz.prog 50 = some 2 := by kernel_rfl
theorem ze50 : Sx.zeroOf Tryz.prog 50 = some (.agg #[.slice none 0 0, .int .i64 0]) := by kernel_rfl
theorem fo50_0 : Sx.fieldOf Tryz.prog 50 0 = some (0, 48) := by kernel_rfl
theorem fo50_1 : Sx.fieldOf Tryz.prog 50 1 = some (1, 3) := by kernel_rfl
theorem is50 : Sx.isSt Tryz.prog 50 = true := by kernel_rfl
theorem el50 : Sx.elOf Tryz.prog 50 = .none := by kernel_rfl
theorem ki50 : Sx.kindOf Tryz.prog 50 = .other := by kernel_rfl
theorem hu50 : Sx.hasU Tryz.prog 50 = true := by kernel_rfl
theorem ag60 : Sx.aggOf Tryz.prog 60 = some (some 7) := by kernel_rfl
theorem sz60 : Sx.szOf Tryz.prog 60 = some 7 := by kernel_rfl
theorem ze60 : Sx.zeroOf Tryz.prog 60 = some (.agg #[.int .u8 0, .string ⟨#[]⟩, .int .i64 0, .int .i64 0, .slice none 0 0, .slice none 0 0, .int .i64 0]) := by kernel_rfl
theorem fo60_0 : Sx.fieldOf Tryz.prog 60 0 = some (0, 5) := by kernel_rfl
theorem fo60_1 : Sx.fieldOf Tryz.prog 60 1 = some (1, 9) := by kernel_rfl
theorem fo60_2 : Sx.fieldOf Tryz.prog 60 2 = some (2, 3) := by kernel_rfl
theorem fo60_3 : Sx.fieldOf Tryz.prog 60 3 = some (3, 3) := by kernel_rfl
theorem fo60_4 : Sx.fieldOf Tryz.prog 60 4 = some (4, 33) := by kernel_rfl
theorem fo60_5 : Sx.fieldOf Tryz.prog 60 5 = some (5, 50) := by kernel_rfl
theorem is60 : Sx.isSt Tryz.prog 60 = true := by kernel_rfl
theorem el60 : Sx.elOf Tryz.prog 60 = .none := by kernel_rfl
theorem ki60 : Sx.kindOf Tryz.prog 60 = .other := by kernel_rfl
theorem hu60 : Sx.hasU Tryz.prog 60 = true := by kernel_rfl
theorem ag61 : Sx.aggOf Tryz.prog 61 = some none := by kernel_rfl
theorem sz61 : Sx.szOf Tryz.prog 61 = some 1 := by kernel_rfl
theorem ze61 : Sx.zeroOf Tryz.prog 61 = some (.int .i64 0) := by kernel_rfl
theorem el61 : Sx.elOf Tryz.prog 61 = .none := by kernel_rfl
theorem ki61 : Sx.kindOf Tryz.prog 61 = .int .i64 := by kernel_rfl
theorem hu61 : Sx.hasU Tryz.prog 61 = true := by kernel_rfl
theorem ag67 : Sx.aggOf Tryz.prog 67 = some (some 6) := by kernel_rfl
theorem sz67 : Sx.szOf Tryz.prog 67 = some 6 := by kernel_rfl
theorem ze67 : Sx.zeroOf Tryz.prog 67 = some (.agg #[.int .u8 0, .string ⟨#[]⟩, .int .i64 0, .int .i64 0, .slice none 0 0, .slice none 0 0]) := by kernel_rfl
theorem fo67_0 : Sx.fieldOf Tryz.prog 67 0 = some (0, 5) := by kernel_rfl
theorem fo67_1 : Sx.fieldOf Tryz.prog 67 1 = some (1, 9) := by kernel_rfl
theorem fo67_2 : Sx.fieldOf Tryz.prog 67 2 = some (2, 3) := by kernel_rfl
theorem fo67_3 : Sx.fieldOf Tryz.prog 67 3 = some (3, 3) := by kernel_rfl
theorem fo67_4 : Sx.fieldOf Tryz.prog 67 4 = some (4, 38) := by kernel_rfl
theorem fo67_5 : Sx.fieldOf Tryz.prog 67 5 = some (5, 43) := by kernel_rfl
theorem is67 : Sx.isSt Tryz.prog 67 = true := by kernel_rfl
theorem el67 : Sx.elOf Tryz.prog 67 = .none := by kernel_rfl
theorem ki67 : Sx.kindOf Tryz.prog 67 = .other := by kernel_rfl
theorem hu67 : Sx.hasU Tryz.prog 67 = true := by kernel_rfl
theorem ag78 : Sx.aggOf Tryz.prog 78 = some none := by kernel_rfl
theorem sz78 : Sx.szOf Tryz.prog 78 = some 1 := by kernel_rfl
theorem ze78 : Sx.zeroOf Tryz.prog 78 = some (.int .u8 0) := by kernel_rfl
theorem el78 : Sx.elOf Tryz.prog 78 = .none := by kernel_rfl
theorem ki78 : Sx.kindOf Tryz.prog 78 = .int .u8 := by kernel_rfl
theorem hu78 : Sx.hasU Tryz.prog 78 = true := by kernel_rfl
theorem ag80 : Sx.aggOf Tryz.prog 80 = some (some 4) := by kernel_rfl
theorem sz80 : Sx.szOf Tryz.prog 80 = some 4 := by kernel_rfl
theorem ze80 : Sx.zeroOf Tryz.prog 80 = some (.agg #[.int .u8 0, .int .i64 0, .slice none 0 0, .int .i64 0]) := by kernel_rfl
theorem fo80_0 : Sx.fieldOf Tryz.prog 80 0 = some (0, 78) := by kernel_rfl
theorem fo80_1 : Sx.fieldOf Tryz.prog 80 1 = some (1, 3) := by kernel_rfl
theorem fo80_2 : Sx.fieldOf Tryz.prog 80 2 = some (2, 50) := by kernel_rfl
theorem is80 : Sx.isSt Tryz.prog 80 = true := by kernel_rfl
theorem el80 : Sx.elOf Tryz.prog 80 = .none := by kernel_rfl
theorem ki80 : Sx.kindOf Tryz.prog 80 = .other := by kernel_rfl
theorem hu80 : Sx.hasU Tryz.prog 80 = true := by kernel_rfl
theorem ag81 : Sx.aggOf Tryz.prog 81 = some none := by kernel_rfl
theorem sz81 : Sx.szOf Tryz.prog 81 = some 1 := by kernel_rfl
theorem ze81 : Sx.zeroOf Tryz.prog 81 = some (.slice none 0 0) := by kernel_rfl
theorem el81 : Sx.elOf Tryz.prog 81 = .sl 1 := by kernel_rfl
theorem ki81 : Sx.kindOf Tryz.prog 81 = .sl := by kernel_rfl
theorem hu81 : Sx.hasU Tryz.prog 81 = true := by kernel_rfl
theorem ag83 : Sx.aggOf Tryz.prog 83 = some (some 7) := by kernel_rfl
theorem sz83 : Sx.szOf Tryz.prog 83 = some 7 := by kernel_rfl
theorem ze83 : Sx.zeroOf Tryz.prog 83 = some (.agg #[.int .u8 0, .string ⟨#[]⟩, .slice none 0 0, .int .i64 0, .int .i64 0, .slice none 0 0, .int .i64 0]) := by kernel_rfl
theorem fo83_0 : Sx.fieldOf Tryz.prog 83 0 = some (0, 5) := by kernel_rfl
theorem fo83_1 : Sx.fieldOf Tryz.prog 83 1 = some (1, 9) := by kernel_rfl
theorem fo83_2 : Sx.fieldOf Tryz.prog 83 2 = some (2, 81) := by kernel_rfl
theorem fo83_3 : Sx.fieldOf Tryz.prog 83 3 = some (3, 3) := by kernel_rfl
theorem fo83_4 : Sx.fieldOf Tryz.prog 83 4 = some (4, 3) := by kernel_rfl
theorem fo83_5 : Sx.fieldOf Tryz.prog 83 5 = some (5, 50) := by kernel_rfl
theorem is83 : Sx.isSt Tryz.prog 83 = true := by kernel_rfl
theorem el83 : Sx.elOf Tryz.prog 83 = .none := by kernel_rfl
theorem ki83 : Sx.kindOf Tryz.prog 83 = .other := by kernel_rfl
theorem hu83 : Sx.hasU Tryz.prog 83 = true := by kernel_rfl
theorem ag88 : Sx.aggOf Tryz.prog 88 = some none := by kernel_rfl
theorem sz88 : Sx.szOf Tryz.prog 88 = some 1 := by kernel_rfl
theorem ze88 : Sx.zeroOf Tryz.prog 88 = some (.slice none 0 0) := by kernel_rfl
theorem el88 : Sx.elOf Tryz.prog 88 = .sl 2 := by kernel_rfl
theorem ki88 : Sx.kindOf Tryz.prog 88 = .sl := by kernel_rfl
theorem hu88 : Sx.hasU Tryz.prog 88 = true := by kernel_rfl
theorem ag91 : Sx.aggOf Tryz.prog 91 = some none := by kernel_rfl
theorem sz91 : Sx.szOf Tryz.prog 91 = some 1 := by kernel_rfl
theorem ze91 : Sx.zeroOf Tryz.prog 91 = some (.slice none 0 0) := by kernel_rfl
theorem el91 : Sx.elOf Tryz.prog 91 = .sl 6 := by kernel_rfl
theorem ki91 : Sx.kindOf Tryz.prog 91 = .sl := by kernel_rfl
theorem hu91 : Sx.hasU Tryz.prog 91 = true := by kernel_rfl
theorem ag92 : Sx.aggOf Tryz.prog 92 = some none := by kernel_rfl
theorem sz92 : Sx.szOf Tryz.prog 92 = some 1 := by kernel_rfl
theorem ze92 : Sx.zeroOf Tryz.prog 92 = some (.slice none 0 0) := by kernel_rfl
theorem el92 : Sx.elOf Tryz.prog 92 = .sl 3 := by kernel_rfl
theorem ki92 : Sx.kindOf Tryz.prog 92 = .sl := by kernel_rfl
theorem hu92 : Sx.hasU Tryz.prog 92 = true := by kernel_rfl
theorem ag94 : Sx.aggOf Tryz.prog 94 = some (some 2) := by kernel_rfl
theorem sz94 : Sx.szOf Tryz.prog 94 = some 2 := by kernel_rfl
theorem ze94 : Sx.zeroOf Tryz.prog 94 = some (.agg #[.slice none 0 0, .slice none 0 0]) := by kernel_rfl
theorem fo94_0 : Sx.fieldOf Tryz.prog 94 0 = some (0, 91) := by kernel_rfl
theorem fo94_1 : Sx.fieldOf Tryz.prog 94 1 = some (1, 92) := by kernel_rfl
theorem is94 : Sx.isSt Tryz.prog 94 = true := by kernel_rfl
theorem el94 : Sx.elOf Tryz.prog 94 = .none := by kernel_rfl
theorem ki94 : Sx.kindOf Tryz.prog 94 = .other := by kernel_rfl
theorem hu94 : Sx.hasU Tryz.prog 94 = true := by kernel_rfl
theorem ag97 : Sx.aggOf Tryz.prog 97 = some none := by kernel_rfl
theorem sz97 : Sx.szOf Tryz.prog 97 = some 1 := by kernel_rfl
theorem ze97 : Sx.zeroOf Tryz.prog 97 = some (.slice none 0 0) := by kernel_rfl
theorem el97 : Sx.elOf Tryz.prog 97 = .sl 2 := by kernel_rfl
theorem ki97 : Sx.kindOf Tryz.prog 97 = .sl := by kernel_rfl
theorem hu97 : Sx.hasU Tryz.prog 97 = true := by kernel_rfl
theorem ag102 : Sx.aggOf Tryz.prog 102 = some (some 3) := by kernel_rfl
theorem sz102 : Sx.szOf Tryz.prog 102 = some 3 := by kernel_rfl
theorem ze102 : Sx.zeroOf Tryz.prog 102 = some (.agg #[.int .u8 0, .int .i64 0, .slice none 0 0]) := by kernel_rfl
theorem fo102_0 : Sx.fieldOf Tryz.prog 102 0 = some (0, 78) := by kernel_rfl
theorem fo102_1 : Sx.fieldOf Tryz.prog 102 1 = some (1, 3) := by kernel_rfl
theorem fo102_2 : Sx.fieldOf Tryz.prog 102 2 = some (2, 43) := by kernel_rfl
theorem is102 : Sx.isSt Tryz.prog 102 = true := by kernel_rfl
theorem el102 : Sx.elOf Tryz.prog 102 = .none := by kernel_rfl
theorem ki102 : Sx.kindOf Tryz.prog 102 = .other := by kernel_rfl
theorem hu102 : Sx.hasU Tryz.prog 102 = true := by kernel_rfl
theorem ag104 : Sx.aggOf Tryz.prog 104 = some none := by kernel_rfl
theorem sz104 : Sx.szOf Tryz.prog 104 = some 1 := by kernel_rfl
theorem ze104 : Sx.zeroOf Tryz.prog 104 = some (.slice none 0 0) := by kernel_rfl
theorem el104 : Sx.elOf Tryz.prog 104 = .sl 7 := by kernel_rfl
theorem ki104 : Sx.kindOf Tryz.prog 104 = .sl := by kernel_rfl
theorem hu104 : Sx.hasU Tryz.prog 104 = true := by kernel_rfl
theorem ag111 : Sx.aggOf Tryz.prog 111 = some (some 7) := by kernel_rfl
theorem sz111 : Sx.szOf Tryz.prog 111 = some 7 := by kernel_rfl
theorem ze111 : Sx.zeroOf Tryz.prog 111 = some (.agg #[.slice none 0 0, .int .u8 0, .string ⟨#[]⟩, .int .i64 0, .int .i64 0, .slice none 0 0, .slice none 0 0]) := by kernel_rfl
theorem fo111_0 : Sx.fieldOf Tryz.prog 111 0 = some (0, 81) := by kernel_rfl
theorem fo111_1 : Sx.fieldOf Tryz.prog 111 1 = some (1, 67) := by kernel_rfl
theorem is111 : Sx.isSt Tryz.prog 111 = true := by kernel_rfl
theorem el111 : Sx.elOf Tryz.prog 111 = .none := by kernel_rfl
theorem ki111 : Sx.kindOf Tryz.prog 111 = .other := by kernel_rfl
theorem hu111 : Sx.hasU Tryz.prog 111 = true := by kernel_rfl
theorem ag118 : Sx.aggOf Tryz.prog 118 = some none := by kernel_rfl
theorem sz118 : Sx.szOf Tryz.prog 118 = some 1 := by kernel_rfl
theorem ze118 : Sx.zeroOf Tryz.prog 118 = some (.slice none 0 0) := by kernel_rfl
theorem el118 : Sx.elOf Tryz.prog 118 = .sl 2 := by kernel_rfl
theorem ki118 : Sx.kindOf Tryz.prog 118 = .sl := by kernel_rfl
theorem hu118 : Sx.hasU Tryz.prog 118 = true := by kernel_rfl
theorem ag134 : Sx.aggOf Tryz.prog 134 = some (some 3) := by kernel_rfl
theorem sz134 : Sx.szOf Tryz.prog 134 = some 3 := by kernel_rfl
theorem ze134 : Sx.zeroOf Tryz.prog 134 = some (.agg #[.int .u8 0, .string ⟨#[]⟩, .slice none 0 0]) := by kernel_rfl
theorem fo134_0 : Sx.fieldOf Tryz.prog 134 0 = some (0, 5) := by kernel_rfl
theorem fo134_1 : Sx.fieldOf Tryz.prog 134 1 = some (1, 9) := by kernel_rfl
theorem fo134_2 : Sx.fieldOf Tryz.prog 134 2 = some (2, 46) := by kernel_rfl
theorem is134 : Sx.isSt Tryz.prog 134 = true := by kernel_rfl
theorem el134 : Sx.elOf Tryz.prog 134 = .none := by kernel_rfl
theorem ki134 : Sx.kindOf Tryz.prog 134 = .other := by kernel_rfl
theorem hu134 : Sx.hasU Tryz.prog 134 = true := by kernel_rfl
theorem ag136 : Sx.aggOf Tryz.prog 136 = some (some 6) := by kernel_rfl
theorem sz136 : Sx.szOf Tryz.prog 136 = some 6 := by kernel_rfl
theorem ze136 : Sx.zeroOf Tryz.prog 136 = some (.agg #[.int .u8 0, .string ⟨#[]⟩, .slice none 0 0, .int .i64 0, .int .i64 0, .slice none 0 0]) := by kernel_rfl
theorem fo136_0 : Sx.fieldOf Tryz.prog 136 0 = some (0, 5) := by kernel_rfl
theorem fo136_1 : Sx.fieldOf Tryz.prog 136 1 = some (1, 9) := by kernel_rfl
theorem fo136_2 : Sx.fieldOf Tryz.prog 136 2 = some (2, 81) := by kernel_rfl
theorem fo136_3 : Sx.fieldOf Tryz.prog 136 3 = some (3, 3) := by kernel_rfl
theorem fo136_4 : Sx.fieldOf Tryz.prog 136 4 = some (4, 3) := by kernel_rfl
theorem fo136_5 : Sx.fieldOf Tryz.prog 136 5 = some (5, 43) := by kernel_rfl
theorem is136 : Sx.isSt Tryz.prog 136 = true := by kernel_rfl
theorem el136 : Sx.elOf Tryz.prog 136 = .none := by kernel_rfl
theorem ki136 : Sx.kindOf Tryz.prog 136 = .other := by kernel_rfl
theorem hu136 : Sx.hasU Tryz.prog 136 = true := by kernel_rfl
theorem ag150 : Sx.aggOf Tryz.prog 150 = some (some 8) := by kernel_rfl
theorem sz150 : Sx.szOf Tryz.prog 150 = some 8 := by kernel_rfl
theorem ze150 : Sx.zeroOf Tryz.prog 150 = some (.agg #[.slice none 0 0, .slice none 0 0, .int .i64 0, .int .i64 0, .int .i64 0, .bool false, .int .u8 0, .int .i64 0]) := by kernel_rfl
theorem fo150_0 : Sx.fieldOf Tryz.prog 150 0 = some (0, 28) := by kernel_rfl
theorem fo150_1 : Sx.fieldOf Tryz.prog 150 1 = some (1, 81) := by kernel_rfl
theorem fo150_2 : Sx.fieldOf Tryz.prog 150 2 = some (2, 3) := by kernel_rfl
theorem fo150_3 : Sx.fieldOf Tryz.prog 150 3 = some (3, 3) := by kernel_rfl
theorem fo150_4 : Sx.fieldOf Tryz.prog 150 4 = some (4, 3) := by kernel_rfl
theorem fo150_5 : Sx.fieldOf Tryz.prog 150 5 = some (5, 4) := by kernel_rfl
theorem fo150_6 : Sx.fieldOf Tryz.prog 150 6 = some (6, 78) := by kernel_rfl
theorem fo150_7 : Sx.fieldOf Tryz.prog 150 7 = some (7, 3) := by kernel_rfl
theorem is150 : Sx.isSt Tryz.prog 150 = true := by kernel_rfl
theorem el150 : Sx.elOf Tryz.prog 150 = .none := by kernel_rfl
theorem ki150 : Sx.kindOf Tryz.prog 150 = .other := by kernel_rfl
theorem hu150 : Sx.hasU Tryz.prog 150 = true := by kernel_rfl
theorem ag152 : Sx.aggOf Tryz.prog 152 = some none := by kernel_rfl
theorem sz152 : Sx.szOf Tryz.prog 152 = some 1 := by kernel_rfl
theorem ze152 : Sx.zeroOf Tryz.prog 152 = some (.pointer none) := by kernel_rfl
theorem el152 : Sx.elOf Tryz.prog 152 = .none := by kernel_rfl
theorem ki152 : Sx.kindOf Tryz.prog 152 = .other := by kernel_rfl
theorem hu152 : Sx.hasU Tryz.prog 152 = true := by kernel_rfl
theorem ag154 : Sx.aggOf Tryz.prog 154 = some none := by kernel_rfl
theorem sz154 : Sx.szOf Tryz.prog 154 = some 1 := by kernel_rfl
theorem ze154 : Sx.zeroOf Tryz.prog 154 = some (.slice none 0 0) := by kernel_rfl
theorem el154 : Sx.elOf Tryz.prog 154 = .sl 3 := by kernel_rfl
theorem ki154 : Sx.kindOf Tryz.prog 154 = .sl := by kernel_rfl
theorem hu154 : Sx.hasU Tryz.prog 154 = true := by kernel_rfl
theorem ag155 : Sx.aggOf Tryz.prog 155 = some none := by kernel_rfl
theorem sz155 : Sx.szOf Tryz.prog 155 = some 1 := by kernel_rfl
theorem ze155 : Sx.zeroOf Tryz.prog 155 = some (.slice none 0 0) := by kernel_rfl
theorem el155 : Sx.elOf Tryz.prog 155 = .sl 3 := by kernel_rfl
theorem ki155 : Sx.kindOf Tryz.prog 155 = .sl := by kernel_rfl
theorem hu155 : Sx.hasU Tryz.prog 155 = true := by kernel_rfl
theorem ag158 : Sx.aggOf Tryz.prog 158 = some none := by kernel_rfl
theorem sz158 : Sx.szOf Tryz.prog 158 = some 1 := by kernel_rfl
theorem ze158 : Sx.zeroOf Tryz.prog 158 = some (.slice none 0 0) := by kernel_rfl
theorem el158 : Sx.elOf Tryz.prog 158 = .sl 1 := by kernel_rfl
theorem ki158 : Sx.kindOf Tryz.prog 158 = .sl := by kernel_rfl
theorem hu158 : Sx.hasU Tryz.prog 158 = true := by kernel_rfl
theorem ag159 : Sx.aggOf Tryz.prog 159 = some none := by kernel_rfl
theorem sz159 : Sx.szOf Tryz.prog 159 = some 1 := by kernel_rfl
theorem ze159 : Sx.zeroOf Tryz.prog 159 = some (.slice none 0 0) := by kernel_rfl
theorem el159 : Sx.elOf Tryz.prog 159 = .sl 2 := by kernel_rfl
theorem ki159 : Sx.kindOf Tryz.prog 159 = .sl := by kernel_rfl
theorem hu159 : Sx.hasU Tryz.prog 159 = true := by kernel_rfl
theorem ag161 : Sx.aggOf Tryz.prog 161 = some (some 5) := by kernel_rfl
theorem sz161 : Sx.szOf Tryz.prog 161 = some 5 := by kernel_rfl
theorem ze161 : Sx.zeroOf Tryz.prog 161 = some (.agg #[.slice none 0 0, .slice none 0 0, .slice none 0 0, .int .i64 0, .slice none 0 0]) := by kernel_rfl
theorem fo161_0 : Sx.fieldOf Tryz.prog 161 0 = some (0, 24) := by kernel_rfl
theorem fo161_1 : Sx.fieldOf Tryz.prog 161 1 = some (1, 158) := by kernel_rfl
theorem fo161_2 : Sx.fieldOf Tryz.prog 161 2 = some (2, 159) := by kernel_rfl
theorem fo161_3 : Sx.fieldOf Tryz.prog 161 3 = some (3, 3) := by kernel_rfl
theorem fo161_4 : Sx.fieldOf Tryz.prog 161 4 = some (4, 34) := by kernel_rfl
theorem is161 : Sx.isSt Tryz.prog 161 = true := by kernel_rfl
theorem el161 : Sx.elOf Tryz.prog 161 = .none := by kernel_rfl
theorem ki161 : Sx.kindOf Tryz.prog 161 = .other := by kernel_rfl
theorem hu161 : Sx.hasU Tryz.prog 161 = true := by kernel_rfl
theorem ag164 : Sx.aggOf Tryz.prog 164 = some (some 2) := by kernel_rfl
theorem sz164 : Sx.szOf Tryz.prog 164 = some 2 := by kernel_rfl
theorem ze164 : Sx.zeroOf Tryz.prog 164 = some (.agg #[.int .u32 0, .int .u32 0]) := by kernel_rfl
theorem fo164_0 : Sx.fieldOf Tryz.prog 164 0 = some (0, 23) := by kernel_rfl
theorem fo164_1 : Sx.fieldOf Tryz.prog 164 1 = some (1, 23) := by kernel_rfl
theorem is164 : Sx.isSt Tryz.prog 164 = true := by kernel_rfl
theorem el164 : Sx.elOf Tryz.prog 164 = .none := by kernel_rfl
theorem ki164 : Sx.kindOf Tryz.prog 164 = .other := by kernel_rfl
theorem hu164 : Sx.hasU Tryz.prog 164 = true := by kernel_rfl
theorem ag169 : Sx.aggOf Tryz.prog 169 = some (some 3) := by kernel_rfl
theorem sz169 : Sx.szOf Tryz.prog 169 = some 3 := by kernel_rfl
theorem ze169 : Sx.zeroOf Tryz.prog 169 = some (.agg #[.int .i64 0, .slice none 0 0, .int .i64 0]) := by kernel_rfl
theorem fo169_0 : Sx.fieldOf Tryz.prog 169 0 = some (0, 3) := by kernel_rfl
theorem fo169_1 : Sx.fieldOf Tryz.prog 169 1 = some (1, 50) := by kernel_rfl
theorem is169 : Sx.isSt Tryz.prog 169 = true := by kernel_rfl
theorem el169 : Sx.elOf Tryz.prog 169 = .none := by kernel_rfl
theorem ki169 : Sx.kindOf Tryz.prog 169 = .other := by kernel_rfl
theorem hu169 : Sx.hasU Tryz.prog 169 = true := by kernel_rfl
theorem ag181 : Sx.aggOf Tryz.prog 181 = some (some 3) := by kernel_rfl
theorem sz181 : Sx.szOf Tryz.prog 181 = some 3 := by kernel_rfl
theorem ze181 : Sx.zeroOf Tryz.prog 181 = some (.agg #[.int .i64 0, .int .i64 0, .int .i64 0]) := by kernel_rfl
theorem fo181_0 : Sx.fieldOf Tryz.prog 181 0 = some (0, 3) := by kernel_rfl
theorem fo181_1 : Sx.fieldOf Tryz.prog 181 1 = some (1, 3) := by kernel_rfl
theorem fo181_2 : Sx.fieldOf Tryz.prog 181 2 = some (2, 3) := by kernel_rfl
theorem is181 : Sx.isSt Tryz.prog 181 = true := by kernel_rfl
theorem el181 : Sx.elOf Tryz.prog 181 = .none := by kernel_rfl
theorem ki181 : Sx.kindOf Tryz.prog 181 = .other := by kernel_rfl
theorem hu181 : Sx.hasU Tryz.prog 181 = true := by kernel_rfl
theorem ag187 : Sx.aggOf Tryz.prog 187 = some (some 3) := by kernel_rfl
theorem sz187 : Sx.szOf Tryz.prog 187 = some 3 := by kernel_rfl
theorem ze187 : Sx.zeroOf Tryz.prog 187 = some (.agg #[.int .u8 0, .int .i64 0, .slice none 0 0]) := by kernel_rfl
theorem fo187_0 : Sx.fieldOf Tryz.prog 187 0 = some (0, 78) := by kernel_rfl
theorem fo187_1 : Sx.fieldOf Tryz.prog 187 1 = some (1, 3) := by kernel_rfl
theorem fo187_2 : Sx.fieldOf Tryz.prog 187 2 = some (2, 46) := by kernel_rfl
theorem is187 : Sx.isSt Tryz.prog 187 = true := by kernel_rfl
theorem el187 : Sx.elOf Tryz.prog 187 = .none := by kernel_rfl
theorem ki187 : Sx.kindOf Tryz.prog 187 = .other := by kernel_rfl
theorem hu187 : Sx.hasU Tryz.prog 187 = true := by kernel_rfl
theorem ag192 : Sx.aggOf Tryz.prog 192 = some none := by kernel_rfl
theorem sz192 : Sx.szOf Tryz.prog 192 = some 1 := by kernel_rfl
theorem ze192 : Sx.zeroOf Tryz.prog 192 = some (.nilFunc) := by kernel_rfl
theorem el192 : Sx.elOf Tryz.prog 192 = .none := by kernel_rfl
theorem ki192 : Sx.kindOf Tryz.prog 192 = .other := by kernel_rfl
theorem hu192 : Sx.hasU Tryz.prog 192 = true := by kernel_rfl
theorem ag197 : Sx.aggOf Tryz.prog 197 = some none := by kernel_rfl
theorem sz197 : Sx.szOf Tryz.prog 197 = some 1 := by kernel_rfl
theorem ze197 : Sx.zeroOf Tryz.prog 197 = some (.map none) := by kernel_rfl
theorem el197 : Sx.elOf Tryz.prog 197 = .none := by kernel_rfl
theorem ki197 : Sx.kindOf Tryz.prog 197 = .other := by kernel_rfl
theorem hu197 : Sx.hasU Tryz.prog 197 = true := by kernel_rfl
theorem ag217 : Sx.aggOf Tryz.prog 217 = some none := by kernel_rfl
theorem sz217 : Sx.szOf Tryz.prog 217 = some 1 := by kernel_rfl
theorem ze217 : Sx.zeroOf Tryz.prog 217 = some (.pointer none) := by kernel_rfl
theorem el217 : Sx.elOf Tryz.prog 217 = .none := by kernel_rfl
theorem ki217 : Sx.kindOf Tryz.prog 217 = .other := by kernel_rfl
theorem hu217 : Sx.hasU Tryz.prog 217 = true := by kernel_rfl
theorem ag227 : Sx.aggOf Tryz.prog 227 = some (some 5) := by kernel_rfl
theorem sz227 : Sx.szOf Tryz.prog 227 = some 5 := by kernel_rfl
theorem ze227 : Sx.zeroOf Tryz.prog 227 = some (.agg #[.int .i64 0, .slice none 0 0, .int .i64 0, .int .u8 0, .string ⟨#[]⟩]) := by kernel_rfl
theorem fo227_0 : Sx.fieldOf Tryz.prog 227 0 = some (0, 3) := by kernel_rfl
theorem fo227_1 : Sx.fieldOf Tryz.prog 227 1 = some (1, 50) := by kernel_rfl
theorem fo227_2 : Sx.fieldOf Tryz.prog 227 2 = some (3, 5) := by kernel_rfl
theorem fo227_3 : Sx.fieldOf Tryz.prog 227 3 = some (4, 9) := by kernel_rfl
theorem is227 : Sx.isSt Tryz.prog 227 = true := by kernel_rfl
theorem el227 : Sx.elOf Tryz.prog 227 = .none := by kernel_rfl
theorem ki227 : Sx.kindOf Tryz.prog 227 = .other := by kernel_rfl
theorem hu227 : Sx.hasU Tryz.prog 227 = true := by kernel_rfl
theorem ag238 : Sx.aggOf Tryz.prog 238 = some none := by kernel_rfl
theorem sz238 : Sx.szOf Tryz.prog 238 = some 1 := by kernel_rfl
theorem ze238 : Sx.zeroOf Tryz.prog 238 = some (.map none) := by kernel_rfl
theorem el238 : Sx.elOf Tryz.prog 238 = .none := by kernel_rfl
theorem ki238 : Sx.kindOf Tryz.prog 238 = .other := by kernel_rfl
theorem hu238 : Sx.hasU Tryz.prog 238 = true := by kernel_rfl
theorem ag240 : Sx.aggOf Tryz.prog 240 = some (some 4) := by kernel_rfl
theorem sz240 : Sx.szOf Tryz.prog 240 = some 4 := by kernel_rfl
theorem ze240 : Sx.zeroOf Tryz.prog 240 = some (.agg #[.int .i64 0, .int .i64 0, .int .u8 0, .string ⟨#[]⟩]) := by kernel_rfl
theorem fo240_0 : Sx.fieldOf Tryz.prog 240 0 = some (0, 3) := by kernel_rfl
theorem fo240_1 : Sx.fieldOf Tryz.prog 240 1 = some (1, 3) := by kernel_rfl
theorem fo240_2 : Sx.fieldOf Tryz.prog 240 2 = some (2, 5) := by kernel_rfl
theorem fo240_3 : Sx.fieldOf Tryz.prog 240 3 = some (3, 9) := by kernel_rfl
theorem is240 : Sx.isSt Tryz.prog 240 = true := by kernel_rfl
theorem el240 : Sx.elOf Tryz.prog 240 = .none := by kernel_rfl
theorem ki240 : Sx.kindOf Tryz.prog 240 = .other := by kernel_rfl
theorem hu240 : Sx.hasU Tryz.prog 240 = true := by kernel_rfl
theorem ag260 : Sx.aggOf Tryz.prog 260 = some none := by kernel_rfl
theorem sz260 : Sx.szOf Tryz.prog 260 = some 1 := by kernel_rfl
theorem ze260 : Sx.zeroOf Tryz.prog 260 = some (.map none) := by kernel_rfl
theorem el260 : Sx.elOf Tryz.prog 260 = .none := by kernel_rfl
theorem ki260 : Sx.kindOf Tryz.prog 260 = .other := by kernel_rfl
theorem hu260 : Sx.hasU Tryz.prog 260 = true := by kernel_rfl
theorem ag262 : Sx.aggOf Tryz.prog 262 = some (some 6) := by kernel_rfl
theorem sz262 : Sx.szOf Tryz.prog 262 = some 6 := by kernel_rfl
theorem ze262 : Sx.zeroOf Tryz.prog 262 = some (.agg #[.pointer none, .slice none 0 0, .int .i64 0, .slice none 0 0, .int .i64 0, .map none]) := by kernel_rfl
theorem fo262_0 : Sx.fieldOf Tryz.prog 262 0 = some (0, 217) := by kernel_rfl
theorem fo262_1 : Sx.fieldOf Tryz.prog 262 1 = some (1, 50) := by kernel_rfl
theorem fo262_2 : Sx.fieldOf Tryz.prog 262 2 = some (3, 50) := by kernel_rfl
theorem fo262_3 : Sx.fieldOf Tryz.prog 262 3 = some (5, 260) := by kernel_rfl
theorem is262 : Sx.isSt Tryz.prog 262 = true := by kernel_rfl
theorem el262 : Sx.elOf Tryz.prog 262 = .none := by kernel_rfl
theorem ki262 : Sx.kindOf Tryz.prog 262 = .other := by kernel_rfl
theorem hu262 : Sx.hasU Tryz.prog 262 = true := by kernel_rfl
theorem ag265 : Sx.aggOf Tryz.prog 265 = some (some 6) := by kernel_rfl
theorem sz265 : Sx.szOf Tryz.prog 265 = some 6 := by kernel_rfl
theorem ze265 : Sx.zeroOf Tryz.prog 265 = some (.agg #[.int .u8 0, .string ⟨#[]⟩, .int .i64 0, .int .i64 0, .slice none 0 0, .slice none 0 0]) := by kernel_rfl
theorem fo265_0 : Sx.fieldOf Tryz.prog 265 0 = some (0, 5) := by kernel_rfl
theorem fo265_1 : Sx.fieldOf Tryz.prog 265 1 = some (1, 9) := by kernel_rfl
theorem fo265_2 : Sx.fieldOf Tryz.prog 265 2 = some (2, 3) := by kernel_rfl
theorem fo265_3 : Sx.fieldOf Tryz.prog 265 3 = some (3, 3) := by kernel_rfl
theorem fo265_4 : Sx.fieldOf Tryz.prog 265 4 = some (4, 91) := by kernel_rfl
theorem fo265_5 : Sx.fieldOf Tryz.prog 265 5 = some (5, 46) := by kernel_rfl
theorem is265 : Sx.isSt Tryz.prog 265 = true := by kernel_rfl
theorem el265 : Sx.elOf Tryz.prog 265 = .none := by kernel_rfl
theorem ki265 : Sx.kindOf Tryz.prog 265 = .other := by kernel_rfl
theorem hu265 : Sx.hasU Tryz.prog 265 = true := by kernel_rfl
theorem ag268 : Sx.aggOf Tryz.prog 268 = some none := by kernel_rfl
theorem sz268 : Sx.szOf Tryz.prog 268 = some 1 := by kernel_rfl
theorem ze268 : Sx.zeroOf Tryz.prog 268 = some (.slice none 0 0) := by kernel_rfl
theorem el268 : Sx.elOf Tryz.prog 268 = .sl 1 := by kernel_rfl
theorem ki268 : Sx.kindOf Tryz.prog 268 = .sl := by kernel_rfl
theorem hu268 : Sx.hasU Tryz.prog 268 = true := by kernel_rfl
theorem ag282 : Sx.aggOf Tryz.prog 282 = some none := by kernel_rfl
theorem sz282 : Sx.szOf Tryz.prog 282 = some 1 := by kernel_rfl
theorem ze282 : Sx.zeroOf Tryz.prog 282 = some (.slice none 0 0) := by kernel_rfl
theorem el282 : Sx.elOf Tryz.prog 282 = .sl 1 := by kernel_rfl
theorem ki282 : Sx.kindOf Tryz.prog 282 = .sl := by kernel_rfl
theorem hu282 : Sx.hasU Tryz.prog 282 = true := by kernel_rfl
theorem ag284 : Sx.aggOf Tryz.prog 284 = some none := by kernel_rfl
theorem sz284 : Sx.szOf Tryz.prog 284 = some 1 := by kernel_rfl
theorem ze284 : Sx.zeroOf Tryz.prog 284 = some (.nilIface) := by kernel_rfl
theorem el284 : Sx.elOf Tryz.prog 284 = .none := by kernel_rfl
theorem ki284 : Sx.kindOf Tryz.prog 284 = .other := by kernel_rfl
theorem hu284 : Sx.hasU Tryz.prog 284 = true := by kernel_rfl
theorem ag298 : Sx.aggOf Tryz.prog 298 = some none := by kernel_rfl
theorem sz298 : Sx.szOf Tryz.prog 298 = some 1 := by kernel_rfl
theorem ze298 : Sx.zeroOf Tryz.prog 298 = some (.map none) := by kernel_rfl
theorem el298 : Sx.elOf Tryz.prog 298 = .none := by kernel_rfl
theorem ki298 : Sx.kindOf Tryz.prog 298 = .other := by kernel_rfl
theorem hu298 : Sx.hasU Tryz.prog 298 = true := by kernel_rfl
theorem ag300 : Sx.aggOf Tryz.prog 300 = some (some 2) := by kernel_rfl
theorem sz300 : Sx.szOf Tryz.prog 300 = some 2 := by kernel_rfl
theorem ze300 : Sx.zeroOf Tryz.prog 300 = some (.agg #[.slice none 0 0, .map none]) := by kernel_rfl
theorem fo300_0 : Sx.fieldOf Tryz.prog 300 0 = some (0, 48) := by kernel_rfl
theorem fo300_1 : Sx.fieldOf Tryz.prog 300 1 = some (1, 298) := by kernel_rfl
theorem is300 : Sx.isSt Tryz.prog 300 = true := by kernel_rfl
theorem el300 : Sx.elOf Tryz.prog 300 = .none := by kernel_rfl
theorem ki300 : Sx.kindOf Tryz.prog 300 = .other := by kernel_rfl
theorem hu300 : Sx.hasU Tryz.prog 300 = true := by kernel_rfl
theorem ag301 : Sx.aggOf Tryz.prog 301 = some none := by kernel_rfl
theorem sz301 : Sx.szOf Tryz.prog 301 = some 1 := by kernel_rfl
theorem ze301 : Sx.zeroOf Tryz.prog 301 = some (.map none) := by kernel_rfl
theorem el301 : Sx.elOf Tryz.prog 301 = .none := by kernel_rfl
theorem ki301 : Sx.kindOf Tryz.prog 301 = .other := by kernel_rfl
theorem hu301 : Sx.hasU Tryz.prog 301 = true := by kernel_rfl
theorem ag302 : Sx.aggOf Tryz.prog 302 = some none := by kernel_rfl
theorem sz302 : Sx.szOf Tryz.prog 302 = some 1 := by kernel_rfl
theorem ze302 : Sx.zeroOf Tryz.prog 302 = some (.nilFunc) := by kernel_rfl
theorem el302 : Sx.elOf Tryz.prog 302 = .none := by kernel_rfl
theorem ki302 : Sx.kindOf Tryz.prog 302 = .other := by kernel_rfl
theorem hu302 : Sx.hasU Tryz.prog 302 = true := by kernel_rfl
theorem ag306 : Sx.aggOf Tryz.prog 306 = some none := by kernel_rfl
theorem sz306 : Sx.szOf Tryz.prog 306 = some 1 := by kernel_rfl
theorem ze306 : Sx.zeroOf Tryz.prog 306 = some (.slice none 0 0) := by kernel_rfl
theorem el306 : Sx.elOf Tryz.prog 306 = .sl 5 := by kernel_rfl
theorem ki306 : Sx.kindOf Tryz.prog 306 = .sl := by kernel_rfl
theorem hu306 : Sx.hasU Tryz.prog 306 = true := by kernel_rfl
theorem ag315 : Sx.aggOf Tryz.prog 315 = some none := by kernel_rfl
theorem sz315 : Sx.szOf Tryz.prog 315 = some 1 := by kernel_rfl
theorem ze315 : Sx.zeroOf Tryz.prog 315 = some (.nilFunc) := by kernel_rfl
theorem el315 : Sx.elOf Tryz.prog 315 = .none := by kernel_rfl
theorem ki315 : Sx.kindOf Tryz.prog 315 = .other := by kernel_rfl
theorem hu315 : Sx.hasU Tryz.prog 315 = true := by kernel_rfl
theorem ag316 : Sx.aggOf Tryz.prog 316 = some none := by kernel_rfl
theorem sz316 : Sx.szOf Tryz.prog 316 = some 1 := by kernel_rfl
theorem ze316 : Sx.zeroOf Tryz.prog 316 = some (.nilFunc) := by kernel_rfl
theorem el316 : Sx.elOf Tryz.prog 316 = .none := by kernel_rfl
theorem ki316 : Sx.kindOf Tryz.prog 316 = .other := by kernel_rfl
theorem hu316 : Sx.hasU Tryz.prog 316 = true := by kernel_rfl
theorem ag317 : Sx.aggOf Tryz.prog 317 = some (some 22) := by kernel_rfl
theorem sz317 : Sx.szOf Tryz.prog 317 = some 22 := by kernel_rfl
theorem ze317 : Sx.zeroOf Tryz.prog 317 = some (.agg #[.string ⟨#[]⟩, .string ⟨#[]⟩, .string ⟨#[]⟩, .string ⟨#[]⟩, .string ⟨#[]⟩, .string ⟨#[]⟩, .string ⟨#[]⟩, .string ⟨#[]⟩, .string ⟨#[]⟩, .string ⟨#[]⟩, .string ⟨#[]⟩, .string ⟨#[]⟩, .string ⟨#[]⟩, .string ⟨#[]⟩, .string ⟨#[]⟩, .string ⟨#[]⟩, .string ⟨#[]⟩, .string ⟨#[]⟩, .string ⟨#[]⟩, .string ⟨#[]⟩, .string ⟨#[]⟩, .string ⟨#[]⟩]) := by kernel_rfl
theorem el317 : Sx.elOf Tryz.prog 317 = .arr 22 1 := by kernel_rfl
theorem ki317 : Sx.kindOf Tryz.prog 317 = .other := by kernel_rfl
theorem hu317 : Sx.hasU Tryz.prog 317 = true := by kernel_rfl
theorem ag319 : Sx.aggOf Tryz.prog 319 = some none := by kernel_rfl
theorem sz319 : Sx.szOf Tryz.prog 319 = some 1 := by kernel_rfl
theorem ze319 : Sx.zeroOf Tryz.prog 319 = some (.slice none 0 0) := by kernel_rfl
theorem el319 : Sx.elOf Tryz.prog 319 = .sl 1 := by kernel_rfl
theorem ki319 : Sx.kindOf Tryz.prog 319 = .sl := by kernel_rfl
theorem hu319 : Sx.hasU Tryz.prog 319 = true := by kernel_rfl
theorem ag325 : Sx.aggOf Tryz.prog 325 = some none := by kernel_rfl
theorem sz325 : Sx.szOf Tryz.prog 325 = some 1 := by kernel_rfl
theorem ze325 : Sx.zeroOf Tryz.prog 325 = some (.int .u64 0) := by kernel_rfl
theorem el325 : Sx.elOf Tryz.prog 325 = .none := by kernel_rfl
theorem ki325 : Sx.kindOf Tryz.prog 325 = .int .u64 := by kernel_rfl
theorem hu325 : Sx.hasU Tryz.prog 325 = true := by kernel_rfl
theorem ag329 : Sx.aggOf Tryz.prog 329 = some none := by kernel_rfl
theorem sz329 : Sx.szOf Tryz.prog 329 = some 1 := by kernel_rfl
theorem ze329 : Sx.zeroOf Tryz.prog 329 = some (.slice none 0 0) := by kernel_rfl
theorem el329 : Sx.elOf Tryz.prog 329 = .sl 1 := by kernel_rfl
theorem ki329 : Sx.kindOf Tryz.prog 329 = .sl := by kernel_rfl
theorem hu329 : Sx.hasU Tryz.prog 329 = true := by kernel_rfl
theorem ag335 : Sx.aggOf Tryz.prog 335 = some (some 2) := by kernel_rfl
theorem sz335 : Sx.szOf Tryz.prog 335 = some 2 := by kernel_rfl
theorem ze335 : Sx.zeroOf Tryz.prog 335 = some (.agg #[.int .i64 0, .int .i64 0]) := by kernel_rfl
theorem el335 : Sx.elOf Tryz.prog 335 = .arr 2 1 := by kernel_rfl
theorem ki335 : Sx.kindOf Tryz.prog 335 = .other := by kernel_rfl
theorem hu335 : Sx.hasU Tryz.prog 335 = true := by kernel_rfl
theorem ag358 : Sx.aggOf Tryz.prog 358 = some none := by kernel_rfl
theorem sz358 : Sx.szOf Tryz.prog 358 = some 1 := by kernel_rfl
theorem ze358 : Sx.zeroOf Tryz.prog 358 = some (.int .i64 0) := by kernel_rfl
theorem el358 : Sx.elOf Tryz.prog 358 = .none := by kernel_rfl
theorem ki358 : Sx.kindOf Tryz.prog 358 = .int .i64 := by kernel_rfl
theorem hu358 : Sx.hasU Tryz.prog 358 = true := by kernel_rfl
theorem ag366 : Sx.aggOf Tryz.prog 366 = some none := by kernel_rfl
theorem sz366 : Sx.szOf Tryz.prog 366 = some 1 := by kernel_rfl
theorem ze366 : Sx.zeroOf Tryz.prog 366 = some (.int .u64 0) := by kernel_rfl
theorem el366 : Sx.elOf Tryz.prog 366 = .none := by kernel_rfl
theorem ki366 : Sx.kindOf Tryz.prog 366 = .int .u64 := by kernel_rfl
theorem hu366 : Sx.hasU Tryz.prog 366 = true := by kernel_rfl
theorem ag377 : Sx.aggOf Tryz.prog 377 = some none := by kernel_rfl
theorem sz377 : Sx.szOf Tryz.prog 377 = some 1 := by kernel_rfl
theorem ze377 : Sx.zeroOf Tryz.prog 377 = some (.int .u64 0) := by kernel_rfl
theorem el377 : Sx.elOf Tryz.prog 377 = .none := by kernel_rfl
theorem ki377 : Sx.kindOf Tryz.prog 377 = .int .u64 := by kernel_rfl
theorem hu377 : Sx.hasU Tryz.prog 377 = true := by kernel_rfl
theorem ag403 : Sx.aggOf Tryz.prog 403 = some none := by kernel_rfl
theorem sz403 : Sx.szOf Tryz.prog 403 = some 1 := by kernel_rfl
theorem ze403 : Sx.zeroOf Tryz.prog 403 = some (.pointer none) := by kernel_rfl
theorem el403 : Sx.elOf Tryz.prog 403 = .none := by kernel_rfl
theorem ki403 : Sx.kindOf Tryz.prog 403 = .other := by kernel_rfl
theorem hu403 : Sx.hasU Tryz.prog 403 = true := by kernel_rfl
theorem ag405 : Sx.aggOf Tryz.prog 405 = some (some 1) := by kernel_rfl
theorem sz405 : Sx.szOf Tryz.prog 405 = some 1 := by kernel_rfl
theorem ze405 : Sx.zeroOf Tryz.prog 405 = some (.agg #[.string ⟨#[]⟩]) := by kernel_rfl
theorem fo405_0 : Sx.fieldOf Tryz.prog 405 0 = some (0, 9) := by kernel_rfl
theorem is405 : Sx.isSt Tryz.prog 405 = true := by kernel_rfl
theorem el405 : Sx.elOf Tryz.prog 405 = .none := by kernel_rfl
theorem ki405 : Sx.kindOf Tryz.prog 405 = .other := by kernel_rfl
theorem hu405 : Sx.hasU Tryz.prog 405 = true := by kernel_rfl
theorem ag408 : Sx.aggOf Tryz.prog 408 = some (some 32) := by kernel_rfl
theorem sz408 : Sx.szOf Tryz.prog 408 = some 32 := by kernel_rfl
theorem ze408 : Sx.zeroOf Tryz.prog 408 = some (.agg #[.int .u8 0, .int .u8 0, .int .u8 0, .int .u8 0, .int .u8 0, .int .u8 0, .int .u8 0, .int .u8 0, .int .u8 0, .int .u8 0, .int .u8 0, .int .u8 0, .int .u8 0, .int .u8 0, .int .u8 0, .int .u8 0, .int .u8 0, .int .u8 0, .int .u8 0, .int .u8 0, .int .u8 0, .int .u8 0, .int .u8 0, .int .u8 0, .int .u8 0, .int .u8 0, .int .u8 0, .int .u8 0, .int .u8 0, .int .u8 0, .int .u8 0, .int .u8 0]) := by kernel_rfl
theorem el408 : Sx.elOf Tryz.prog 408 = .arr 32 1 := by kernel_rfl
theorem ki408 : Sx.kindOf Tryz.prog 408 = .other := by kernel_rfl
theorem hu408 : Sx.hasU Tryz.prog 408 = true := by kernel_rfl
theorem ag409 : Sx.aggOf Tryz.prog 409 = some (some 64) := by kernel_rfl
theorem sz409 : Sx.szOf Tryz.prog 409 = some 64 := by kernel_rfl
theorem ze409 : Sx.zeroOf Tryz.prog 409 = some (.agg #[.int .u8 0, .int .u8 0, .int .u8 0, .int .u8 0, .int .u8 0, .int .u8 0, .int .u8 0, .int .u8 0, .int .u8 0, .int .u8 0, .int .u8 0, .int .u8 0, .int .u8 0, .int .u8 0, .int .u8 0, .int .u8 0, .int .u8 0, .int .u8 0, .int .u8 0, .int .u8 0, .int .u8 0, .int .u8 0, .int .u8 0, .int .u8 0, .int .u8 0, .int .u8 0, .int .u8 0, .int .u8 0, .int .u8 0, .int .u8 0, .int .u8 0, .int .u8 0, .int .u8 0, .int .u8 0, .int .u8 0, .int .u8 0, .int .u8 0, .int .u8 0, .int .u8 0, .int .u8 0, .int .u8 0, .int .u8 0, .int .u8 0, .int .u8 0, .int .u8 0, .int .u8 0, .int .u8 0, .int .u8 0, .int .u8 0, .int .u8 0, .int .u8 0, .int .u8 0, .int .u8 0, .int .u8 0, .int .u8 0, .int .u8 0, .int .u8 0, .int .u8 0, .int .u8 0, .int .u8 0, .int .u8 0, .int .u8 0, .int .u8 0, .int .u8 0]) := by kernel_rfl
theorem el409 : Sx.elOf Tryz.prog 409 = .arr 64 1 := by kernel_rfl
theorem ki409 : Sx.kindOf Tryz.prog 409 = .other := by kernel_rfl
theorem hu409 : Sx.hasU Tryz.prog 409 = true := by kernel_rfl
theorem sl33 : Sx.SlT Tryz.prog 33 60 7 96 := SlT.of (by kernel_rfl) (by kernel_rfl) (by omega)
theorem sl34 : Sx.SlT Tryz.prog 34 80 4 48 := SlT.of (by kernel_rfl) (by kernel_rfl) (by omega)
theorem sl38 : Sx.SlT Tryz.prog 38 67 6 88 := SlT.of (by kernel_rfl) (by kernel_rfl) (by omega)
theorem sl39 : Sx.SlT Tryz.prog 39 102 3 40 := SlT.of (by kernel_rfl) (by kernel_rfl) (by omega)
theorem sl43 : Sx.SlT Tryz.prog 43 23 1 4 := SlT.of (by kernel_rfl) (by kernel_rfl) (by omega)
theorem sl48 : Sx.SlT Tryz.prog 48 181 3 24 := SlT.of (by kernel_rfl) (by kernel_rfl) (by omega)
theorem sl81 : Sx.SlT Tryz.prog 81 3 1 8 := SlT.of (by kernel_rfl) (by kernel_rfl) (by omega)
theorem sl97 : Sx.SlT Tryz.prog 97 94 2 48 := SlT.of (by kernel_rfl) (by kernel_rfl) (by omega)
theorem sl104 : Sx.SlT Tryz.prog 104 111 7 112 := SlT.of (by kernel_rfl) (by kernel_rfl) (by omega)
theorem hm260 : Tryz.prog.underlying 260 = some (.map 335 3) := by kernel_rfl
theorem hm298 : Tryz.prog.underlying 298 = some (.map 181 3) := by kernel_rfl
theorem hm301 : Tryz.prog.underlying 301 = some (.map 3 3) := by kernel_rfl
attribute [go_sem] ag3 sz3 ze3 el3 ki3 hu3 ag4 sz4 ze4 el4 ki4 hu4
attribute [go_sem] ag5 sz5 ze5 el5 ki5 hu5 ag9 sz9 ze9 el9 ki9 hu9
attribute [go_sem] ag22 sz22 ze22 el22 ki22 hu22 ag23 sz23 ze23 el23 ki23 hu23
attribute [go_sem] ag24 sz24 ze24 el24 ki24 hu24 ag27 sz27 ze27 fo27_0 fo27_1 is27
attribute [go_sem] el27 ki27 hu27 ag28 sz28 ze28 el28 ki28 hu28 ag33 sz33 ze33
attribute [go_sem] el33 ki33 hu33 ag34 sz34 ze34 el34 ki34 hu34 ag36 sz36 ze36
attribute [go_sem] fo36_0 fo36_1 is36 el36 ki36 hu36 ag38 sz38 ze38 el38 ki38 hu38
attribute [go_sem] ag39 sz39 ze39 el39 ki39 hu39 ag41 sz41 ze41 fo41_0 fo41_1 is41
attribute [go_sem] el41 ki41 hu41 ag43 sz43 ze43 el43 ki43 hu43 ag46 sz46 ze46
attribute [go_sem] el46 ki46 hu46 ag48 sz48 ze48 el48 ki48 hu48 ag50 sz50 ze50
attribute [go_sem] fo50_0 fo50_1 is50 el50 ki50 hu50 ag60 sz60 ze60 fo60_0 fo60_1 fo60_2
attribute [go_sem] fo60_3 fo60_4 fo60_5 is60 el60 ki60 hu60 ag61 sz61 ze61 el61 ki61
attribute [go_sem] hu61 ag67 sz67 ze67 fo67_0 fo67_1 fo67_2 fo67_3 fo67_4 fo67_5 is67 el67
attribute [go_sem] ki67 hu67 ag78 sz78 ze78 el78 ki78 hu78 ag80 sz80 ze80 fo80_0
attribute [go_sem] fo80_1 fo80_2 is80 el80 ki80 hu80 ag81 sz81 ze81 el81 ki81 hu81
attribute [go_sem] ag83 sz83 ze83 fo83_0 fo83_1 fo83_2 fo83_3 fo83_4 fo83_5 is83 el83 ki83
attribute [go_sem] hu83 ag88 sz88 ze88 el88 ki88 hu88 ag91 sz91 ze91 el91 ki91
attribute [go_sem] hu91 ag92 sz92 ze92 el92 ki92 hu92 ag94 sz94 ze94 fo94_0 fo94_1
attribute [go_sem] is94 el94 ki94 hu94 ag97 sz97 ze97 el97 ki97 hu97 ag102 sz102
attribute [go_sem] ze102 fo102_0 fo102_1 fo102_2 is102 el102 ki102 hu102 ag104 sz104 ze104 el104
attribute [go_sem] ki104 hu104 ag111 sz111 ze111 fo111_0 fo111_1 is111 el111 ki111 hu111 ag118
attribute [go_sem] sz118 ze118 el118 ki118 hu118 ag134 sz134 ze134 fo134_0 fo134_1 fo134_2 is134
attribute [go_sem] el134 ki134 hu134 ag136 sz136 ze136 fo136_0 fo136_1 fo136_2 fo136_3 fo136_4 fo136_5
attribute [go_sem] is136 el136 ki136 hu136 ag150 sz150 ze150 fo150_0 fo150_1 fo150_2 fo150_3 fo150_4
attribute [go_sem] fo150_5 fo150_6 fo150_7 is150 el150 ki150 hu150 ag152 sz152 ze152 el152 ki152
attribute [go_sem] hu152 ag154 sz154 ze154 el154 ki154 hu154 ag155 sz155 ze155 el155 ki155
attribute [go_sem] hu155 ag158 sz158 ze158 el158 ki158 hu158 ag159 sz159 ze159 el159 ki159
attribute [go_sem] hu159 ag161 sz161 ze161 fo161_0 fo161_1 fo161_2 fo161_3 fo161_4 is161 el161 ki161
attribute [go_sem] hu161 ag164 sz164 ze164 fo164_0 fo164_1 is164 el164 ki164 hu164 ag169 sz169
attribute [go_sem] ze169 fo169_0 fo169_1 is169 el169 ki169 hu169 ag181 sz181 ze181 fo181_0 fo181_1
attribute [go_sem] fo181_2 is181 el181 ki181 hu181 ag187 sz187 ze187 fo187_0 fo187_1 fo187_2 is187
attribute [go_sem] el187 ki187 hu187 ag192 sz192 ze192 el192 ki192 hu192 ag197 sz197 ze197
attribute [go_sem] el197 ki197 hu197 ag217 sz217 ze217 el217 ki217 hu217 ag227 sz227 ze227
attribute [go_sem] fo227_0 fo227_1 fo227_2 fo227_3 is227 el227 ki227 hu227 ag238 sz238 ze238 el238
attribute [go_sem] ki238 hu238 ag240 sz240 ze240 fo240_0 fo240_1 fo240_2 fo240_3 is240 el240 ki240
attribute [go_sem] hu240 ag260 sz260 ze260 el260 ki260 hu260 ag262 sz262 ze262 fo262_0 fo262_1
attribute [go_sem] fo262_2 fo262_3 is262 el262 ki262 hu262 ag265 sz265 ze265 fo265_0 fo265_1 fo265_2
attribute [go_sem] fo265_3 fo265_4 fo265_5 is265 el265 ki265 hu265 ag268 sz268 ze268 el268 ki268
attribute [go_sem] hu268 ag282 sz282 ze282 el282 ki282 hu282 ag284 sz284 ze284 el284 ki284
attribute [go_sem] hu284 ag298 sz298 ze298 el298 ki298 hu298 ag300 sz300 ze300 fo300_0 fo300_1
attribute [go_sem] is300 el300 ki300 hu300 ag301 sz301 ze301 el301 ki301 hu301 ag302 sz302
attribute [go_sem] ze302 el302 ki302 hu302 ag306 sz306 ze306 el306 ki306 hu306 ag315 sz315
attribute [go_sem] ze315 el315 ki315 hu315 ag316 sz316 ze316 el316 ki316 hu316 ag317 sz317
attribute [go_sem] ze317 el317 ki317 hu317 ag319 sz319 ze319 el319 ki319 hu319 ag325 sz325
attribute [go_sem] ze325 el325 ki325 hu325 ag329 sz329 ze329 el329 ki329 hu329 ag335 sz335
attribute [go_sem] ze335 el335 ki335 hu335 ag358 sz358 ze358 el358 ki358 hu358 ag366 sz366
attribute [go_sem] ze366 el366 ki366 hu366 ag377 sz377 ze377 el377 ki377 hu377 ag403 sz403
attribute [go_sem] ze403 el403 ki403 hu403 ag405 sz405 ze405 fo405_0 is405 el405 ki405 hu405
attribute [go_sem] ag408 sz408 ze408 el408 ki408 hu408 ag409 sz409 ze409 el409 ki409 hu409
end Go.Proofs.YtfaclfkpnmcmlaaGreatDoor
end
section
namespace Go.Proofs.YtfaclfkpnmcmlaaGreatDoor
open Go Go.Sx Dg
def iv (n : Nat) : Value := .int .i64 n
def decV (d : Nat × Nat × Nat) : Value := .agg #[iv d.1, iv d.2.1, iv d.2.2]
def decC (d : Nat × Nat × Nat) : List Value := [iv d.1, iv d.2.1, iv d.2.2]
def tsC (ts : List T) : List Value := ts.flatMap fun t => decC (T.dec ts t)
def pt (b : Nat) : Value := .pointer (some ⟨b, 0, none⟩)
theorem flat_len {f : T → List Value} {n : Nat} (hf : ∀ t, (f t).length = n) : ∀ (l : List T), (l.flatMap f).length = l.length * n
  | [] => by simp
  | t :: l => by simp only [List.flatMap_cons, List.length_append, hf, flat_len hf l, List.length_cons]; rw [Nat.add_mul]; omega
theorem flat_get {f : T → List Value} {n : Nat} (hf : ∀ t, (f t).length = n) : ∀ (l : List T) (i : Nat) (t : T), l[i]? = some t → ((l.flatMap f).drop (i * n)).take n = f t
  | [], i, t, h => by simp at h
  | x :: l, 0, t, h => by
    simp only [List.getElem?_cons_zero, Option.some.injEq] at h; subst h
    simp only [List.flatMap_cons, Nat.zero_mul, List.drop_zero]
    exact List.take_left' (hf x)
  | x :: l, i + 1, t, h => by
    simp only [List.getElem?_cons_succ] at h
    rw [List.flatMap_cons, Nat.add_mul, Nat.one_mul, Nat.add_comm, ← List.drop_drop, List.drop_left' (hf x)]
    exact flat_get hf l i t h
theorem tsC_len (ts : List T) : (tsC ts).length = ts.length * 3 := flat_len (f := fun t => decC (T.dec ts t)) (fun _ => rfl) ts
theorem tsC_get {ts : List T} {i : Nat} {t : T} (h : ts[i]? = some t) : ((tsC ts).drop (i * 3)).take 3 = decC (T.dec ts t) := flat_get (f := fun t => decC (T.dec ts t)) (fun _ => rfl) ts i t h
theorem tsC_snoc {ts : List T} (s : T.Seq ts) {v : Nat} {l h : T} (hl : T.isIn ts l) (hh : T.isIn ts h) : tsC (ts ++ [.nd v l h]) = tsC ts ++ decC (v, T.plc ts l, T.plc ts h) := by
  unfold tsC
  rw [List.flatMap_append]
  congr 1
  · rw [List.flatMap_def, List.flatMap_def]
    congr 1
    refine List.map_congr_left fun t ht => ?_
    obtain ⟨i, hi⟩ := List.mem_iff_getElem?.1 ht
    obtain ⟨v', l', h', e, _⟩ := s.2 i t hi
    rw [T.dec_app s (show T.isIn ts t by subst e; exact ht)]
  · simp [decC, T.dec, T.plc_app hl, T.plc_app hh]
def knS (ms : List T) (y u : Value) : Prop := ∃ t ∈ ms, y = decV (T.dec ms t) ∧ u = iv (T.plc ms t)
def IsMk (mb : Nat) (ms : List T) (qs : List PH) : Prop := ∃ A sv r M, qs = [A, sg mb (.cells #[sv, .map (some r)] 300 (0, 0)), M] ∧ Row A 181 3 sv ms.length (tsC ms) ∧ IsMap Tryz.prog M r 181 (knS ms) ∧ T.Seq ms
theorem sizeT : 1 < Tryz.prog.types.size := of_decide_eq_true (by kernel_rfl)
theorem un181 : Tryz.prog.underlying 181 = some (.struct #[⟨ "Var", 3, 0, false, "", "", 0⟩, ⟨ "Low", 3, 1, false, "", "", 8⟩, ⟨ "High", 3, 2, false, "", "", 16⟩]) := by kernel_rfl
theorem kt181 : Tryz.prog.keyTypeAt 3 181 = true := by kernel_rfl
theorem ti181 : Tryz.prog.tiled 3 181 = true := by kernel_rfl
theorem K181 : Maps.Keyed Tryz.prog 181 := by
  refine Maps.Keyed.of_law (deep_law (m := 3) (by omega) kt181 ti181 ?_)
  rw [un181]
theorem keyT181 : Tryz.prog.keyType 181 = true := by kernel_rfl
theorem cells181 : Tryz.prog.cellsOf 181 = 3 := by kernel_rfl
theorem cells3 : Tryz.prog.cellsOf 3 = 1 := by kernel_rfl
theorem wf64 {n : Nat} (h : n < 2 ^ 62) : (Lit.int .i64 n).wf = true := by
  have h1 : IntKind.min .i64 = -9223372036854775808 := by decide
  have h2 : IntKind.max .i64 = 9223372036854775807 := by decide
  simp only [Lit.wf, h1, h2, Bool.and_eq_true, decide_eq_true_eq]
  omega
theorem keyV3 {P : Program} {k t : TypeId} {a b c : Nat} (hk : P.underlying k = some (.struct #[⟨ "Var", t, 0, false, "", "", 0⟩, ⟨ "Low", t, 1, false, "", "", 8⟩, ⟨ "High", t, 2, false, "", "", 16⟩])) (h1 : P.keyType k = true) (h2 : P.cellsOf k = 3) (h3 : P.cellsOf t = 1) (h4 : P.underlying t = some (.int .i64)) (h5 : 1 < P.types.size)
    (ha : a < 2 ^ 62) (hb : b < 2 ^ 62) (hc : c < 2 ^ 62) : KeyV P k (decV (a, b, c)) := by
  obtain ⟨n, hn⟩ : ∃ n, P.types.size = n + 1 := ⟨P.types.size - 1, by omega⟩
  unfold KeyV keyOf
  rw [h1]
  simp [hk, Value.formed, decV, hn, Program.keyLits, h2, h3, h4, Value.cells, wf64 ha, wf64 hb, wf64 hc, iv]
theorem un3 : Tryz.prog.underlying 3 = some (.int .i64) := by kernel_rfl
theorem key181 {a b c : Nat} (ha : a < 2 ^ 62) (hb : b < 2 ^ 62) (hc : c < 2 ^ 62) : KeyV Tryz.prog 181 (decV (a, b, c)) := keyV3 (t := 3) un181 keyT181 cells181 cells3 un3 sizeT ha hb hc
end Go.Proofs.YtfaclfkpnmcmlaaGreatDoor
end
section
namespace Go.Proofs.YtfaclfkpnmcmlaaGreatDoor
open Go Go.Sx Dg
theorem mixed : Tryz.prog.follows .mixedOrders = true := by kernel_rfl
theorem goes125 : Goes Tryz.prog 125 := ⟨_, Tryz.func125, rfl, rfl⟩
theorem iv_inj {a b : Nat} (h : iv a = iv b) : a = b := by simp [iv] at h; omega
theorem decV_inj {a b : Nat × Nat × Nat} (h : decV a = decV b) : a = b := by
  obtain ⟨a1, a2, a3⟩ := a; obtain ⟨b1, b2, b3⟩ := b
  simp [decV, iv] at h
  obtain ⟨h1, h2, h3⟩ := h
  rw [Int.ofNat.inj h1, Int.ofNat.inj h2, Int.ofNat.inj h3]
theorem knS_node {ms : List T} (s : T.Seq ms) {i : Nat} {lo hi : T} (hl : T.isIn ms lo) (hh : T.isIn ms hi) {u : Value} : knS ms (decV (i, T.plc ms lo, T.plc ms hi)) u ↔ T.nd i lo hi ∈ ms ∧ u = iv (T.plc ms (.nd i lo hi)) := by
  constructor
  · rintro ⟨t, ht, e1, e2⟩
    obtain ⟨j, hj⟩ := List.mem_iff_getElem?.1 ht
    obtain ⟨v, l, h, rfl, _⟩ := s.2 j t hj
    have := decV_inj e1
    simp only [T.dec, Prod.mk.injEq] at this
    obtain ⟨rfl, b, c⟩ := this
    have kl := s.kids ht
    rw [T.plc_inj hl kl.1 b, T.plc_inj hh kl.2 c]
    exact ⟨ht, e2⟩
  · rintro ⟨a, b⟩; exact ⟨_, a, rfl, b⟩
theorem knS_snoc {ms : List T} (s : T.Seq ms) {i : Nat} {lo hi : T} (hl : T.isIn ms lo) (hh : T.isIn ms hi) (hn : T.nd i lo hi ∉ ms) (y u : Value) :
    knS (ms ++ [.nd i lo hi]) y u ↔ (y = decV (i, T.plc ms lo, T.plc ms hi) ∧ u = iv (ms.length + 2)) ∨ (y ≠ decV (i, T.plc ms lo, T.plc ms hi) ∧ knS ms y u) := by
  have isin : ∀ t ∈ ms, T.isIn ms t := fun t ht => by
    obtain ⟨j, hj⟩ := List.mem_iff_getElem?.1 ht
    obtain ⟨v, l, h, rfl, _⟩ := s.2 j t hj
    exact ht
  have new : T.dec (ms ++ [.nd i lo hi]) (.nd i lo hi) = (i, T.plc ms lo, T.plc ms hi) ∧ T.plc (ms ++ [.nd i lo hi]) (.nd i lo hi) = ms.length + 2 := by
    refine ⟨by simp [T.dec, T.plc_app hl, T.plc_app hh], ?_⟩
    simp only [T.plc]
    rw [List.idxOf_append, if_neg hn]
    simp
  unfold knS
  constructor
  · rintro ⟨t, ht, e1, e2⟩
    rcases List.mem_append.1 ht with h | h
    · rw [T.dec_app s (isin t h)] at e1; rw [T.plc_app (isin t h)] at e2
      refine .inr ⟨fun e => ?_, t, h, e1, e2⟩
      exact hn ((knS_node s hl hh (u := u)).1 ⟨t, h, e ▸ e1, e2⟩).1
    · simp at h; subst h
      rw [new.1] at e1; rw [new.2] at e2
      exact .inl ⟨e1, e2⟩
  · rintro (⟨e1, e2⟩ | ⟨_, t, h, e1, e2⟩)
    · exact ⟨_, List.mem_append_right _ (.head _), by rw [new.1]; exact e1, by rw [new.2]; exact e2⟩
    · exact ⟨t, List.mem_append_left _ h, by rw [T.dec_app s (isin t h)]; exact e1, by rw [T.plc_app (isin t h)]; exact e2⟩
theorem wrap64 {n : Nat} (h : n < 2 ^ 62) : IntKind.i64.wrap (n : Int) = (n : Int) := by
  have h1 : (n : Int) % (2 ^ 64 : Int) = n := Int.emod_eq_of_lt (by omega) (by omega)
  simp only [IntKind.wrap, show IntKind.bits .i64 = 64 from rfl, show IntKind.signed .i64 = true from rfl, h1]
  rw [if_neg]
  simp; omega
theorem node_c {mb : Nat} {ms : List T} {I : PH} {ps : List PH} (h : IsMk mb ms ps) {i : Nat} {lo hi : T} (hi24 : i < 24) (okl : lo.ok (i+1)) (okh : hi.ok (i+1)) (hl : T.isIn ms lo) (hh : T.isIn ms hi) (hlen : ms.length < 2 ^ 30) :
    DoesI Tryz.prog 125 #[pt mb, iv i, iv (T.plc ms lo), iv (T.plc ms hi)] I ps fun v I2 qs => ∃ us, IsMk mb (ms ++ us) qs ∧ us.length ≤ 1 ∧ T.isIn (ms ++ us) (T.mk i lo hi) ∧ v = iv (T.plc (ms ++ us) (T.mk i lo hi)) := by
  intro hd
  obtain ⟨A, sv, r, M, rfl, hA, hM, sq⟩ := h
  have pl := T.plc_lt hl
  have ph := T.plc_lt hh
  refine Does_of Tryz.func125 rfl (by simp [Tryz.ntmps125]) fun w0 => ?_
  simp only [Tryz.ntmps125, pt, iv]
  by_cases e : T.plc ms lo = T.plc ms hi
  · have e' := T.plc_inj hl hh e
    subst e'
    have h14 : ((T.plc ms lo : Int) == (T.plc ms lo : Int)) = true := by simp
    (refine RG ?_; simp only [go_sem, h14])
    refine R_ret_I rfl hd (r := [_]) rfl (PH.le_refl _) ⟨[], ?_, by simp, ?_, ?_⟩
    · rw [List.append_nil]; exact ⟨A, sv, r, M, rfl, hA, hM, sq⟩
    · rw [List.append_nil]; simp only [T.mk, if_true]; exact hl
    · simp [T.mk, retV, iv]
  · have hne : ¬ lo = hi := fun e2 => e (by rw [e2])
    have h14 : ((T.plc ms lo : Int) == (T.plc ms hi : Int)) = false := by simp; omega
    (refine RG ?_; simp only [go_sem, h14])
    refine R_drawn mixed [0, 1, 2, 3, 4, 5, 6, 7, 8, 9, 10] [3, 5] [] rfl rfl ?_
    (refine RD_go ?_; simp only [go_sem])
    refine RD_load (l := [_]) rfl rfl rfl rfl (cellsU hd (.tail _ (.tail _ (.head _))) (cells_sg (by simp) rfl)) (.inr ⟨ag298, rfl⟩) ?_
    (refine RD_go ?_; simp only [go_sem])
    have hMU := hM.atU hd (by simp)
    have hkey : KeyV Tryz.prog 181 (decV (i, T.plc ms lo, T.plc ms hi)) := key181 (by omega) (by omega) (by omega)
    by_cases hin : T.nd i lo hi ∈ ms
    · refine RD_lookup K181 hm298 ze3 (key := decV (i, T.plc ms lo, T.plc ms hi)) rfl rfl rfl rfl rfl hMU hkey (iv (T.plc ms (.nd i lo hi))) true (.inl ⟨rfl, (knS_node sq hl hh).2 ⟨hin, rfl⟩⟩) ?_
      (refine RD_go ?_; simp only [go_sem])
      refine RD_nil ?_
      (refine RG ?_; simp only [go_sem])
      refine R_ret_I rfl hd (r := [_]) rfl (PH.le_refl _) ⟨[], ?_, by simp, ?_, ?_⟩
      · rw [List.append_nil]; exact ⟨A, sv, r, M, rfl, hA, hM, sq⟩
      · rw [List.append_nil]; simp only [T.mk, if_neg hne]; exact hin
      · rw [List.append_nil]; simp only [T.mk, if_neg hne]; rfl
    · refine RD_lookup K181 hm298 ze3 (key := decV (i, T.plc ms lo, T.plc ms hi)) rfl rfl rfl rfl rfl hMU hkey (iv 0) false (.inr ⟨rfl, rfl, fun u hu => hin ((knS_node sq hl hh).1 hu).1⟩) ?_
      (refine RD_go ?_; simp only [go_sem])
      refine RD_nil ?_
      (refine RG ?_; simp only [go_sem])
      refine R_drawn mixed [0, 1, 2, 3, 4, 5, 6, 7, 8, 9, 10] [4] [6] rfl rfl ?_
      (refine RD_go ?_; simp only [go_sem])
      refine RD_load (l := [_]) rfl rfl rfl rfl (cellsU hd (.tail _ (.tail _ (.head _))) (cells_sg (by simp) rfl)) (.inr ⟨ag48, rfl⟩) ?_
      (refine RD_go ?_; simp only [go_sem])
      refine RD_buildSliceI hd sl48 rfl rfl rfl rfl rfl (by decide) fun b I2 hd2 hle2 hb => ?_
      refine RD_appendI (m := 1) hd2 sl48 hA rfl rfl rfl rfl rfl rfl (cellsU hd2 (.head _) (cells_at (l := decC (i, T.plc ms lo, T.plc ms hi)) hb (by simp [decC, flatP, Value.cells]) (by simp [decC, flatP, Value.cells, iv]))) rfl rfl (by omega) (by unfold maxLen; omega) fun v' I3 A3 hd3 hle3 hA3 => ?_
      obtain ⟨a3, c3, rfl⟩ := hA3.slice
      (refine RD_go ?_; simp only [go_sem])
      (refine RD_parts hd3 [1, 0, 2] rfl fun hd4 => ?_; simp only [Z4] at hd4 ⊢)
      refine RD_storeI hd4 rfl rfl rfl rfl rfl rfl sz48 (by simp) fun hd5 => ?_
      refine RD_nil ?_
      have hd6 : Dj [I3, sg mb (.cells #[.slice a3 (ms.length + 1) c3, .map (some r)] 300 (0, 0)), A3, M] := hd5
      show RC _ _ _ (U [I3, sg mb (.cells #[.slice a3 (ms.length + 1) c3, .map (some r)] 300 (0, 0)), A3, M])
      (refine RG ?_; simp only [go_sem])
      refine RC_load (l := [_]) rfl rfl rfl (cellsU hd6 (.tail _ (.head _)) (cells_sg (by simp) rfl)) (.inr ⟨ag48, rfl⟩) ?_
      have hw : IntKind.i64.wrap (((ms.length + 1 : Nat) : Int) + 1) = ((ms.length + 2 : Nat) : Int) := by
        have := wrap64 (n := ms.length + 2) (by omega)
        rw [← this]; congr 1
      (refine RG ?_; simp only [go_sem, hw])
      refine R_drawn mixed [0, 1, 2, 3, 4, 5, 6] [3] [] rfl rfl ?_
      (refine RD_go ?_; simp only [go_sem])
      refine RD_load (l := [_]) rfl rfl rfl rfl (cellsU hd6 (.tail _ (.head _)) (cells_sg (by simp) rfl)) (.inr ⟨ag298, rfl⟩) ?_
      (refine RD_go ?_; simp only [go_sem])
      (refine RD_parts hd6 [2, 0, 1] rfl fun hd7 => ?_; simp only [Z4] at hd7 ⊢)
      refine RD_updateI (by exact K181) (by exact hm298) (key := decV (i, T.plc ms lo, T.plc ms hi)) (v := iv (ms.length + 2)) hd7 rfl rfl rfl (.inl rfl) rfl rfl rfl hM hkey fun M2 hd8 hM2 => ?_
      refine RD_nil ?_
      (refine RG ?_; simp only [go_sem])
      (refine RC_parts hd8 [2, 1, 0] rfl fun hd9 => ?_; simp only [Z4] at hd9 ⊢)
      have hnd : (T.nd i lo hi).ok 0 := ⟨Nat.zero_le _, hi24, hne, okl, okh⟩
      have hpl : T.plc (ms ++ [.nd i lo hi]) (.nd i lo hi) = ms.length + 2 := by
        simp only [T.plc]; rw [List.idxOf_append, if_neg hin]; simp
      refine R_ret_I rfl hd9 (r := [_]) rfl (PH.le_trans hle2 hle3) ⟨[.nd i lo hi], ⟨A3, .slice a3 (ms.length + 1) c3, r, M2, rfl, hA3.xs (by simp) (tsC_snoc sq hl hh).symm, hM2.congr fun y u => knS_snoc sq hl hh hin y u, sq.snoc hnd hl hh hin⟩, by simp, ?_, ?_⟩
      · simp only [T.mk, if_neg hne]; show T.nd i lo hi ∈ _; simp
      · simp only [T.mk, if_neg hne, hpl]; rfl
end Go.Proofs.YtfaclfkpnmcmlaaGreatDoor
end
section
namespace Go.Proofs.YtfaclfkpnmcmlaaGreatDoor
open Go Go.Sx Dg
theorem newMaker_c (I : PH) : DoesI Tryz.prog 124 #[] I [] fun v I2 qs => ∃ mb, v = pt mb ∧ IsMk mb [] qs := by
  intro hd
  refine Does_of Tryz.func124 rfl (by simp [Tryz.ntmps124]) fun w0 => ?_
  simp only [Tryz.ntmps124]
  (refine RG ?_; simp only [go_sem])
  refine RC_makeMapI 181 hd rfl rfl fun r M hd2 hM => ?_
  (refine RG ?_; simp only [go_sem])
  refine RC_pubI 3 hd2 rfl fun mb hd3 => ?_
  refine RC_addno hd3 fun hd4 => ?_
  refine R_ret_I rfl hd4 (r := [_]) rfl (PH.le_refl _) ⟨mb, rfl, PH.no, .slice none 0 0, r, M, rfl, Row.nil _ _, hM.congr fun y u => ⟨fun ⟨t, h, _⟩ => (by simp at h), fun h => h.elim⟩, T.Seq.nil⟩
end Go.Proofs.YtfaclfkpnmcmlaaGreatDoor
end
section
namespace Go.Proofs.YtfaclfkpnmcmlaaGreatDoor
open Go Go.Sx Dg
def LstD (I : PH) (sl : Value) (ts : List T) : Prop := ∃ a c, sl = .slice a ts.length c ∧ (ts = [] ∨ ∃ b, a = some ⟨b, 0, none⟩ ∧ Cells I b 0 (tsC ts))
theorem LstD.le {I J : PH} {sl : Value} {ts : List T} (h : LstD I sl ts) (hle : I.le J) : LstD J sl ts := by
  obtain ⟨a, c, e, h⟩ := h
  exact ⟨a, c, e, h.imp id fun ⟨b, e1, e2⟩ => ⟨b, e1, e2.le hle⟩⟩
def RepD (I : PH) (v : Value) (t : T) : Prop := t.ok 0 ∧ ∃ sl, v = .agg #[sl, iv (T.plc (T.subs t) t)] ∧ LstD I sl (T.subs t)
theorem RepD.le {I J : PH} {v : Value} {t : T} (h : RepD I v t) (hle : I.le J) : RepD J v t := by
  obtain ⟨a, sl, e, h⟩ := h; exact ⟨a, sl, e, h.le hle⟩
theorem at_c {H : PH} {sl rv : Value} {ts : List T} {t : T} (hL : LstD H sl ts) (sq : T.Seq ts) (ht : T.isIn ts t) (hlen : ts.length < 2 ^ 40) :
    Does Tryz.prog 236 #[.agg #[sl, rv], iv (T.plc ts t)] H fun v H2 => v = decV (T.dec ts t) ∧ H2 = H := by
  obtain ⟨a, c, rfl, hc⟩ := hL
  refine Does_of Tryz.func236 rfl (by simp [Tryz.ntmps236]) fun w0 => ?_
  simp only [Tryz.ntmps236, iv]
  cases t with
  | lf b =>
    have h6 : decide (((T.plc ts (.lf b) : Nat) : Int) < 2) = true := by simp only [T.plc]; split <;> simp
    (refine RG ?_; simp only [go_sem, h6])
    refine R_ret (r := [.agg #[.int .i64 24, .int .i64 (T.plc ts (.lf b) : Nat), .int .i64 (T.plc ts (.lf b) : Nat)]]) (by (simp only [Tryz.results236, go_sem])) ⟨?_, rfl⟩
    simp only [retV, decV, T.dec, T.plc, iv]
    cases b <;> rfl
  | nd v l h =>
    have hm : T.nd v l h ∈ ts := ht
    have hi := List.idxOf_lt_length_of_mem hm
    have hp : T.plc ts (.nd v l h) = ts.idxOf (.nd v l h) + 2 := rfl
    have h6 : decide (((T.plc ts (.nd v l h) : Nat) : Int) < 2) = false := by rw [hp]; simp; omega
    have h13 : IntKind.i64.wrap (((T.plc ts (.nd v l h) : Nat) : Int) - 2) = ((ts.idxOf (.nd v l h) : Nat) : Int) := by
      rw [← wrap64 (n := ts.idxOf (.nd v l h)) (by omega), hp]; congr 1; omega
    rcases hc with rfl | ⟨b, rfl, hc⟩
    · simp at hm
    · (refine RG ?_; simp only [go_sem, h6, h13])
      refine ⟨⟨by omega, by omega⟩, ?_⟩
      have hg := T.plc_get hm
      rw [hp, Nat.add_sub_cancel] at hg
      have hlt : (tsC ts).length = ts.length * 3 := tsC_len ts
      have hcell := hc.sub (ts.idxOf (.nd v l h) * 3) 3 (by omega)
      rw [tsC_get hg, Nat.zero_add] at hcell
      refine RC_load (l := decC (T.dec ts (.nd v l h))) (v := decV (T.dec ts (.nd v l h))) rfl rfl rfl hcell (.inl ⟨ag181, rfl⟩) ?_
      (refine RG ?_; simp only [go_sem, decV, iv])
      refine R_ret (r := [decV (T.dec ts (.nd v l h))]) (by (simp only [Tryz.results236, go_sem, decV, iv])) ⟨rfl, rfl⟩
end Go.Proofs.YtfaclfkpnmcmlaaGreatDoor
end
section
namespace Go.Proofs.YtfaclfkpnmcmlaaGreatDoor
open Go Go.Sx Dg
theorem K3 : Maps.Keyed Tryz.prog 3 := Maps.int_keyed un3
theorem key3 {n : Nat} (h : n < 2 ^ 62) : KeyV Tryz.prog 3 (iv n) := ⟨_, Maps.keyOf_int_mk un3 (wf64 h)⟩
theorem goes189 : Goes Tryz.prog 189 := ⟨_, Tryz.func189, rfl, rfl⟩
def plS (ms us : List T) (y u : Value) : Prop := ∃ t, T.isIn ms t ∧ T.isIn us t ∧ y = iv (T.plc ms t) ∧ u = iv (T.plc us t)
theorem plS_iff {ms us : List T} {t : T} (ht : T.isIn ms t) {u : Value} : plS ms us (iv (T.plc ms t)) u ↔ T.isIn us t ∧ u = iv (T.plc us t) := by
  constructor
  · rintro ⟨t', h1, h2, h3, h4⟩
    have := T.plc_inj ht h1 (iv_inj h3)
    subst this; exact ⟨h2, h4⟩
  · rintro ⟨a, b⟩; exact ⟨t, ht, a, rfl, b⟩
theorem isIn_of_mem {us : List T} (s : T.Seq us) {t : T} (ht : t ∈ us) : T.isIn us t := by
  obtain ⟨j, hj⟩ := List.mem_iff_getElem?.1 ht
  obtain ⟨v, l, h, rfl, _⟩ := s.2 j t hj
  exact ht
theorem plc_new {us : List T} {v : Nat} {l h : T} (hn : T.nd v l h ∉ us) : T.plc (us ++ [.nd v l h]) (.nd v l h) = us.length + 2 := by
  simp only [T.plc]; rw [List.idxOf_append, if_neg hn]; simp
theorem isIn_snoc {us : List T} {v : Nat} {l h t : T} : T.isIn (us ++ [.nd v l h]) t ↔ T.isIn us t ∨ t = .nd v l h := by
  cases t with
  | lf b => simp [T.isIn]
  | nd v' l' h' => simp [T.isIn]
theorem plS_snoc {ms us : List T} {v : Nat} {l h : T} (hin : T.isIn ms (.nd v l h)) (hn : T.nd v l h ∉ us) (y u : Value) :
    plS ms (us ++ [.nd v l h]) y u ↔ (y = iv (T.plc ms (.nd v l h)) ∧ u = iv (us.length + 2)) ∨ (y ≠ iv (T.plc ms (.nd v l h)) ∧ plS ms us y u) := by
  constructor
  · rintro ⟨t, h1, h2, rfl, rfl⟩
    rcases isIn_snoc.1 h2 with h3 | rfl
    · refine .inr ⟨fun e => ?_, t, h1, h3, rfl, by rw [T.plc_app h3]⟩
      have := T.plc_inj h1 hin (iv_inj e)
      subst this; exact hn h3
    · exact .inl ⟨rfl, by rw [plc_new hn]⟩
  · rintro (⟨rfl, rfl⟩ | ⟨_, t, h1, h2, rfl, rfl⟩)
    · exact ⟨_, hin, isIn_snoc.2 (.inr rfl), rfl, by rw [plc_new hn]⟩
    · exact ⟨t, h1, isIn_snoc.2 (.inl h2), rfl, by rw [T.plc_app h2]⟩
def fnVis (pb tb vb ob : Nat) : Value := .func (.func 189) #[] #[pt pb, pt tb, pt vb, pt ob]
structure VisI (I : PH) (pb tb vb ob mb r : Nat) (ms : List T) : Prop where
  hp : I pb = some (.cells #[.map (some r)] 301 (0, 0))
  ht : I tb = some (.cells #[pt mb] 217 (0, 0))
  hv : I vb = some (.cells #[fnVis pb tb vb ob] 302 (0, 0))
  hm : ∃ slv m, I mb = some (.cells #[slv, m] 300 (0, 0)) ∧ LstD I slv ms
  sq : T.Seq ms
  len : ms.length < 2 ^ 30
theorem VisI.le {I J : PH} {pb tb vb ob mb r : Nat} {ms : List T} (h : VisI I pb tb vb ob mb r ms) (hle : I.le J) : VisI J pb tb vb ob mb r ms :=
  ⟨hle _ _ h.hp, hle _ _ h.ht, hle _ _ h.hv, let ⟨a, b, c, d⟩ := h.hm; ⟨a, b, hle _ _ c, d.le hle⟩, h.sq, h.len⟩
def VisP (ob r : Nat) (ms us : List T) (qs : List PH) : Prop := ∃ A sv M, qs = [A, sg ob (.cells #[sv] 48 (0, 0)), M] ∧ Row A 181 3 sv us.length (tsC us) ∧ IsMap Tryz.prog M r 3 (plS ms us) ∧ T.Seq us
theorem visit_c {pb tb vb ob mb r : Nat} {ms : List T} (t : T) : ∀ {k : Nat} {us : List T} {I : PH} {ps : List PH}, t.ok k → k ≤ 24 → T.isIn ms t → VisI I pb tb vb ob mb r ms → VisP ob r ms us ps → us.length + 2 ^ (24 - k) ≤ 2 ^ 30 →
    DoesI Tryz.prog 189 #[iv (T.plc ms t), pt pb, pt tb, pt vb, pt ob] I ps fun v I2 qs => VisP ob r ms (t.vis us) qs ∧ v = iv (T.plc (t.vis us) t) := by
  induction t with
  | lf x =>
    intro k us I ps hk hk24 hin hI hP hlen hd
    obtain ⟨A, sv, M, rfl, hA, hM, sq⟩ := hP
    refine Does_of Tryz.func189 rfl (by simp [Tryz.ntmps189]) fun w0 => ?_
    simp only [Tryz.ntmps189, pt, iv]
    (refine RG ?_; simp only [go_sem])
    refine RC_load (l := [_]) rfl rfl rfl (cellsU hd (.head _) (cells_at hI.hp (by simp) rfl)) (.inr ⟨ag301, rfl⟩) ?_
    (refine RG ?_; simp only [go_sem])
    refine RC_lookup (by exact K3) (by exact hm301) (by exact ze3) (key := iv (T.plc ms (.lf x))) rfl rfl rfl rfl (hM.atU hd (by simp)) (by exact key3 (by simp only [T.plc]; split <;> omega)) (iv (T.plc us (.lf x))) true (.inl ⟨rfl, (plS_iff hin).2 ⟨trivial, rfl⟩⟩) ?_
    (refine RG ?_; simp only [go_sem])
    exact R_ret_I rfl hd (r := [_]) rfl (PH.le_refl _) ⟨⟨A, sv, M, rfl, hA, hM, sq⟩, rfl⟩
  | nd v l h ihl ihh =>
    intro k us I ps hk hk24 hin hI hP hlen hd
    obtain ⟨A, sv, M, rfl, hA, hM, sq⟩ := hP
    have hpl := T.plc_lt hin
    have hml := hI.len
    have hkey : KeyV Tryz.prog 3 (iv (T.plc ms (.nd v l h))) := key3 (by omega)
    refine Does_of Tryz.func189 rfl (by simp [Tryz.ntmps189]) fun w0 => ?_
    simp only [Tryz.ntmps189, pt, iv]
    (refine RG ?_; simp only [go_sem])
    refine RC_load (l := [_]) rfl rfl rfl (cellsU hd (.head _) (cells_at hI.hp (by simp) rfl)) (.inr ⟨ag301, rfl⟩) ?_
    (refine RG ?_; simp only [go_sem])
    by_cases hmem : T.nd v l h ∈ us
    · refine RC_lookup (by exact K3) (by exact hm301) (by exact ze3) (key := iv (T.plc ms (.nd v l h))) rfl rfl rfl rfl (hM.atU hd (by simp)) (by exact hkey) (iv (T.plc us (.nd v l h))) true (.inl ⟨rfl, (plS_iff hin).2 ⟨hmem, rfl⟩⟩) ?_
      (refine RG ?_; simp only [go_sem])
      refine R_ret_I rfl hd (r := [_]) rfl (PH.le_refl _) ⟨?_, ?_⟩
      · simp only [T.vis, if_pos hmem]; exact ⟨A, sv, M, rfl, hA, hM, sq⟩
      · simp only [T.vis, if_pos hmem]; rfl
    · refine RC_lookup (by exact K3) (by exact hm301) (by exact ze3) (key := iv (T.plc ms (.nd v l h))) rfl rfl rfl rfl (hM.atU hd (by simp)) (by exact hkey) (iv 0) false (.inr ⟨rfl, rfl, fun u hu => hmem ((plS_iff hin).1 hu).1⟩) ?_
      (refine RG ?_; simp only [go_sem])
      refine RC_load (l := [_]) rfl rfl rfl (cellsU hd (.head _) (cells_at hI.ht (by simp) rfl)) (.inr ⟨ag217, rfl⟩) ?_
      (refine RG ?_; simp only [go_sem, pt])
      obtain ⟨slv, mm, hmb, am, cm, rfl, hLs⟩ := hI.hm
      refine RC_load (l := [_]) rfl rfl rfl (cellsU hd (.head _) (cells_at hmb (by simp) rfl)) (.inr ⟨ag48, rfl⟩) ?_
      have hm : T.nd v l h ∈ ms := hin
      have hi := List.idxOf_lt_length_of_mem hm
      have hp : T.plc ms (.nd v l h) = ms.idxOf (.nd v l h) + 2 := rfl
      have h13 : IntKind.i64.wrap (((T.plc ms (.nd v l h) : Nat) : Int) - 2) = ((ms.idxOf (.nd v l h) : Nat) : Int) := by
        rw [← wrap64 (n := ms.idxOf (.nd v l h)) (by omega), hp]; congr 1; omega
      rcases hLs with rfl | ⟨lb, rfl, hc⟩
      · simp at hm
      · (refine RG ?_; simp only [go_sem, h13])
        refine ⟨⟨by omega, by omega⟩, ?_⟩
        have hg := T.plc_get hm
        rw [hp, Nat.add_sub_cancel] at hg
        have hlt : (tsC ms).length = ms.length * 3 := tsC_len ms
        have hcell := hc.sub (ms.idxOf (.nd v l h) * 3) 3 (by omega)
        rw [tsC_get hg, Nat.zero_add] at hcell
        refine RC_load (l := decC (T.dec ms (.nd v l h))) (v := decV (T.dec ms (.nd v l h))) rfl rfl rfl (cellsU hd (.head _) hcell) (.inl ⟨ag181, rfl⟩) ?_
        (refine RG ?_; simp only [go_sem, decV, iv, T.dec])
        refine RC_load (l := [_]) rfl rfl rfl (cellsU hd (.head _) (cells_at hI.hv (by simp) rfl)) (.inr ⟨ag302, rfl⟩) ?_
        (refine RG ?_; simp only [go_sem, decV, iv, T.dec, fnVis])
        have okl := hk.2.2.2.1
        have okh := hk.2.2.2.2
        have hv24 := hk.2.1
        have hkv := hk.1
        have kin := hI.sq.kids hm
        have hp2 : 2 ^ (24 - (v + 1)) + 2 ^ (24 - (v + 1)) ≤ 2 ^ (24 - k) := by
          have : 2 ^ (24 - (v+1)) + 2 ^ (24 - (v+1)) = 2 ^ (24 - v) := by rw [show 24 - v = (24 - (v+1)) + 1 by omega, Nat.pow_succ]; omega
          rw [this]; exact Nat.pow_le_pow_right (by omega) (by omega)
        obtain ⟨s1, i1, us1, e1, n1, _⟩ := T.vis_spec l okl (by omega) us sq
        obtain ⟨s2, i2, us2, e2, n2, _⟩ := T.vis_spec h okh (by omega) _ s1
        have len1 : (l.vis us).length = us.length + us1.length := by rw [e1]; simp
        have len2 : (h.vis (l.vis us)).length = (l.vis us).length + us2.length := by rw [e2]; simp
        have hvis : (T.nd v l h).vis us = h.vis (l.vis us) ++ [.nd v l h] := by simp only [T.vis, if_neg hmem]
        have s3 : T.Seq ((T.nd v l h).vis us) := (T.vis_spec _ hk hk24 us sq).1
        have hnot : T.nd v l h ∉ h.vis (l.vis us) := by
          rw [hvis] at s3
          intro hc2
          exact (List.nodup_append.1 s3.1).2.2 _ hc2 _ (.head _) rfl
        have pl1 : T.plc (h.vis (l.vis us)) l = T.plc (l.vis us) l := by rw [e2]; exact T.plc_app i1
        have i1' : T.isIn (h.vis (l.vis us)) l := by rw [e2]; exact i1.app
        have b1 := T.plc_lt i1
        have b2 := T.plc_lt i2
        refine RC_callI hd [0, 1, 2] rfl rfl rfl rfl goes189 rfl (F := []) rfl (ihl okl (by omega) kin.1 hI ⟨A, sv, M, rfl, hA, hM, sq⟩ (by omega)) fun v1 I2 qs hd2 hle2 hps2 => ?_
        obtain ⟨⟨A2, sv2, M2, rfl, hA2, hM2, sq2⟩, rfl⟩ := hps2
        simp only [List.append_nil] at hd2 ⊢
        have hI2 := hI.le hle2
        (refine RG ?_; simp only [go_sem, iv])
        refine RC_load (l := [_]) rfl rfl rfl (cellsU hd2 (.head _) (cells_at hI2.hv (by simp) rfl)) (.inr ⟨ag302, rfl⟩) ?_
        (refine RG ?_; simp only [go_sem, iv, fnVis])
        refine RC_callI hd2 [0, 1, 2] rfl rfl rfl rfl goes189 rfl (F := []) rfl (ihh okh (by omega) kin.2 hI2 ⟨A2, sv2, M2, rfl, hA2, hM2, sq2⟩ (by omega)) fun v2 I3 qs hd3 hle3 hps3 => ?_
        obtain ⟨⟨A3, sv3, M3, rfl, hA3, hM3, sq3⟩, rfl⟩ := hps3
        simp only [List.append_nil] at hd3 ⊢
        have hI3 := hI2.le hle3
        (refine RG ?_; simp only [go_sem, iv])
        refine RC_load (l := [_]) rfl rfl rfl (cellsU hd3 (.tail _ (.tail _ (.head _))) (cells_sg (by simp) rfl)) (.inr ⟨ag48, rfl⟩) ?_
        (refine RG ?_; simp only [go_sem, iv])
        refine RC_buildSliceI hd3 (by exact sl48) rfl rfl rfl rfl rfl (by decide) fun nb I4 hd4 hle4 hnb => ?_
        (refine RG ?_; simp only [go_sem, iv])
        refine RC_appendI (m := 1) hd4 (by exact sl48) hA3 rfl rfl rfl rfl (cellsU hd4 (.head _) (cells_at (l := decC (v, T.plc (l.vis us) l, T.plc (h.vis (l.vis us)) h)) hnb (by simp [decC, flatP, Value.cells]) (by simp [decC, flatP, Value.cells, iv]))) rfl rfl (by omega) (by unfold maxLen; omega) fun v' I5 A5 hd5 hle5 hA5 => ?_
        obtain ⟨a5, c5, rfl⟩ := hA5.slice
        (refine RG ?_; simp only [go_sem, iv])
        (refine RC_parts hd5 [1, 0, 2] rfl fun hd6 => ?_; simp only [Z4] at hd6 ⊢)
        refine RC_storeI hd6 rfl rfl rfl rfl rfl (by exact sz48) (by simp) fun hd7 => ?_
        have hd8 : Dj [I5, sg ob (.cells #[.slice a5 ((h.vis (l.vis us)).length + 1) c5] 48 (0, 0)), A5, M3] := hd7
        show RC _ _ _ (U [I5, sg ob (.cells #[.slice a5 ((h.vis (l.vis us)).length + 1) c5] 48 (0, 0)), A5, M3])
        have hI5 := (hI3.le hle4).le hle5
        (refine RG ?_; simp only [go_sem, iv])
        refine RC_load (l := [_]) rfl rfl rfl (cellsU hd8 (.head _) (cells_at hI5.hp (by simp) rfl)) (.inr ⟨ag301, rfl⟩) ?_
        (refine RG ?_; simp only [go_sem, iv])
        refine RC_load (l := [_]) rfl rfl rfl (cellsU hd8 (.tail _ (.head _)) (cells_sg (by simp) rfl)) (.inr ⟨ag48, rfl⟩) ?_
        have hw : IntKind.i64.wrap ((((h.vis (l.vis us)).length + 1 : Nat) : Int) + 1) = (((h.vis (l.vis us)).length + 2 : Nat) : Int) := by
          have := wrap64 (n := (h.vis (l.vis us)).length + 2) (by omega)
          rw [← this]; congr 1
        (refine RG ?_; simp only [go_sem, iv, hw])
        (refine RC_parts hd8 [2, 0, 1] rfl fun hd9 => ?_; simp only [Z4] at hd9 ⊢)
        refine RC_updateI (by exact K3) (by exact hm301) (key := iv (T.plc ms (.nd v l h))) (v := iv ((h.vis (l.vis us)).length + 2)) hd9 rfl (.inl rfl) rfl rfl rfl hM3 (by exact hkey) fun M6 hd10 hM6 => ?_
        (refine RG ?_; simp only [go_sem, iv])
        refine RC_load (l := [_]) rfl rfl rfl (cellsU hd10 (.tail _ (.tail _ (.head _))) (cells_sg (by simp) rfl)) (.inr ⟨ag48, rfl⟩) ?_
        (refine RG ?_; simp only [go_sem, iv, hw])
        (refine RC_parts hd10 [2, 1, 0] rfl fun hd11 => ?_; simp only [Z4] at hd11 ⊢)
        refine R_ret_I rfl hd11 (r := [_]) rfl (PH.le_trans hle2 (PH.le_trans hle3 (PH.le_trans hle4 hle5))) ⟨?_, ?_⟩
        · refine ⟨A5, _, M6, rfl, hA5.xs (by rw [hvis]; simp) ?_, hM6.congr fun y u => by rw [hvis]; exact plS_snoc hin hnot y u, s3⟩
          rw [hvis, tsC_snoc s2 i1' i2, pl1]
        · rw [hvis, plc_new hnot]; rfl
end Go.Proofs.YtfaclfkpnmcmlaaGreatDoor
end
section
namespace Go.Proofs.YtfaclfkpnmcmlaaGreatDoor
open Go Go.Sx Dg
theorem goes124 : Goes Tryz.prog 124 := ⟨_, Tryz.func124, rfl, rfl⟩
theorem goes126 : Goes Tryz.prog 126 := ⟨_, Tryz.func126, rfl, rfl⟩
theorem Row.lst {A J : PH} {sv : Value} {ts : List T} (h : Row A 181 3 sv ts.length (tsC ts)) (hle : A.le J) : LstD J sv ts := by
  obtain ⟨a, c, e⟩ := h.slice
  rcases Nat.eq_zero_or_pos ts.length with hz | hp
  · subst e; exact ⟨a, c, rfl, .inl (List.length_eq_zero_iff.1 hz)⟩
  · obtain ⟨g, cap, e2, hc⟩ := h.1.cells hp
    exact ⟨_, cap, e2, .inr ⟨g, rfl, hc.le hle⟩⟩
theorem plS_nil {ms : List T} (y u : Value) : plS ms [] y u ↔ (y = iv 1 ∧ u = iv 1) ∨ (y ≠ iv 1 ∧ ((y = iv 0 ∧ u = iv 0) ∨ (y ≠ iv 0 ∧ False))) := by
  have h01 : iv 0 ≠ iv 1 := fun e => absurd (iv_inj e) (by omega)
  constructor
  · rintro ⟨t, h1, h2, rfl, rfl⟩
    cases t with
    | lf b => cases b
              · exact .inr ⟨h01, .inl ⟨rfl, rfl⟩⟩
              · exact .inl ⟨rfl, rfl⟩
    | nd v l h => exact absurd h2 (by simp [T.isIn])
  · rintro (⟨rfl, rfl⟩ | ⟨_, ⟨rfl, rfl⟩ | ⟨_, h⟩⟩)
    · exact ⟨.lf true, trivial, trivial, rfl, rfl⟩
    · exact ⟨.lf false, trivial, trivial, rfl, rfl⟩
    · exact h.elim
theorem done_c {mb : Nat} {ms : List T} {I : PH} {ps : List PH} {t : T} (h : IsMk mb ms ps) (ht : T.isIn ms t) (hok : t.ok 0) (hlen : ms.length < 2 ^ 29) :
    DoesI Tryz.prog 126 #[pt mb, iv (T.plc ms t)] I ps fun v I2 qs => qs = [] ∧ RepD I2 v t := by
  intro hd
  obtain ⟨A, sv, r, M, rfl, hA, hM, sq⟩ := h
  refine Does_of Tryz.func126 rfl (by simp [Tryz.ntmps126]) fun w0 => ?_
  simp only [Tryz.ntmps126, pt, iv]
  refine RC_freeze (c := .st _) hd fun I1 hd1 le1 leA => ?_
  refine RC_freeze (c := .st _) hd1 fun I2 hd2 le2 leB => ?_
  refine RC_freeze (c := .st _) hd2 fun I3 hd3 le3 leC => ?_
  (refine RG ?_; simp only [go_sem])
  refine RC_makeMapI 3 hd3 rfl rfl fun q M1 hd4 hM1 => ?_
  (refine RG ?_; simp only [go_sem])
  refine RC_updateI (by exact K3) (by exact hm301) (key := iv 0) (v := iv 0) hd4 rfl (.inr rfl) rfl rfl rfl hM1 (by exact key3 (by omega)) fun M2 hd5 hM2 => ?_
  (refine RG ?_; simp only [go_sem])
  refine RC_updateI (by exact K3) (by exact hm301) (key := iv 1) (v := iv 1) hd5 rfl (.inr rfl) rfl rfl rfl hM2 (by exact key3 (by omega)) fun M3 hd6 hM3 => ?_
  (refine RC_go 9 ?_; simp only [go_sem])
  refine RC_pubI 6 hd6 rfl fun pb hd7 => ?_
  refine RC_freeze hd7 fun I4 hd8 le4 lpb => ?_
  refine RC_pubI 2 hd8 rfl fun tb hd9 => ?_
  refine RC_freeze hd9 fun I5 hd10 le5 ltb => ?_
  refine RC_pubI 5 hd10 rfl fun ob hd11 => ?_
  refine RC_addno hd11 fun hd12 => ?_
  refine RC_pubI 7 hd12 rfl fun vb hd13 => ?_
  (refine RG ?_; simp only [go_sem, pubT, List.map])
  refine RC_storeI hd13 rfl rfl rfl rfl rfl (by exact sz302) (by simp) fun hd14 => ?_
  refine RC_freeze hd14 fun I6 hd15 le6 lvb => ?_
  have hvi : VisI I6 pb tb vb ob mb q ms := by
    refine ⟨le6 _ _ (le5 _ _ (lpb _ _ (sg_self _ _))), le6 _ _ (ltb _ _ (sg_self _ _)), lvb _ _ (sg_self _ _), ⟨sv, .map (some r), ?_, ?_⟩, sq, by omega⟩
    · exact le6 _ _ (le5 _ _ (le4 _ _ (le3 _ _ (leB _ _ (sg_self _ _)))))
    · exact Row.lst hA (PH.le_trans leA (PH.le_trans le2 (PH.le_trans le3 (PH.le_trans le4 (PH.le_trans le5 le6)))))
  (refine RG ?_; simp only [go_sem])
  refine RC_load (l := [_]) rfl rfl rfl (cellsU hd15 (.head _) (cells_at hvi.hv (by simp) rfl)) (.inr ⟨ag302, rfl⟩) ?_
  (refine RG ?_; simp only [go_sem, fnVis])
  have hvp : VisP ob q ms [] [PH.no, sg ob (.cells #[.slice none 0 0] 48 (0, 0)), M3] := ⟨PH.no, _, M3, rfl, Row.nil _ _, hM3.congr plS_nil, T.Seq.nil⟩
  refine RC_callI hd15 [0, 1, 2] rfl rfl rfl rfl goes189 rfl (F := []) rfl (visit_c t hok (by omega) ht hvi hvp (by decide)) fun v1 I7 qs hd16 hle7 hps => ?_
  obtain ⟨⟨A2, sv2, M4, rfl, hA2, hM4, sq2⟩, rfl⟩ := hps
  simp only [List.append_nil] at hd16 ⊢
  obtain ⟨sa, sc, rfl⟩ := hA2.slice
  (refine RG ?_; simp only [go_sem, iv])
  refine RC_load (l := [_]) rfl rfl rfl (cellsU hd16 (.tail _ (.tail _ (.head _))) (cells_sg (by simp) rfl)) (.inr ⟨ag48, rfl⟩) ?_
  (refine RG ?_; simp only [go_sem, iv])
  refine RC_freeze hd16 fun I8 hd17 le8 lA2 => ?_
  refine RC_freeze hd17 fun I9 hd18 le9 _ => ?_
  refine RC_freeze hd18 fun I10 hd19 le10 _ => ?_
  have lall : I.le I10 := PH.le_trans le1 (PH.le_trans le2 (PH.le_trans le3 (PH.le_trans le4 (PH.le_trans le5 (PH.le_trans le6 (PH.le_trans hle7 (PH.le_trans le8 (PH.le_trans le9 le10))))))))
  refine R_ret_I (r := [.agg #[.slice sa (t.vis []).length sc, iv (T.plc (t.vis []) t)]]) rfl hd19 (by (simp only [Tryz.results126, go_sem, iv])) lall ⟨rfl, hok, _, rfl, ?_⟩
  exact Row.lst hA2 (PH.le_trans lA2 (PH.le_trans le9 le10))
end Go.Proofs.YtfaclfkpnmcmlaaGreatDoor
end
section
namespace Go.Proofs.YtfaclfkpnmcmlaaGreatDoor
open Go Go.Sx Dg
theorem ieq (a b : Nat) : ((a : Int) == (b : Int)) = decide (a = b) := by
  by_cases h : a = b
  · subst h; simp
  · have : ¬ (a : Int) = b := by omega
    simp [h, this]
theorem ieq0 (a : Nat) : ((a : Int) == 0) = decide (a = 0) := ieq a 0
theorem ieq1 (a : Nat) : ((a : Int) == 1) = decide (a = 1) := ieq a 1
theorem plc0 {ts : List T} {t : T} : T.plc ts t = 0 ↔ t = .lf false := by
  cases t with
  | lf b => cases b <;> simp [T.plc]
  | nd v l h => simp [T.plc]
theorem plc1 {ts : List T} {t : T} : T.plc ts t = 1 ↔ t = .lf true := by
  cases t with
  | lf b => cases b <;> simp [T.plc]
  | nd v l h => simp [T.plc]
theorem empty_d {I H : PH} {v : Value} {t : T} (h : RepD I v t) : Does Tryz.prog 50 #[v] H fun v H2 => v = .bool (decide (t = .lf false)) ∧ H2 = H := by
  obtain ⟨hok, sl, rfl, hL⟩ := h
  obtain ⟨a, c, rfl, _⟩ := hL
  refine Does_of Tryz.func50 rfl (by simp [Tryz.ntmps50]) fun w0 => ?_
  simp only [Tryz.ntmps50, iv]
  (refine RG ?_; simp only [go_sem, ieq0])
  exact R_ret (r := [_]) rfl ⟨by simp [retV, plc0], rfl⟩
theorem full_d {I H : PH} {v : Value} {t : T} (h : RepD I v t) : Does Tryz.prog 68 #[v] H fun v H2 => v = .bool (decide (t = .lf true)) ∧ H2 = H := by
  obtain ⟨hok, sl, rfl, hL⟩ := h
  obtain ⟨a, c, rfl, _⟩ := hL
  refine Does_of Tryz.func68 rfl (by simp [Tryz.ntmps68]) fun w0 => ?_
  simp only [Tryz.ntmps68, iv]
  (refine RG ?_; simp only [go_sem, ieq1])
  exact R_ret (r := [_]) rfl ⟨by simp [retV, plc1], rfl⟩
theorem rep_lf (I : PH) (b : Bool) : RepD I (.agg #[.slice none 0 0, iv (if b then 1 else 0)]) (.lf b) := ⟨trivial, _, rfl, none, 0, rfl, .inl rfl⟩
theorem true_d (H : PH) : Does Tryz.prog 27 #[] H fun v H2 => v = .agg #[.slice none 0 0, iv 1] ∧ H2 = H := by
  refine Does_of Tryz.func27 rfl (by simp [Tryz.ntmps27]) fun w0 => ?_
  simp only [Tryz.ntmps27]
  (refine RG ?_; simp only [go_sem])
  exact R_ret (r := [.agg #[.slice none 0 0, iv 1]]) (by (simp only [Tryz.results27, go_sem, iv, Int.cast_ofNat_Int])) ⟨rfl, rfl⟩
theorem false_d (H : PH) : Does Tryz.prog 80 #[] H fun v H2 => v = .agg #[.slice none 0 0, iv 0] ∧ H2 = H := by
  refine Does_of Tryz.func80 rfl (by simp [Tryz.ntmps80]) fun w0 => ?_
  simp only [Tryz.ntmps80]
  (refine RG ?_; simp only [go_sem])
  exact R_ret (r := [.agg #[.slice none 0 0, iv 0]]) (by (simp only [Tryz.results80, go_sem, iv, Int.cast_ofNat_Int])) ⟨rfl, rfl⟩
def andS (x y : Nat) : Option Bool := if x = 0 ∨ y = 0 then some false else if x = 1 ∧ y = 1 then some true else none
def orS (x y : Nat) : Option Bool := if x = 1 ∨ y = 1 then some true else if x = 0 ∧ y = 0 then some false else none
def bn (b : Bool) : Nat := if b then 1 else 0
def OpD (f : FuncId) (S : Nat → Nat → Option Bool) : Prop := ∀ (x y : Nat) (H : PH), Does Tryz.prog f #[iv x, iv y] H fun v H2 => H2 = H ∧ ∃ r, v = .tuple #[iv r, .bool (S x y).isSome] ∧ ∀ b, S x y = some b → r = bn b
theorem either_d : OpD 97 orS := by
  intro x y H
  refine Does_of Tryz.func97 rfl (by simp [Tryz.ntmps97]) fun w0 => ?_
  simp only [Tryz.ntmps97, iv]
  have e1 : ((x : Int) == 1) = decide (x = 1) := ieq1 x
  cases h1 : decide (x = 1)
  · cases h2 : decide (y = 1)
    · cases h3 : decide (x = 0)
      · (refine RG ?_; simp only [go_sem, ieq1, ieq0, h1, h2, h3])
        refine R_ret (r := [_, _]) rfl ⟨rfl, 0, ?_, ?_⟩ <;> simp_all [retV, orS, iv]
      · (refine RG ?_; simp only [go_sem, ieq1, ieq0, h1, h2, h3])
        refine R_ret (r := [_, _]) rfl ⟨rfl, 0, ?_, ?_⟩
        · by_cases hy : y = 0 <;> simp_all [retV, orS, iv, bn]
        · intro b hb; simp_all [orS, bn]
    · (refine RG ?_; simp only [go_sem, ieq1, ieq0, h1, h2])
      refine R_ret (r := [_, _]) rfl ⟨rfl, 1, ?_, ?_⟩ <;> simp_all [retV, orS, iv, bn]
  · (refine RG ?_; simp only [go_sem, ieq1, ieq0, h1])
    refine R_ret (r := [_, _]) rfl ⟨rfl, 1, ?_, ?_⟩ <;> simp_all [retV, orS, iv, bn]
theorem min3a (x y : Nat) : minV (.int .i64 x) (.int .i64 y) = some (.int .i64 ((min x y : Nat) : Int)) := by
  simp only [minV, Option.some.injEq, Value.int.injEq, true_and]
  split <;> omega
theorem min3b (x : Nat) : minV (.int .i64 x) (.int .i64 1) = some (.int .i64 ((min x 1 : Nat) : Int)) := min3a x 1
theorem both_d : OpD 163 andS := by
  intro x y H
  refine Does_of Tryz.func163 rfl (by simp [Tryz.ntmps163]) fun w0 => ?_
  simp only [Tryz.ntmps163, iv]
  (refine RG ?_; simp only [go_sem, ieq1, ieq0])
  refine RC_read (iv (min (min x y) 1)) rfl rfl (fun w _ => ?_) ?_
  · simp only [execOp, resolve, cenv, ev, getT, invoke, builtin, Builtin.min_, Sem.run_bind]
    simp [Result.andThen, List.foldlM, resolve, cenv, ev, getT, invoke, builtin, Builtin.min_, -Nat.min_assoc]
    rw [run_minV (min3a x y)]
    simp only []
    rw [run_minV (min3b _)]
    simp [iv, Nat.min_assoc]
  cases h1 : decide (x = 0)
  · cases h2 : decide (y = 0)
    · cases h3 : decide (x = 1)
      · (refine RG ?_; simp only [go_sem, ieq1, ieq0, h1, h2, h3])
        refine R_ret (r := [_, _]) rfl ⟨rfl, min (min x y) 1, ?_, ?_⟩ <;> simp_all [retV, andS, iv]
      · (refine RG ?_; simp only [go_sem, ieq1, ieq0, h1, h2, h3])
        refine R_ret (r := [_, _]) rfl ⟨rfl, min (min x y) 1, ?_, ?_⟩
        · by_cases hy : y = 1 <;> simp_all [retV, andS, iv, bn]
        · intro b hb; simp_all [andS, bn]
    · (refine RG ?_; simp only [go_sem, ieq1, ieq0, h1, h2])
      (refine RG ?_; simp only [go_sem, ieq1, ieq0, h1, h2])
      refine R_ret (r := [_, _]) rfl ⟨rfl, min (min x y) 1, ?_, ?_⟩ <;> simp_all [retV, andS, iv, bn]
  · (refine RG ?_; simp only [go_sem, ieq1, ieq0, h1])
    (refine RG ?_; simp only [go_sem, ieq1, ieq0, h1])
    refine R_ret (r := [_, _]) rfl ⟨rfl, min (min x y) 1, ?_, ?_⟩ <;> simp_all [retV, andS, iv, bn]
end Go.Proofs.YtfaclfkpnmcmlaaGreatDoor
end
section
namespace Dg.T
open Dg
def opT (f : Bool → Bool → Bool) (s t : T) : T := op f 24 s t
theorem opT_ok {f : Bool → Bool → Bool} {s t : T} {k : Nat} (hs : s.ok k) (ht : t.ok k) (hk : k ≤ 24) : (opT f s t).ok k := (op_spec f 24 k s t (by omega) hk hs ht).1
theorem opT_at {f : Bool → Bool → Bool} {s t : T} (hs : s.ok 0) (ht : t.ok 0) (c : Cfg) : (opT f s t).at' c = f (s.at' c) (t.at' c) := (op_spec f 24 0 s t (by omega) (by omega) hs ht).2 c
theorem opT_rec {f : Bool → Bool → Bool} {s t : T} {i : Nat} (hs : s.ok 0) (ht : t.ok 0) (hi : i = min s.var t.var) (hlt : i < 24) : opT f s t = mk i (opT f (lo i s) (lo i t)) (opT f (T.hi i s) (T.hi i t)) := by
  have l1 := lo_ok hs (show i ≤ s.var by omega)
  have l2 := lo_ok ht (show i ≤ t.var by omega)
  have r1 := hi_ok hs (show i ≤ s.var by omega)
  have r2 := hi_ok ht (show i ≤ t.var by omega)
  refine ext (opT_ok hs ht (by omega)) (mk_ok (k := 0) (Nat.zero_le i) hlt (opT_ok l1 l2 (by omega)) (opT_ok r1 r2 (by omega))) fun c => ?_
  rw [opT_at hs ht, mk_at, opT_at (l1.mono (Nat.zero_le _)) (l2.mono (Nat.zero_le _)), opT_at (r1.mono (Nat.zero_le _)) (r2.mono (Nat.zero_le _)), at_split i s c, at_split i t c]
  split <;> rfl
theorem opT_lf {f : Bool → Bool → Bool} {s t : T} {b : Bool} (hs : s.ok 0) (ht : t.ok 0) (h : ∀ c, f (s.at' c) (t.at' c) = b) : opT f s t = lf b :=
  ext (opT_ok hs ht (by omega)) (show (lf b).ok 0 from trivial) fun c => by rw [opT_at hs ht, h]; rfl
theorem and_eq (s t : T) : and s t = opT (· && ·) s t := rfl
theorem or_eq (s t : T) : or s t = opT (· || ·) s t := rfl
theorem dec_var (ts : List T) (t : T) : (dec ts t).1 = t.var := by cases t <;> rfl
theorem dec_lo (ts : List T) (t : T) {i : Nat} (hi : i ≤ t.var) (h24 : i < 24) : (if (dec ts t).1 = i then (dec ts t).2.1 else plc ts t) = plc ts (lo i t) := by
  cases t with
  | lf b => have e : ¬ (24 = i) := by omega
            simp [dec, lo, e]
  | nd v l h => by_cases e : v = i <;> simp [dec, lo, e]
theorem dec_hi (ts : List T) (t : T) {i : Nat} (hi : i ≤ t.var) (h24 : i < 24) : (if (dec ts t).1 = i then (dec ts t).2.2 else plc ts t) = plc ts (T.hi i t) := by
  cases t with
  | lf b => have e : ¬ (24 = i) := by omega
            simp [dec, T.hi, e]
  | nd v l h => by_cases e : v = i <;> simp [dec, T.hi, e]
theorem isIn_lo {ts : List T} (s : Seq ts) {t : T} (h : isIn ts t) (i : Nat) : isIn ts (lo i t) := by
  cases t with
  | lf b => trivial
  | nd v l r => simp only [lo]; split
                · exact (s.kids h).1
                · exact h
theorem isIn_hi {ts : List T} (s : Seq ts) {t : T} (h : isIn ts t) (i : Nat) : isIn ts (T.hi i t) := by
  cases t with
  | lf b => trivial
  | nd v l r => simp only [T.hi]; split
                · exact (s.kids h).2
                · exact h
end Dg.T
end
section
namespace Go.Proofs.YtfaclfkpnmcmlaaGreatDoor
open Go Go.Sx Dg
theorem un335 : Tryz.prog.underlying 335 = some (.array 2 3) := by kernel_rfl
theorem kt335 : Tryz.prog.keyTypeAt 3 335 = true := by kernel_rfl
theorem ti335 : Tryz.prog.tiled 3 335 = true := by kernel_rfl
theorem K335 : Maps.Keyed Tryz.prog 335 := by
  refine Maps.Keyed.of_law (deep_law (m := 3) (by omega) kt335 ti335 ?_)
  rw [un335]
theorem keyT335 : Tryz.prog.keyType 335 = true := by kernel_rfl
theorem cells335 : Tryz.prog.cellsOf 335 = 2 := by kernel_rfl
def kV (x y : Nat) : Value := .agg #[iv x, iv y]
theorem keyV2 {P : Program} {k t : TypeId} {a b : Nat} (hk : P.underlying k = some (.array 2 t)) (h1 : P.keyType k = true) (h2 : P.cellsOf k = 2) (h3 : P.cellsOf t = 1) (h4 : P.underlying t = some (.int .i64)) (h5 : 1 < P.types.size)
    (ha : a < 2 ^ 62) (hb : b < 2 ^ 62) : KeyV P k (kV a b) := by
  obtain ⟨n, hn⟩ : ∃ n, P.types.size = n + 1 := ⟨P.types.size - 1, by omega⟩
  unfold KeyV keyOf
  rw [h1]
  simp [hk, Value.formed, kV, hn, Program.keyLits, h2, h3, h4, Value.cells, wf64 ha, wf64 hb, iv, List.range, List.range.loop]
theorem key335 {a b : Nat} (ha : a < 2 ^ 62) (hb : b < 2 ^ 62) : KeyV Tryz.prog 335 (kV a b) := keyV2 un335 keyT335 cells335 cells3 un3 sizeT ha hb
theorem kV_inj {a b c d : Nat} (h : kV a b = kV c d) : a = c ∧ b = d := by
  simp [kV, iv] at h
  exact ⟨Int.ofNat.inj h.1, Int.ofNat.inj h.2⟩
def snS (f : Bool → Bool → Bool) (ta tb ms : List T) (L : List (T × T)) (y u : Value) : Prop := ∃ s t, (s, t) ∈ L ∧ y = kV (T.plc ta s) (T.plc tb t) ∧ u = iv (T.plc ms (T.opT f s t))
def OkL (f : Bool → Bool → Bool) (ta tb ms : List T) (L : List (T × T)) : Prop := ∀ s t, (s, t) ∈ L → T.isIn ta s ∧ T.isIn tb t ∧ T.isIn ms (T.opT f s t)
theorem OkL.app {f : Bool → Bool → Bool} {ta tb ms us : List T} {L : List (T × T)} (h : OkL f ta tb ms L) : OkL f ta tb (ms ++ us) L := fun s t hm => ⟨(h s t hm).1, (h s t hm).2.1, (h s t hm).2.2.app⟩
theorem snS_app {f : Bool → Bool → Bool} {ta tb ms us : List T} {L : List (T × T)} (h : OkL f ta tb ms L) (y u : Value) : snS f ta tb (ms ++ us) L y u ↔ snS f ta tb ms L y u := by
  constructor
  · rintro ⟨s, t, hm, a, b⟩; exact ⟨s, t, hm, a, by rw [b, T.plc_app (h s t hm).2.2]⟩
  · rintro ⟨s, t, hm, a, b⟩; exact ⟨s, t, hm, a, by rw [b, T.plc_app (h s t hm).2.2]⟩
theorem snS_at {f : Bool → Bool → Bool} {ta tb ms : List T} {L : List (T × T)} (h : OkL f ta tb ms L) {s t : T} (hs : T.isIn ta s) (ht : T.isIn tb t) {u : Value} : snS f ta tb ms L (kV (T.plc ta s) (T.plc tb t)) u ↔ (s, t) ∈ L ∧ u = iv (T.plc ms (T.opT f s t)) := by
  constructor
  · rintro ⟨s', t', hm, a, b⟩
    obtain ⟨e1, e2⟩ := kV_inj a
    have h1 := T.plc_inj hs (h s' t' hm).1 e1
    have h2 := T.plc_inj ht (h s' t' hm).2.1 e2
    subst h1; subst h2; exact ⟨hm, b⟩
  · rintro ⟨a, b⟩; exact ⟨s, t, a, rfl, b⟩
theorem snS_snoc {f : Bool → Bool → Bool} {ta tb ms : List T} {L : List (T × T)} (h : OkL f ta tb ms L) {s t : T} (hs : T.isIn ta s) (ht : T.isIn tb t) (y u : Value) :
    snS f ta tb ms ((s, t) :: L) y u ↔ (y = kV (T.plc ta s) (T.plc tb t) ∧ u = iv (T.plc ms (T.opT f s t))) ∨ (y ≠ kV (T.plc ta s) (T.plc tb t) ∧ snS f ta tb ms L y u) := by
  constructor
  · rintro ⟨s', t', hm, rfl, rfl⟩
    rcases List.mem_cons.1 hm with e | hm'
    · cases e; exact .inl ⟨rfl, rfl⟩
    · by_cases e : kV (T.plc ta s') (T.plc tb t') = kV (T.plc ta s) (T.plc tb t)
      · obtain ⟨e1, e2⟩ := kV_inj e
        have h1 := T.plc_inj (h s' t' hm').1 hs e1
        have h2 := T.plc_inj (h s' t' hm').2.1 ht e2
        subst h1; subst h2; exact .inl ⟨rfl, rfl⟩
      · exact .inr ⟨e, s', t', hm', rfl, rfl⟩
  · rintro (⟨rfl, rfl⟩ | ⟨_, s', t', hm, rfl, rfl⟩)
    · exact ⟨s, t, .head _, rfl, rfl⟩
    · exact ⟨s', t', .tail _ hm, rfl, rfl⟩
structure JoinI (I : PH) (pb mb q : Nat) (sla ra slb rb : Value) (ta tb : List T) : Prop where
  hp : I pb = some (.cells #[pt mb, sla, ra, slb, rb, .map (some q)] 262 (0, 0))
  ha : LstD I sla ta
  hb : LstD I slb tb
  sa : T.Seq ta
  sb : T.Seq tb
  la : ta.length < 2 ^ 30
  lb : tb.length < 2 ^ 30
theorem JoinI.le {I J : PH} {pb mb q : Nat} {sla ra slb rb : Value} {ta tb : List T} (h : JoinI I pb mb q sla ra slb rb ta tb) (hle : I.le J) : JoinI J pb mb q sla ra slb rb ta tb :=
  ⟨hle _ _ h.hp, h.ha.le hle, h.hb.le hle, h.sa, h.sb, h.la, h.lb⟩
def JoinP (f : Bool → Bool → Bool) (mb q : Nat) (ta tb ms : List T) (L : List (T × T)) (qs : List PH) : Prop := ∃ mk N, qs = mk ++ [N] ∧ IsMk mb ms mk ∧ IsMap Tryz.prog N q 335 (snS f ta tb ms L) ∧ OkL f ta tb ms L
structure Short (S : Nat → Nat → Option Bool) (f : Bool → Bool → Bool) : Prop where
  yes : ∀ {ta tb : List T} {s t : T} {b : Bool}, S (T.plc ta s) (T.plc tb t) = some b → ∀ c, f (s.at' c) (t.at' c) = b
  no : ∀ {x y : Nat}, S x y = none → ¬ (x < 2 ∧ y < 2)
theorem short_and : Short andS (· && ·) := by
  refine ⟨fun {ta tb s t b} h c => ?_, fun {x y} h => ?_⟩
  · unfold andS at h
    split at h
    · rename_i h0
      cases h
      rcases h0 with h0 | h0
      · rw [plc0.1 h0]; rfl
      · rw [plc0.1 h0]; simp [T.at']
    · split at h
      · rename_i h1; cases h; rw [plc1.1 h1.1, plc1.1 h1.2]; rfl
      · cases h
  · unfold andS at h; split at h
    · cases h
    · split at h
      · cases h
      · omega
theorem short_or : Short orS (· || ·) := by
  refine ⟨fun {ta tb s t b} h c => ?_, fun {x y} h => ?_⟩
  · unfold orS at h
    split at h
    · rename_i h0
      cases h
      rcases h0 with h0 | h0
      · rw [plc1.1 h0]; rfl
      · rw [plc1.1 h0]; simp [T.at']
    · split at h
      · rename_i h1; cases h; rw [plc0.1 h1.1, plc0.1 h1.2]; rfl
      · cases h
  · unfold orS at h; split at h
    · cases h
    · split at h
      · cases h
      · omega
end Go.Proofs.YtfaclfkpnmcmlaaGreatDoor
end
