/- Proved: for any two stems and any path, of bulk at most 1048576 in all, the law SyntaxWalks answers true and leaves its arguments as they were. Condition: the six package variables that the row lists hold what they hold when the program starts. -/
import Derived.Test.YtfaclfkpnmcmlaaGreatDoorW13
import Derived.Test.YtfaclfkpnmcmlaaGreatDoorW14
import Derived.Test.YtfaclfkpnmcmlaaGreatDoorW15
import Derived.Test.YtfaclfkpnmcmlaaGreatDoorW16
import Derived.Test.YtfaclfkpnmcmlaaGreatDoorW17
set_option maxHeartbeats 20000000
set_option linter.all false
section
namespace Go.Proofs.YtfaclfkpnmcmlaaGreatDoor
open Go Go.Sx Dg Syn
theorem jAn {a b : Bool} (h : a = true) (k : b = true) : (a && b) = true := by rw [h, k]; rfl
set_option maxRecDepth 100000 in
theorem jAll : joinedFacts Tryz.prog 10 Tryz.f10 (OpenSpec.bare (Rows.OpenSpec.upto Rows.syntaxWalksSpec)) Rows.syntaxWalksUptoRow = true := by
  unfold joinedFacts
  exact (jAn (jAn (jAn (jAn (jAn (jAn (jAn (jAn (jAn (jAn (jAn (jAn (jAn (jAn (jAn (jAn (jAn (jAn (jAn (jAn (jAn (jAn (jAn (jAn (jAn (jAn (jAn (jAn (jAn (jAn (jAn jF0 jF1) jF2) jF3) jF4) jF5) jF6) jF7) jF8) jF9) jF10) jF11) jF12) jF13) jF14) jF15) jF16) jF17) jF18) jF19) jF20) jF21) jF22) jF23) jF24) jF25) jF26) jF27) jF28) jF29) jF30) jF31)
theorem jWr : Tryz.f10.isWrapper Tryz.prog Rows.syntaxWalksUptoRow.wrapper Rows.syntaxWalksUptoRow.mainSum := by
  unfold Func.isWrapper
  first | (rw [if_pos (by decide +kernel)]; kernel_rfl) | (rw [if_neg (by decide +kernel)]; exact ⟨rfl, rfl⟩)
theorem walks_holds : Rows.SyntaxWalksUptoSaid :=
  OpenClaim.holds_of_cond 10 Tryz.f10 rfl rfl rfl rfl rfl rfl rfl ⟨rfl, rfl, rfl, rfl, rfl⟩ rfl rfl rfl rfl rfl jC3 Tryz.func10 jAll jC7 jWr
    (fun os started H enc _ F => by rw [OpenClaim.pre_eq_preRow]; exact walks_lifted os started H enc F)
theorem syntaxWalks_card : Rows.SyntaxWalksUptoCardSaid :=
  Claim7.holds_tied_plain_at .later [] [.data, .data, .data, .sentinel, .sentinel, .data] true (true, "fb6f3cea10b2bce7ccd9e68c58951443a6981fe33c0f78952a9ec7f837153f3e") true
    walks_holds (fun _ h => by cases h) jC1 (fun _ h => by cases h) syntaxWalksUpto_row_tie rfl ⟨rfl, rfl⟩ jC2 rfl
    (fun f fn hf hfn => by
      obtain rfl : f = 10 := (Option.some.inj (jC3.symm.trans hf)).symm
      obtain rfl : fn = Tryz.f10 := (Option.some.inj (Tryz.func10.symm.trans hfn)).symm
      exact ⟨jC4, fun j t ht => by
        rw [Tryz.params10] at ht
        have hm : t ∈ [94, 94, 81] := by simpa using Array.mem_of_getElem? ht
        exact (show Tryz.prog.wantsStandIn t = false by simpa using List.all_eq_true.1 jC5 t hm)⟩)
    jC6
end Go.Proofs.YtfaclfkpnmcmlaaGreatDoor
end
