/- Proved: for all lists of items and all configurations, of bulk at most 1048576 in all, the law SyntaxPlain answers true and leaves its arguments as they were. Condition: the six package variables that the row lists hold what they hold when the program starts. -/
import Derived.Test.YtfaclfkpnmcmlaaGreatDoorT27
import Derived.Test.YtfaclfkpnmcmlaaGreatDoorT28
import Derived.Test.YtfaclfkpnmcmlaaGreatDoorT29
import Derived.Test.YtfaclfkpnmcmlaaGreatDoorT30
import Derived.Test.YtfaclfkpnmcmlaaGreatDoorT31
set_option maxHeartbeats 8000000
set_option linter.all false
namespace Go.Proofs.YtfaclfkpnmcmlaaGreatDoor
open Go Go.Sx Dg Syn
def rG{a b:Bool}(h:a=true)(k:b=true):(a && b)=true:=by rw[h,k];rfl
set_option maxRecDepth 100000 in
theorem Yc:joinedFacts Tryz.prog 3 Tryz.f3 (OpenSpec.bare (Rows.OpenSpec.upto Rows.syntaxPlainSpec)) Rows.syntaxPlainUptoRow=true:=by
 unfold joinedFacts;exact(rG (rG (rG (rG (rG (rG (rG (rG (rG (rG (rG (rG (rG (rG (rG (rG (rG (rG (rG (rG (rG (rG (rG (rG (rG (rG (rG (rG (rG (rG (rG ZQ ZA) ZI) Zn) ZL) Zu) YQ) Zo) ZN) Y5) XX) Yj) Xh) Yd) XC) X4) XI) X2) XQ) Xg) X6) Xu) XG) XS) Xj) Xq) Yn) Yi) X0) X9) XR) XD)
def YZ:Tryz.f3.isWrapper Tryz.prog Rows.syntaxPlainUptoRow.wrapper Rows.syntaxPlainUptoRow.mainSum:=by
 unfold Func.isWrapper
 first|(rw[aaq (by decide +kernel)];kernel_rfl)|(rw[ZV (by decide +kernel)];exact⟨rfl,rfl⟩)
def Cm:Rows.SyntaxPlainUptoSaid:=
 OpenClaim.holds_of_cond 3 Tryz.f3 rfl rfl rfl rfl rfl rfl rfl ⟨rfl,rfl,rfl,rfl,rfl⟩ rfl rfl rfl rfl rfl YL Tryz.func3 Yc ZF YZ
  (fun os started H enc _ F=>by rw[OpenClaim.pre_eq_preRow];exact Au os started H enc F)
theorem syntaxPlain_card:Rows.SyntaxPlainUptoCardSaid:=
 Claim7.holds_tied_plain_at .later [] [.data,.data,.data,.sentinel,.sentinel,.data] true (true,"fb6f3cea10b2bce7ccd9e68c58951443a6981fe33c0f78952a9ec7f837153f3e") true
  Cm (fun _ h=>by cases h) Za (fun _ h=>by cases h) syntaxPlainUpto_row_tie rfl ⟨rfl,rfl⟩ Y7 rfl
  (fun f fn hf aa=>by
   obtain rfl:f=3:=(aaZ (YL.symm.trans hf)).symm;obtain rfl:fn=Tryz.f3:=(aaZ (Tryz.func3.symm.trans aa)).symm;exact⟨Y3,fun j t ht=>by
    rw[Tryz.params3]at ht;have hm:t∈[22,23]:=by simpa using Array.mem_of_getElem? ht
    exact(show Tryz.prog.wantsStandIn t=false by simpa using List.all_eq_true.1 Ze t hm)⟩)
  Zb
end Go.Proofs.YtfaclfkpnmcmlaaGreatDoor
