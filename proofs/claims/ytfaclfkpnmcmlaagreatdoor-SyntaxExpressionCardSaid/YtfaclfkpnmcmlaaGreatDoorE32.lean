/- Proved: for every line the law SyntaxExpression answers true and leaves its argument as it was. Condition: the six package variables that the row lists hold what they hold when the program starts. -/
import Derived.Test.YtfaclfkpnmcmlaaGreatDoorE27
import Derived.Test.YtfaclfkpnmcmlaaGreatDoorE28
import Derived.Test.YtfaclfkpnmcmlaaGreatDoorE29
import Derived.Test.YtfaclfkpnmcmlaaGreatDoorE30
import Derived.Test.YtfaclfkpnmcmlaaGreatDoorE31
set_option maxHeartbeats 8000000
set_option linter.all false
namespace Go.Proofs.YtfaclfkpnmcmlaaGreatDoor
open Go Go.Sx Dg Syn
def rG{a b:Bool}(h:a=true)(k:b=true):(a && b)=true:=by rw[h,k];rfl
set_option maxRecDepth 100000 in
theorem Yc:joinedFacts Tryz.prog 6 Tryz.f6 (OpenSpec.bare (OpenSpec.ofChange Rows.syntaxExpressionSpec)) Rows.syntaxExpressionRow=true:=by
 unfold joinedFacts;exact(rG (rG (rG (rG (rG (rG (rG (rG (rG (rG (rG (rG (rG (rG (rG (rG (rG (rG (rG (rG (rG (rG (rG (rG (rG (rG (rG (rG (rG (rG (rG ZQ ZA) ZI) Zn) ZL) Zu) YQ) Zo) ZN) Y5) XX) Yj) Xh) Yd) XC) X4) XI) X2) XQ) Xg) X6) Xu) XG) XS) Xj) Xq) Yn) Yi) X0) X9) XR) XD)
def YZ:Tryz.f6.isWrapper Tryz.prog Rows.syntaxExpressionRow.wrapper Rows.syntaxExpressionRow.mainSum:=by
 unfold Func.isWrapper
 first|(rw[aaq (by decide +kernel)];kernel_rfl)|(rw[ZV (by decide +kernel)];exact⟨rfl,rfl⟩)
def zb:Rows.SyntaxExpressionSaid:=
 OpenClaim.holds_of_cond 6 Tryz.f6 rfl rfl rfl rfl rfl rfl rfl ⟨rfl,rfl,rfl,rfl,rfl⟩ rfl rfl rfl rfl rfl YL Tryz.func6 Yc ZF YZ
  (fun os started H enc _ F=>by rw[OpenClaim.pre_eq_preRow];exact xD os started H enc F)
theorem syntaxExpression_card:Rows.SyntaxExpressionCardSaid:=
 Claim7.holds_tied_plain_at .later [] [.data,.data,.data,.sentinel,.sentinel,.data] true (true,"fb6f3cea10b2bce7ccd9e68c58951443a6981fe33c0f78952a9ec7f837153f3e") true
  zb (fun _ h=>by cases h) Za (fun _ h=>by cases h) syntaxExpression_row_tie rfl ⟨rfl,rfl⟩ Y7 rfl
  (fun f fn hf aa=>by
   obtain rfl:f=6:=(aaZ (YL.symm.trans hf)).symm;obtain rfl:fn=Tryz.f6:=(aaZ (Tryz.func6.symm.trans aa)).symm;exact⟨Y3,fun j t ht=>by
    rw[Tryz.params6]at ht;have hm:t∈[9]:=by simpa using Array.mem_of_getElem? ht
    exact(show Tryz.prog.wantsStandIn t=false by simpa using List.all_eq_true.1 Ze t hm)⟩)
  Zb
end Go.Proofs.YtfaclfkpnmcmlaaGreatDoor
