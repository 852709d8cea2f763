/- Proved: for all lists of items, all configurations and all further lists of items, of bulk at most 1048576 in all, the law SyntaxFirst answers true and leaves its arguments as they were. Condition: the six package variables that the row lists hold what they hold when the program starts. -/
import Derived.Test.YtfaclfkpnmcmlaaGreatDoorS22
import Derived.Test.YtfaclfkpnmcmlaaGreatDoorS23
import Derived.Test.YtfaclfkpnmcmlaaGreatDoorS24
import Derived.Test.YtfaclfkpnmcmlaaGreatDoorS25
import Derived.Test.YtfaclfkpnmcmlaaGreatDoorS26
set_option maxHeartbeats 8000000
set_option linter.all false
namespace Go.Proofs.YtfaclfkpnmcmlaaGreatDoor
open Go Go.Sx Dg Syn
theorem n7{a b:Bool}(h:a=true)(k:b=true):(a && b)=true:=by rw[h,k];rfl
set_option maxRecDepth 100000 in
theorem Qb:joinedFacts Tryz.prog 8 Tryz.f8 (OpenSpec.bare (Rows.OpenSpec.upto Rows.syntaxFirstSpec)) Rows.syntaxFirstUptoRow=true:=by
 unfold joinedFacts;exact(n7 (n7 (n7 (n7 (n7 (n7 (n7 (n7 (n7 (n7 (n7 (n7 (n7 (n7 (n7 (n7 (n7 (n7 (n7 (n7 (n7 (n7 (n7 (n7 (n7 (n7 (n7 (n7 (n7 (n7 (n7 R5 RS) RY) Ru) Rv) R2) RE) R3) RT) RP) Qs) Qe) Qv) P4) QH) PW) QA) QM) P2) PO) QB) P0) PE) Qo) Qt) Qf) PD) Qi) Pz) QE) P9) PF)
theorem Re:Tryz.f8.isWrapper Tryz.prog Rows.syntaxFirstUptoRow.wrapper Rows.syntaxFirstUptoRow.mainSum:=by
 unfold Func.isWrapper
 first|(rw[SI (by decide +kernel)];kernel_rfl)|(rw[Sb (by decide +kernel)];exact⟨rfl,rfl⟩)
theorem U8:Rows.SyntaxFirstUptoSaid:=
 OpenClaim.holds_of_cond 8 Tryz.f8 rfl rfl rfl rfl rfl rfl rfl ⟨rfl,rfl,rfl,rfl,rfl⟩ rfl rfl rfl rfl rfl QY Tryz.func8 Qb RK Re
  (fun os started H enc _ F=>by rw[OpenClaim.pre_eq_preRow];exact UX os started H enc F)
theorem syntaxFirst_card:Rows.SyntaxFirstUptoCardSaid:=
 Claim7.holds_tied_plain_at .later [] [.data,.data,.data,.sentinel,.sentinel,.data] true (true,"fb6f3cea10b2bce7ccd9e68c58951443a6981fe33c0f78952a9ec7f837153f3e") true
  U8 (fun _ h=>by cases h) Ry (fun _ h=>by cases h) syntaxFirstUpto_row_tie rfl ⟨rfl,rfl⟩ RQ rfl
  (fun f fn hf aa=>by
   obtain rfl:f=8:=(Tk (QY.symm.trans hf)).symm;obtain rfl:fn=Tryz.f8:=(Tk (Tryz.func8.symm.trans aa)).symm;exact⟨R6,fun j t ht=>by
    rw[Tryz.params8]at ht;have hm:t∈[22,23,22]:=by simpa using Array.mem_of_getElem? ht
    exact(show Tryz.prog.wantsStandIn t=false by simpa using List.all_eq_true.1 RM t hm)⟩)
  Rd
end Go.Proofs.YtfaclfkpnmcmlaaGreatDoor
