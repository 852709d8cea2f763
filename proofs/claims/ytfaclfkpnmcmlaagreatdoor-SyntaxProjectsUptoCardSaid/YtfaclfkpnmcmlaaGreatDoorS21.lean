/- Proved: for all lists of items, all lists of cubes and all configurations, of bulk at most 1048576 in all, the law SyntaxProjects answers true and leaves its arguments as they were. Condition: the six package variables that the row lists hold what they hold when the program starts. -/
import Derived.Test.YtfaclfkpnmcmlaaGreatDoorS16
import Derived.Test.YtfaclfkpnmcmlaaGreatDoorS17
import Derived.Test.YtfaclfkpnmcmlaaGreatDoorS18
import Derived.Test.YtfaclfkpnmcmlaaGreatDoorS19
import Derived.Test.YtfaclfkpnmcmlaaGreatDoorS20
set_option maxHeartbeats 8000000
set_option linter.all false
namespace Go.Proofs.YtfaclfkpnmcmlaaGreatDoor
open Go Go.Sx Dg Syn
theorem n7{a b:Bool}(h:a=true)(k:b=true):(a && b)=true:=by rw[h,k];rfl
set_option maxRecDepth 100000 in
theorem Qb:joinedFacts Tryz.prog 7 Tryz.f7 (OpenSpec.bare (Rows.OpenSpec.upto Rows.syntaxProjectsSpec)) Rows.syntaxProjectsUptoRow=true:=by
 unfold joinedFacts;exact(n7 (n7 (n7 (n7 (n7 (n7 (n7 (n7 (n7 (n7 (n7 (n7 (n7 (n7 (n7 (n7 (n7 (n7 (n7 (n7 (n7 (n7 (n7 (n7 (n7 (n7 (n7 (n7 (n7 (n7 (n7 R5 RS) RY) Ru) Rv) R2) RE) R3) RT) RP) Qs) Qe) Qv) P4) QH) PW) QA) QM) P2) PO) QB) P0) PE) Qo) Qt) Qf) PD) Qi) Pz) QE) P9) PF)
theorem Re:Tryz.f7.isWrapper Tryz.prog Rows.syntaxProjectsUptoRow.wrapper Rows.syntaxProjectsUptoRow.mainSum:=by
 unfold Func.isWrapper
 first|(rw[SI (by decide +kernel)];kernel_rfl)|(rw[Sb (by decide +kernel)];exact⟨rfl,rfl⟩)
theorem tZ:Rows.SyntaxProjectsUptoSaid:=
 OpenClaim.holds_of_cond 7 Tryz.f7 rfl rfl rfl rfl rfl rfl rfl ⟨rfl,rfl,rfl,rfl,rfl⟩ rfl rfl rfl rfl rfl QY Tryz.func7 Qb RK Re
  (fun os started H enc _ F=>by rw[OpenClaim.pre_eq_preRow];exact qQ os started H enc F)
theorem syntaxProjects_card:Rows.SyntaxProjectsUptoCardSaid:=
 Claim7.holds_tied_plain_at .later [] [.data,.data,.data,.sentinel,.sentinel,.data] true (true,"fb6f3cea10b2bce7ccd9e68c58951443a6981fe33c0f78952a9ec7f837153f3e") true
  tZ (fun _ h=>by cases h) Ry (fun _ h=>by cases h) syntaxProjectsUpto_row_tie rfl ⟨rfl,rfl⟩ RQ rfl
  (fun f fn hf aa=>by
   obtain rfl:f=7:=(Tk (QY.symm.trans hf)).symm;obtain rfl:fn=Tryz.f7:=(Tk (Tryz.func7.symm.trans aa)).symm;exact⟨R6,fun j t ht=>by
    rw[Tryz.params7]at ht;have hm:t∈[22,46,23]:=by simpa using Array.mem_of_getElem? ht
    exact(show Tryz.prog.wantsStandIn t=false by simpa using List.all_eq_true.1 RM t hm)⟩)
  Rd
end Go.Proofs.YtfaclfkpnmcmlaaGreatDoor
