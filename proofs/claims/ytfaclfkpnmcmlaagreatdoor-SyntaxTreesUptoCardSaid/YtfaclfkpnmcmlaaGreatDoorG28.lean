/- Proved: for any list of stems, any cubes and any configuration, of bulk at most 1048576 in all, the law SyntaxTrees answers true and leaves its arguments as they were. Condition: the six package variables that the row lists hold what they hold when the program starts. -/
import Derived.Test.YtfaclfkpnmcmlaaGreatDoorG00
import Derived.Test.YtfaclfkpnmcmlaaGreatDoorG27
import Derived.Deep.DeepHandedRow
import Derived.ProofKit
import Derived.SevenTiedAt
import Derived.Test.YtfaclfkpnmcmlaaGreatDoorRows
set_option maxHeartbeats 8000000
set_option linter.all false
open Go.Proofs.Tryz
namespace Go.Proofs.YtfaclfkpnmcmlaaGreatDoor
open Go
def Rb:(Rows.syntaxTreesUptoRow.wf (OpenSpec.ofChange (OpenSpec.bare (Rows.OpenSpec.upto Rows.syntaxTreesSpec))))=true:=ah
def RB:(namedTie prog Rows.syntaxTreesUptoRow.named (OpenSpec.bare (Rows.OpenSpec.upto Rows.syntaxTreesSpec)).vars)=true:=ah
def RI:((prog.stopKnobs == []))=true:=ah
def Rf:((Rows.syntaxTreesUptoRow.named == prog.varsNamed 12))=true:=ah
def Rj:((Rows.syntaxTreesUptoRow.loops == (f12.params.toList++(OpenSpec.bare (Rows.OpenSpec.upto Rows.syntaxTreesSpec)).plain.varTypes prog).any (prog.loopsFrom ·)))=true:=ah
def Ro:((Rows.syntaxTreesUptoRow.ifacesOut == f12.resultTypes.toList.any (prog.ifacesRec ·)))=true:=ah
def Rs:(prog.stopsHeard)=true:=ah
def Rw:((Rows.syntaxTreesUptoRow.kinds == (if Rows.syntaxTreesUptoRow.domain.isEmpty then []else f12.params.toList.map fun t=>match prog.underlying t with|some (.int k)=>some k|_=>none)))=true:=ah
def Q5:Rows.syntaxTreesUptoRow.wfByText (Rows.OpenSpec.upto Rows.syntaxTreesSpec)=true:=ah
def Q6:prog.mainIs=some (true,("fb6f3cea10b2bce7ccd9e68c58951443a6981fe33c0f78952a9ec7f837153f3e":String).toList):=ah
def Hu:prog.funcNamed "motley/motleylaw07.SyntaxTrees"=some 12:=ah
def Q7:true=prog.looks []:=ah
def Q8:([97,46,23].all fun u=>!prog.wantsStandIn u)=true:=ah
def Q9:false=Rows.syntaxTreesUptoRow.goesBy prog:=ah
def Ra:f12.isInstance prog Rows.syntaxTreesUptoRow.origin Rows.syntaxTreesUptoRow.targs:=eF ah
def Rc:(laidOutB prog)=true:=ah
def RE:((Rows.syntaxTreesUptoRow.stops == []))=true:=ah
def RJ:((Rows.syntaxTreesUptoRow.inPlace == prog.inPlace 12))=true:=ah
def Rg:((Rows.syntaxTreesUptoRow.maps == (f12.params.toList++(OpenSpec.bare (Rows.OpenSpec.upto Rows.syntaxTreesSpec)).plain.varTypes prog).any (prog.mapsRec ·)))=true:=ah
def Rk:((Rows.syntaxTreesUptoRow.wideKeys == (f12.params.toList++(OpenSpec.bare (Rows.OpenSpec.upto Rows.syntaxTreesSpec)).plain.varTypes prog++f12.resultTypes.toList).any (prog.wideKeysFrom ·)))=true:=ah
def Rp:((Rows.syntaxTreesUptoRow.loopsOut == f12.resultTypes.toList.any (prog.loopsFrom ·)))=true:=ah
def Rt:(prog.mayEnter)=true:=ah
def Rx:((Rows.syntaxTreesUptoRow.pinned == Rows.syntaxTreesUptoRow.pinnedBy))=true:=ah
def Rn:(mapsRowed prog)=true:=ah
def RF:((prog.stops == []))=true:=ah
def Rd:((Rows.syntaxTreesUptoRow.unfollowed == prog.unfollowed 12))=true:=ah
def Rh:((Rows.syntaxTreesUptoRow.ifaces == (f12.params.toList++(OpenSpec.bare (Rows.OpenSpec.upto Rows.syntaxTreesSpec)).plain.varTypes prog).any (prog.ifacesRec ·)))=true:=ah
def Rl:((OpenSpec.bare (Rows.OpenSpec.upto Rows.syntaxTreesSpec)).vars.all (prog.varReadable ·))=true:=ah
def Rq:((Rows.syntaxTreesUptoRow.plainKeys == prog.plainKeys))=true:=ah
def Ru:((Rows.syntaxTreesUptoRow.lifted == prog.liftsFinal))=true:=ah
def Rz:((Rows.syntaxTreesUptoRow.veiled == (f12.params.toList++(OpenSpec.bare (Rows.OpenSpec.upto Rows.syntaxTreesSpec)).plain.varTypes prog++f12.resultTypes.toList).any (prog.veiledRec ·)))=true:=ah
def Ry:(f12.params.all (prog.readableRec ·))=true:=ah
def RH:((Rows.syntaxTreesUptoRow.knobs == []))=true:=ah
def Re:((Rows.syntaxTreesUptoRow.recurses == prog.recurses 12))=true:=ah
def Ri:((Rows.syntaxTreesUptoRow.mapsOut == prog.mapsAmong f12.resultTypes.toList))=true:=ah
def Rm:(f12.resultTypes.all (fun t=>prog.readableRec t && decide (t<prog.types.size)))=true:=ah
def Rr:(Rows.syntaxTreesUptoRow.shortTexts.isNone)=true:=ah
def Rv:((prog.make == some Rows.syntaxTreesUptoRow.make))=true:=ah
def RA:(Rows.syntaxTreesUptoRow.veiledFits prog f12.params.toList (f12.params.toList++(OpenSpec.bare (Rows.OpenSpec.upto Rows.syntaxTreesSpec)).plain.varTypes prog++f12.resultTypes.toList))=true:=ah
open Go Go.Sx Dg Syn
def eC{a b:Bool}(h:a=true)(k:b=true):(a && b)=true:=by rw[h,k];rfl
set_option maxRecDepth 100000 in
theorem Q4:joinedFacts prog 12 f12 (OpenSpec.bare (Rows.OpenSpec.upto Rows.syntaxTreesSpec)) Rows.syntaxTreesUptoRow=true:=by unfold joinedFacts;exact(eC (eC (eC (eC (eC (eC (eC (eC (eC (eC (eC (eC (eC (eC (eC (eC (eC (eC (eC (eC (eC (eC (eC (eC (eC (eC (eC (eC (eC (eC (eC Rb Rc) Rn) Ry) RB) RE) RF) RH) RI) RJ) Rd) Re) Rf) Rg) Rh) Ri) Rj) Rk) Rl) Rm) Ro) Rp) Rq) Rr) Rs) Rt) Ru) Rv) Rw) Rx) Rz) RA)
def RK:f12.isWrapper prog Rows.syntaxTreesUptoRow.wrapper Rows.syntaxTreesUptoRow.mainSum:=by
 unfold Func.isWrapper
 first|(rw[ak (by decide +kernel)];kernel_rfl)|(rw[ad (by decide +kernel)];exact⟨rfl,rfl⟩)
def VO:Rows.SyntaxTreesUptoSaid:=
 OpenClaim.holds_of_cond 12 f12 rfl rfl rfl rfl rfl rfl rfl ⟨rfl,rfl,rfl,rfl,rfl⟩ rfl rfl rfl rfl rfl Hu func12 Q4 Ra RK
  (fun os a H enc _ F=>by rw[OpenClaim.pre_eq_preRow];exact VP os a H enc F)
theorem syntaxTrees_card:Rows.SyntaxTreesUptoCardSaid:=
 Claim7.holds_tied_plain_at .later [] [.data,.data,.data,.sentinel,.sentinel,.data] true (true,"fb6f3cea10b2bce7ccd9e68c58951443a6981fe33c0f78952a9ec7f837153f3e") true
  VO (fun _ h=>by cases h) Q5 (fun _ h=>by cases h) syntaxTreesUpto_row_tie rfl ⟨rfl,rfl⟩ Q6 rfl
  (fun f fn hf a=>by
   obtain rfl:f=12:=(df (Hu.symm.trans hf)).symm;obtain rfl:fn=f12:=(df (func12.symm.trans a)).symm;exact⟨Q7,fun j t ht=>by
    rw[params12]at ht;have hm:t∈[97,46,23]:=by simpa using Array.mem_of_getElem? ht
    exact(show prog.wantsStandIn t=false by simpa using List.all_eq_true.1 Q8 t hm)⟩)
  Q9
end Go.Proofs.YtfaclfkpnmcmlaaGreatDoor
