import Derived.Test.YtfaclfkpnmcmlaaGreatDoorW05
import Derived.KernelRfl
import Derived.Test.YtfaclfkpnmcmlaaGreatDoorProg
set_option maxHeartbeats 20000000
set_option linter.all false
section
namespace Go.Proofs.YtfaclfkpnmcmlaaGreatDoor
open Go Go.Sx Go.Ke Dg
 noncomputable def cfgO (c : Nat) : Cfg := fun i => c.testBit i
 noncomputable def cubeRk (on off : Nat) : Nat → T
  | 0 => .lf true
  | n + 1 => if on.testBit (23 - n) then .nd (23 - n) (.lf false) (cubeRk on off n) else if off.testBit (23 - n) then .nd (23 - n) (cubeRk on off n) (.lf false) else cubeRk on off n
 noncomputable def cubeK (on off : Nat) : T := if (on &&& 16777215) &&& (off &&& 16777215) ≠ 0 then .lf false else cubeRk (on &&& 16777215) (off &&& 16777215) 24
 noncomputable def dOf (s : KS) : LV → Option T
  | .ag [.d0 i, .d1 j] => if i = j then match s.L.get i with | some (.dia t) => some t | _ => none else none
  | .ag [.v (.slice none 0 0), .v (.int .i64 0)] => some (.lf false)
  | .ag [.v (.slice none 0 0), .v (.int .i64 1)] => some (.lf true)
  | _ => none
 noncomputable def newD (s : KS) (t : T) : Option (LV × KS × List Nat) := match s.L.put s.c (.dia t) with | some L => some (.ag [.d0 s.c, .d1 s.c], ⟨L, s.c + 1⟩, []) | none => none
 noncomputable def bl (s : KS) (b : Bool) : Option (LV × KS × List Nat) := some (.v (.bool b), s, [])
 noncomputable def u32K (a : Int) : Bool := decide (0 ≤ a ∧ a < 4294967296)
 noncomputable def hookD : CallF := fun f args s => match f, args with
  | 69, [.v (.int .u32 a), .v (.int .u32 b)] => match u32K a && u32K b with | true => newD s (cubeK a.toNat b.toNat) | false => none
  | 94, [a, b] => match dOf s a, dOf s b with | some x, some y => newD s (T.and x y) | _, _ => none
  | 39, [a, b] => match dOf s a, dOf s b with | some x, some y => newD s (T.or x y) | _, _ => none
  | 71, [a] => match dOf s a with | some x => newD s (T.not x) | none => none
  | 27, [] => newD s (.lf true)
  | 80, [] => newD s (.lf false)
  | 50, [a] => match dOf s a with | some x => bl s (decide (x = .lf false)) | none => none
  | 68, [a] => match dOf s a with | some x => bl s (decide (x = .lf true)) | none => none
  | 36, [a, .v (.int .u32 c)] => match u32K c, dOf s a with | true, some t => bl s (t.at' (cfgO c.toNat)) | _, _ => none
  | 53, [a, b] => match dOf s a, dOf s b with | some x, some y => bl s (decide (x = y)) | _, _ => none
  | _, _ => none
 noncomputable def strK (l : List UInt8) : LV := .v (.string ⟨⟨l⟩⟩)
 noncomputable def signK : List LV := [[60, 61], [62, 61], [61, 61], [33, 61], [38, 38], [124, 124], [43], [45], [42], [47], [37], [60], [62], [61], [33], [40], [41], [123], [125], [44], [59], [58]].map strK
 noncomputable def powK : List LV := [.v (.int .u64 1), .v (.int .u64 10), .v (.int .u64 100), .v (.int .u64 1000), .v (.int .u64 10000), .v (.int .u64 100000), .v (.int .u64 1000000), .v (.int .u64 10000000), .v (.int .u64 100000000), .v (.int .u64 1000000000), .v (.int .u64 10000000000), .v (.int .u64 100000000000), .v (.int .u64 1000000000000), .v (.int .u64 10000000000000), .v (.int .u64 100000000000000), .v (.int .u64 1000000000000000), .v (.int .u64 10000000000000000), .v (.int .u64 100000000000000000), .v (.int .u64 1000000000000000000), .v (.int .u64 10000000000000000000)]
 noncomputable def L0 (x y : Value) : Tr LO := Tr.set (Tr.set (Tr.set (Tr.set .lf 0 (.ro signK)) 1 (.ro [.v x])) 2 (.ro [.v y])) 3 (.ro powK)
 noncomputable def isT (r : Option (LV × KS × List Nat)) : Bool := match r with | some (.v (.bool b), _, []) => b | _ => false
set_option maxRecDepth 100000 in
theorem awakeK (rep : PH → Value → Value → T → Prop) (mono : ∀ {I J : PH} {a b : Value} {t : T}, rep I a b t → I.le J → rep J a b t) (ok : ∀ {kt : TypeId}, (fun k => k == 240) kt = true → Maps.Keyed Tryz.prog kt) (te te2 : TypeId) (pe pe2 : Value) :
    isT (callW ⟨Tryz.prog, rep, mono, fun k => k == 240, ok⟩ hookD (runC ⟨Tryz.prog, rep, mono, fun k => k == 240, ok⟩ 6 hookD 100000) 17 [] ⟨L0 (.iface te pe) (.iface te2 pe2), 1000⟩) = true := by kernel_rfl
end Go.Proofs.YtfaclfkpnmcmlaaGreatDoor
end
