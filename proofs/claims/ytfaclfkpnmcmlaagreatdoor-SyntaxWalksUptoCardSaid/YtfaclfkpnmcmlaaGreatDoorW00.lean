import Derived.Calls
import Derived.OrdersIn
import Derived.RowKit
import Derived.Tactics
set_option maxHeartbeats 20000000
set_option linter.all false
section
namespace Go.Sx
open Go
abbrev PH := Nat → Option Obj
def Sub (H : PH) (w : World) : Prop := ∀ b o, H b = some o → w.heap[b]? = some o
def PH.le (H H2 : PH) : Prop := ∀ b o, H b = some o → H2 b = some o
def PH.emp : PH := fun _ => none
theorem PH.le_refl (H : PH) : H.le H := fun _ _ h => h
theorem PH.le_trans {A B C : PH} (h : A.le B) (k : B.le C) : A.le C := fun b o x => k b o (h b o x)
theorem Sub.of_le {H H2 : PH} {w : World} (s : Sub H2 w) (h : H.le H2) : Sub H w := fun b o x => s b o (h b o x)
structure Step (H : PH) (w : World) (H2 : PH) (w2 : World) : Prop where
  sub : Sub H2 w2
  size : w.heap.size ≤ w2.heap.size
  priv : ∀ b, b < w.heap.size → H b = none → w2.heap[b]? = w.heap[b]?
  dom : ∀ b, b < w.heap.size → H b = none → H2 b = none
  os : w2.os = w.os
  tape : w2.tape = w.tape
  out : w2.output = w.output
theorem Step.refl {H : PH} {w : World} (s : Sub H w) : Step H w H w := ⟨s, Nat.le_refl _, fun _ _ _ => rfl, fun _ _ h => h, rfl, rfl, rfl⟩
theorem Step.trans {H H2 H3 : PH} {w w2 w3 : World} (a : Step H w H2 w2) (b : Step H2 w2 H3 w3) : Step H w H3 w3 where
  sub := b.sub
  size := Nat.le_trans a.size b.size
  priv := fun k hk hn => by rw [b.priv k (Nat.lt_of_lt_of_le hk a.size) (a.dom k hk hn), a.priv k hk hn]
  dom := fun k hk hn => b.dom k (Nat.lt_of_lt_of_le hk a.size) (a.dom k hk hn)
  os := b.os.trans a.os
  tape := b.tape.trans a.tape
  out := b.out.trans a.out
def Does (P : Program) (f : FuncId) (args : Array Value) (H : PH) (Φ : Value → PH → Prop) : Prop :=
  ∀ w, Sub H w → Calls P f args w fun e w2 => match e with
    | .returned v => ∃ H2, Step H w H2 w2 ∧ Φ v H2
    | _ => False
theorem Does.mono {P : Program} {f : FuncId} {args : Array Value} {H : PH} {Φ Ψ : Value → PH → Prop} (h : Does P f args H Φ) (k : ∀ v H2, Φ v H2 → Ψ v H2) : Does P f args H Ψ :=
  fun w s => (h w s).mono fun e w2 he => by
    cases e with
    | returned v => obtain ⟨H2, a, b⟩ := he; exact ⟨H2, a, k _ _ b⟩
    | outgrown => exact he
    | panicked c => exact he
inductive SV where
  | v (x : Value)
  | p (key off : Nat)
  | u
  deriving Inhabited
structure Box where
  key : Nat
  ty : TypeId
  cs : List Value
structure St where
  tm : List SV
  bx : List Box
def getT : List SV → Nat → SV
  | [], _ => .u
  | x :: _, 0 => x
  | _ :: l, n + 1 => getT l n
def setT : List SV → Nat → SV → List SV
  | [], _, _ => []
  | _ :: l, 0, y => y :: l
  | x :: l, n + 1, y => x :: setT l n y
theorem getT_getElem? (l : List SV) (n : Nat) : getT l n = (l[n]?).getD .u := by
  induction l generalizing n with
  | nil => simp [getT]
  | cons x l ih => cases n <;> simp [getT, ih]
theorem setT_length (l : List SV) (n : Nat) (y : SV) : (setT l n y).length = l.length := by
  induction l generalizing n with
  | nil => rfl
  | cons x l ih => cases n <;> simp [setT, ih]
theorem setT_getElem? (l : List SV) (n m : Nat) (y : SV) : (setT l n y)[m]? = if n = m then (if n < l.length then some y else none) else l[m]? := by
  induction l generalizing n m with
  | nil => simp [setT]
  | cons x l ih =>
    cases n with
    | zero => cases m <;> simp [setT]
    | succ n => cases m <;> simp [setT, ih]
def findB : List Box → Nat → Option Box
  | [], _ => none
  | b :: l, k => if b.key = k then some b else findB l k
def dropB : List Box → Nat → List Box
  | [], _ => []
  | b :: l, k => if b.key = k then dropB l k else b :: dropB l k
def insB (x : Box) : List Box → List Box
  | [] => [x]
  | b :: l => if b.key < x.key then b :: insB x l else x :: b :: l
def clr (k : Nat) : SV → SV
  | .p k' off => if k' = k then .u else .p k' off
  | x => x
def St.put (σ : St) (d : Option Nat) (y : SV) : St :=
  match d with
  | some d => { σ with tm := setT σ.tm d y }
  | none => σ
def St.newBox (σ : St) (d : Nat) (T : TypeId) (cs : List Value) : St :=
  { tm := setT (σ.tm.map (clr d)) d (.p d 0), bx := insB ⟨d, T, cs⟩ (dropB σ.bx d) }
def setCs : List Value → Nat → List Value → List Value
  | l, _, [] => l
  | l, n, c :: cs => setCs (l.set n c) (n + 1) cs
def updB : List Box → Nat → Nat → List Value → List Box
  | [], _, _, _ => []
  | b :: l, k, off, cs => if b.key = k then { b with cs := setCs b.cs off cs } :: l else b :: updB l k off cs
def St.store (σ : St) (k off : Nat) (cs : List Value) : St := { σ with bx := updB σ.bx k off cs }
def ev (σ : St) : Operand → SV
  | .tmp t => getT σ.tm t
  | .const v => .v v
  | .global g => .v (.pointer (some ⟨g, 0, none⟩))
  | .func f => .v (.func (.func f) #[] #[])
def matchSV (β : Nat → Nat) : SV → Value → Prop
  | .v x, y => y = x
  | .p k off, y => y = .pointer (some ⟨β k, off, none⟩)
  | .u, _ => True
def markD (d : Nat) : Deferred := { target := .collected d, args := #[] }
def DfOk (n0 : Nat) (H : PH) (dl : List Deferred) (w : World) : Prop := ∃ ds : List Nat, dl = ds.map markD ∧ ds.Nodup ∧ ∀ d ∈ ds, n0 ≤ d ∧ H d = none ∧ w.heap[d]? = some (.deferred (some []))
theorem DfOk.nil {n0 : Nat} {H : PH} {w : World} : DfOk n0 H [] w := ⟨[], rfl, List.nodup_nil, fun _ h => (List.not_mem_nil h).elim⟩
theorem DfOk.keep {n0 : Nat} {H H2 : PH} {dl : List Deferred} {w w2 : World} (h : DfOk n0 H dl w) (k : ∀ d, n0 ≤ d → H d = none → w.heap[d]? = some (.deferred (some [])) → H2 d = none ∧ w2.heap[d]? = some (.deferred (some []))) : DfOk n0 H2 dl w2 := by
  obtain ⟨ds, e, n, h⟩ := h
  exact ⟨ds, e, n, fun d hd => by obtain ⟨a, b, c⟩ := h d hd; exact ⟨a, k d a b c⟩⟩
structure GB (n0 : Nat) (β : Nat → Nat) (σ : St) (H : PH) (a : Act) (w : World) : Prop where
  defers : DfOk n0 H a.defers w
  size : a.tmps.size = σ.tm.length
  tm : ∀ t sv, σ.tm[t]? = some sv → matchSV β sv (a.tmps.getD t undef)
  bx : ∀ B ∈ σ.bx, w.heap[β B.key]? = some (.cells B.cs.toArray B.ty (0, 0)) ∧ H (β B.key) = none
  inj : ∀ B ∈ σ.bx, ∀ B' ∈ σ.bx, β B.key = β B'.key → B.key = B'.key
  lo : ∀ B ∈ σ.bx, n0 ≤ β B.key
  keys : σ.bx.Pairwise (fun x y => x.key ≠ y.key)
def G (n0 : Nat) (σ : St) (H : PH) (a : Act) (w : World) : Prop := ∃ β, GB n0 β σ H a w
theorem GB.ev {n0 : Nat} {β : Nat → Nat} {σ : St} {H : PH} {a : Act} {w : World} (g : GB n0 β σ H a w) (x : Operand) : matchSV β (Sx.ev σ x) (a.eval x) := by
  cases x with
  | tmp t =>
    simp only [Sx.ev, Act.eval, getT_getElem?]
    cases h : σ.tm[t]? with
    | none => simp [matchSV]
    | some sv => simpa using g.tm t sv h
  | const v => rfl
  | global n => rfl
  | func n => rfl
theorem findB_mem {l : List Box} {k : Nat} {B : Box} (h : findB l k = some B) : B ∈ l ∧ B.key = k := by
  induction l with
  | nil => simp [findB] at h
  | cons b l ih =>
    simp only [findB] at h
    split at h
    · cases h; exact ⟨.head _, by assumption⟩
    · obtain ⟨h1, h2⟩ := ih h; exact ⟨.tail _ h1, h2⟩
theorem GB.put {n0 : Nat} {β : Nat → Nat} {σ : St} {H : PH} {a : Act} {w : World} (g : GB n0 β σ H a w) (d : Option Nat) {sv : SV} {y : Value} (h : matchSV β sv y) : GB n0 β (σ.put d sv) H (a.put d y) w := by
  cases d with
  | none => exact g
  | some d =>
    refine ⟨g.defers, ?_, ?_, g.bx, g.inj, g.lo, g.keys⟩
    · simp [Act.put, St.put, setT_length, g.size]
    · intro t x hx
      simp only [St.put, setT_getElem?] at hx
      have hlen := g.size
      by_cases e : d = t
      · subst e
        simp only [if_true] at hx
        split at hx
        · cases hx
          rename_i hl
          simp only [Act.put, Array.getD_eq_getD_getElem?]
          rw [Array.getElem?_setIfInBounds_self_of_lt (by omega)]
          simpa using h
        · cases hx
      · simp only [if_neg e] at hx
        have := g.tm t x hx
        simpa [Act.put, Array.getD_eq_getD_getElem?, Array.getElem?_setIfInBounds_ne e] using this
theorem matchSV_u {β : Nat → Nat} {y : Value} : matchSV β .u y := trivial
end Go.Sx
end
section
namespace Go.Sx
open Go
def aggOf (P : Program) (T : TypeId) : Option (Option Nat) :=
  match P.underlying T, P.info? T with
  | some (.struct _), some i => some (some i.size)
  | some (.array _ _), some i => some (some i.size)
  | some _, some i => if i.size = 1 then some none else none
  | _, _ => none
def zeroOf (P : Program) (T : TypeId) : Option Value := (P.info? T).bind (·.zero)
def fieldOf (P : Program) (T : TypeId) (f : Nat) : Option (Nat × TypeId) :=
  match P.underlying T with
  | some (.struct fs) => match fs[f]? with
    | some g => match P.info? g.type with
      | some i => if i.size = 0 then none else some (g.offset, g.type)
      | none => none
    | none => none
  | _ => none
inductive Elem where
  | arr (len size : Nat)
  | sl (size : Nat)
  | none
def elOf (P : Program) (T : TypeId) : Elem :=
  match P.underlying T with
  | some (.array n e) => match P.info? e with | some i => .arr n i.size | Option.none => .none
  | some (.slice e) => match P.info? e with | some i => .sl i.size | Option.none => .none
  | _ => .none
def one : Value → Bool
  | .agg _ => false
  | .tuple _ => false
  | _ => true
def cellsV : Value → Option (List Value)
  | .agg cs => if cs.toList.all one then some cs.toList else none
  | .tuple _ => none
  | v => some [v]
theorem cellsV_cells {v : Value} {l : List Value} (h : cellsV v = some l) : v.cells.toList = l ∧ ∀ c ∈ l, one c = true := by
  cases v
  case agg cs =>
    simp only [cellsV] at h
    split at h
    · cases h; rename_i hh; exact ⟨rfl, fun c hc => List.all_eq_true.1 hh c hc⟩
    · cases h
  case tuple cs => cases h
  all_goals (simp only [cellsV, Option.some.injEq] at h; subst h; simp [one, Value.cells])
def rdCells (P : Program) (T : TypeId) (cs : List Value) (off : Nat) : Option Value :=
  match aggOf P T with
  | some (some n) => if off + n ≤ cs.length then some (.agg ((cs.drop off).take n).toArray) else none
  | some none => cs[off]?
  | none => none
theorem run_loadCellsFrom {P : Program} {w : World} (a : Addr) (n i : Nat) (acc : Array Value) (xs : List Value) (hx : xs.length = n)
    (h : ∀ j v, xs[j]? = some v → w.cell? (a.add (i + j)) = some v) :
    (loadCellsFrom a i n acc).run P w = .ok (acc ++ xs.toArray) w := by
  induction n generalizing i acc xs with
  | zero => cases xs with
    | nil => simp [loadCellsFrom]
    | cons => simp at hx
  | succ n ih =>
    cases xs with
    | nil => simp at hx
    | cons x xs =>
      have h0 := h 0 x (by simp)
      rw [Nat.add_zero] at h0
      simp only [loadCellsFrom, load, bind, Sem.bind, Sem.run, h0]
      have := ih (i + 1) (acc.push x) xs (by simpa using hx) (fun j v hj => by
        have := h (j + 1) v (by simpa using hj)
        rwa [show i + 1 + j = i + (j + 1) from by omega])
      rw [this]
      simp
theorem run_isAgg {P : Program} {w : World} {T : TypeId} {d : TypeDesc} (h : P.underlying T = some d) :
    (isAgg T).run P w = .ok (match d with | .struct _ | .array _ _ => true | _ => false) w := by
  simp only [isAgg, underlying, program, bind, Sem.bind, Sem.run, h, pure]
  cases d <;> simp [Sem.run]
theorem add_block (b off n : Nat) : (Addr.mk b off none).add n = ⟨b, off + n, none⟩ := by
  unfold Addr.add; split <;> simp_all
theorem cell_of {w : World} {b : Nat} {cs : List Value} {T : TypeId} {fz : Nat × Nat} (h : w.heap[b]? = some (.cells cs.toArray T fz)) (i : Nat) : w.cell? ⟨b, i, none⟩ = cs[i]? := by
  simp [World.cell?, h]
theorem run_loadVar {P : Program} {w : World} {T : TypeId} {b off : Nat} {cs : List Value} {ty : TypeId} {v : Value} {fz : Nat × Nat}
    (hb : w.heap[b]? = some (.cells cs.toArray ty fz)) (h : rdCells P T cs off = some v) :
    (loadVar T ⟨b, off, none⟩).run P w = .ok v w := by
  unfold rdCells aggOf at h
  have aggCase : ∀ (n : Nat) (i : TypeInfo), P.info? T = some i → i.size = n → (isAgg T).run P w = .ok true w → off + n ≤ cs.length →
      (loadVar T ⟨b, off, none⟩).run P w = .ok (.agg ((cs.drop off).take n).toArray) w := by
    intro n i hi hn hag hle
    simp only [loadVar, Sem.run_bind, hag, Result.andThen, if_true, sizeOf, typeInfo, program, loadCells, Sem.run, hi]
    simp only [pure, Sem.run, hn]
    have := run_loadCellsFrom (P := P) (w := w) ⟨b, off, none⟩ n 0 #[] ((cs.drop off).take n) (by simp; omega) (fun j v hj => by
      rw [add_block, cell_of hb, Nat.zero_add]
      rw [List.getElem?_take] at hj
      split at hj
      · rw [List.getElem?_drop] at hj; exact hj
      · cases hj)
    rw [this]; simp
  cases hu : P.underlying T with
  | none => rw [hu] at h; simp at h
  | some d =>
    rw [hu] at h
    cases hi : P.info? T with
    | none => rw [hi] at h; cases d <;> simp at h
    | some i =>
      rw [hi] at h
      have hag := run_isAgg (P := P) (w := w) hu
      have one : (isAgg T).run P w = .ok false w → cs[off]? = some v → (loadVar T ⟨b, off, none⟩).run P w = .ok v w := by
        intro h1 h2
        simp only [loadVar, Sem.run_bind, h1, Result.andThen, load]
        simp [Sem.run, cell_of hb, h2]
      cases d <;> simp only at h hag <;>
        first
        | (split at h
           · rename_i hle; cases h; exact aggCase i.size i hi rfl hag hle
           · cases h)
        | (by_cases h1 : i.size = 1
           · simp only [h1, if_true] at h; exact one hag h
           · simp only [h1, if_false] at h; cases h)
def andI (k : IntKind) (a b : Int) : Int := k.wrap (BitVec.ofInt k.bits a &&& BitVec.ofInt k.bits b).toNat
def orI (k : IntKind) (a b : Int) : Int := k.wrap (BitVec.ofInt k.bits a ||| BitVec.ofInt k.bits b).toNat
def xorI (k : IntKind) (a b : Int) : Int := k.wrap (BitVec.ofInt k.bits a ^^^ BitVec.ofInt k.bits b).toNat
def shlI (k : IntKind) (a b : Int) : Int := k.wrap (a * 2 ^ (min b.toNat k.bits))
def shrI (k : IntKind) (a b : Int) : Int := a.fdiv (2 ^ (min b.toNat k.bits))
def andnI (k : IntKind) (a b : Int) : Int := k.wrap (BitVec.ofInt k.bits a &&& ~~~ BitVec.ofInt k.bits b).toNat
def binV (op : BinOp) (x y : Value) : Option Value :=
  match x, y with
  | .int k a, .int k' b =>
    match op with
    | .shl => if 0 ≤ b then some (.int k (shlI k a b)) else none
    | .shr => if 0 ≤ b then some (.int k (shrI k a b)) else none
    | .add => if k = k' then some (.int k (k.wrap (a + b))) else none
    | .sub => if k = k' then some (.int k (k.wrap (a - b))) else none
    | .mul => if k = k' then some (.int k (k.wrap (a * b))) else none
    | .quo => if k = k' then (if b = 0 then none else some (.int k (k.wrap (a.tdiv b)))) else none
    | .rem => if k = k' then (if b = 0 then none else some (.int k (a.tmod b))) else none
    | .and => if k = k' then some (.int k (andI k a b)) else none
    | .or => if k = k' then some (.int k (orI k a b)) else none
    | .xor => if k = k' then some (.int k (xorI k a b)) else none
    | .andNot => if k = k' then some (.int k (andnI k a b)) else none
    | .eql => if k = k' then some (.bool (a == b)) else none
    | .neq => if k = k' then some (.bool (a != b)) else none
    | .lss => if k = k' then some (.bool (a < b)) else none
    | .leq => if k = k' then some (.bool (a ≤ b)) else none
    | .gtr => if k = k' then some (.bool (a > b)) else none
    | .geq => if k = k' then some (.bool (a ≥ b)) else none
  | .string a, .string b =>
    match op with
    | .eql => some (.bool (a.toList == b.toList))
    | .neq => some (.bool (!(a.toList == b.toList)))
    | .lss => some (.bool (Op.bytesLess a.toList b.toList))
    | .leq => some (.bool (Op.bytesLess a.toList b.toList || a.toList == b.toList))
    | .gtr => some (.bool (!(Op.bytesLess a.toList b.toList || a.toList == b.toList)))
    | .geq => some (.bool (!(Op.bytesLess a.toList b.toList)))
    | _ => none
  | _, _ => none
theorem run_binV {P : Program} {w : World} {op : BinOp} {T : TypeId} {x y v : Value} {ox oy : Operand} (h : binV op x y = some v) :
    (do eqGuard op T ox oy x y; binOp op T x y : Sem Value).run P w = .ok v w := by
  unfold binV at h
  split at h
  · rename_i k a k' b
    cases op <;> simp only at h <;> first
      | (cases h; done)
      | (split at h
         · rename_i hk
           first
             | (split at h
                · cases h
                · rename_i hb
                  cases h
                  subst hk
                  simp [eqGuard, binOp, Op.intDiv, Sem.run, pure, hb])
             | cases h
           try first
             | (subst hk; simp [eqGuard, binOp, Op.intArith, Op.intBits, Op.intCmp, Sem.run, pure, andI, orI, xorI, andnI])
             | (simp [eqGuard, binOp, Op.shift, Sem.run, pure, Int.not_lt.2 hk, shlI, shrI])
         · cases h)
  · cases op <;> simp only [Option.some.injEq] at h <;> first
      | (cases h; done)
      | (subst h; simp [eqGuard, binOp, Op.stringOp, Sem.run, pure])
  · cases h
def onesI (k : IntKind) : Int := if k.signed then -1 else k.max
def unV (op : UnOp) (x : Value) : Option Value :=
  match op, x with
  | .not, .bool b => some (.bool !b)
  | .neg, .int k n => some (.int k (k.wrap (0 - n)))
  | .xor, .int k n => some (.int k (xorI k (onesI k) n))
  | _, _ => none
theorem run_unV {P : Program} {w : World} {op : UnOp} {x v : Value} (h : unV op x = some v) : (Op.unary op x).run P w = .ok v w := by
  unfold unV at h
  split at h <;> cases h <;> simp [Op.unary, Op.intArith, Op.intBits, xorI, onesI, pure]
end Go.Sx
end
section
namespace Go.Sx
open Go
def szOf (P : Program) (T : TypeId) : Option Nat := (P.info? T).map (·.size)
def placeOf (P : Program) (T : TypeId) (i : Nat) : Option (Nat × Nat) :=
  match fieldOf P T i with
  | some (off, ty) => (szOf P ty).map fun s => (off, s)
  | none => none
def fillL (place : Nat → Option (Nat × Nat)) (cells : List Value) : List (Nat × Value) → Option (List Value)
  | [] => some cells
  | (i, v) :: rest =>
    match place i with
    | none => none
    | some (off, size) => if v.cells.toList.length = size ∧ off + size ≤ cells.length then fillL place (setCs cells off v.cells.toList) rest else none
theorem setCs_length (l : List Value) (off : Nat) (cs : List Value) : (setCs l off cs).length = l.length := by
  induction cs generalizing l off with
  | nil => rfl
  | cons c cs ih => simp [setCs, ih]
theorem foldl_set (cells : Array Value) (off j : Nat) (cs : List Value) :
    ((cs.zipIdx j).foldl (fun (a : Array Value) (x : Value × Nat) => a.setIfInBounds (off + x.2) x.1) cells).toList = setCs cells.toList (off + j) cs := by
  induction cs generalizing cells j with
  | nil => rfl
  | cons c cs ih =>
    simp only [List.zipIdx_cons, List.foldl_cons, setCs]
    rw [ih]
    simp [Nat.add_assoc]
theorem fill_of {place pl' : Nat → Option (Nat × Nat)} {cells : Array Value} {parts : List (Nat × Value)} {r : List Value}
    (hp : ∀ i x, place i = some x → pl' i = some x) (h : fillL place cells.toList parts = some r) :
    Instr.fill pl' cells parts = some r.toArray := by
  induction parts generalizing cells with
  | nil => simp only [fillL, Option.some.injEq] at h; subst h; simp [Instr.fill]
  | cons x rest ih =>
    obtain ⟨i, v⟩ := x
    simp only [fillL] at h
    split at h
    · cases h
    · rename_i off size hpl
      split at h
      · rename_i hc
        obtain ⟨h1, h2⟩ := hc
        simp only [Array.length_toList] at h1 h2
        simp only [Instr.fill, hp _ _ hpl]
        rw [if_neg (by simp [h1]; omega)]
        apply ih
        rw [← h, ← Array.foldl_toList]
        congr 1
        have := foldl_set cells off 0 v.cells.toList
        simpa using this
      · cases h
theorem run_mapM_list {P : Program} {w : World} {α β : Type} (f : α → Sem β) (g : α → β) (l : List α) (h : ∀ x ∈ l, (f x).run P w = .ok (g x) w) :
    (l.mapM f).run P w = .ok (l.map g) w := by
  induction l with
  | nil => simp
  | cons x l ih =>
    simp only [List.mapM_cons, Sem.run_bind, h x (.head _), Result.andThen, ih fun y hy => h y (.tail _ hy)]
    simp
def isSt (P : Program) (T : TypeId) : Bool :=
  match P.underlying T with
  | some (.struct fs) => fs.toList.all fun f => (P.info? f.type).isSome
  | _ => false
def buildV (P : Program) (T : TypeId) (parts : List (Nat × Value)) : Option Value :=
  match zeroOf P T with
  | none => none
  | some z =>
    match elOf P T with
    | .arr _ size => (fillL (fun i => some (i * size, size)) z.cells.toList parts).map fun l => .agg l.toArray
    | _ => if isSt P T then (fillL (placeOf P T) z.cells.toList parts).map fun l => .agg l.toArray else none
theorem run_build {P : Program} {w : World} {T : TypeId} {parts : Array (Nat × Value)} {v : Value} (h : buildV P T parts.toList = some v) :
    (Instr.build T parts).run P w = .ok v w := by
  unfold buildV at h
  cases hz : zeroOf P T with
  | none => rw [hz] at h; cases h
  | some z =>
    rw [hz] at h
    simp only at h
    unfold zeroOf at hz
    cases hi : P.info? T with
    | none => rw [hi] at hz; cases hz
    | some i =>
      rw [hi] at hz
      simp only [Option.bind_some] at hz
      have zv : (zeroValue T).run P w = .ok z w := by simp [zeroValue, typeInfo, program, Sem.run, hi, hz]
      unfold elOf at h
      cases hu : P.underlying T with
      | none => rw [hu] at h; simp [isSt, hu] at h
      | some d =>
        rw [hu] at h
        have und : (underlying T).run P w = .ok d w := by simp [underlying, program, Sem.run, hu]
        cases d <;> simp only at h <;> try (simp [isSt, hu] at h; done)
        case slice e => cases he : P.info? e <;> simp [he, isSt, hu] at h
        case array n e =>
          cases he : P.info? e with
          | none => rw [he] at h; simp [isSt, hu] at h
          | some ie =>
            rw [he] at h
            simp only [Option.map_eq_some_iff] at h
            obtain ⟨l, hl, rfl⟩ := h
            have sz : (sizeOf e).run P w = .ok ie.size w := by simp [sizeOf, typeInfo, program, Sem.run, he]
            have hf := fill_of (pl' := fun i => some (i * ie.size, ie.size)) (cells := z.cells) (fun i x hx => hx) hl
            simp only [Instr.build, Sem.run_bind, zv, Result.andThen, und, sz, hf]
            simp
        case struct fs =>
          split at h
          case isFalse => cases h
          rename_i hall
          simp only [Option.map_eq_some_iff] at h
          obtain ⟨l, hl, rfl⟩ := h
          simp only [isSt, hu] at hall
          have hall' : ∀ f ∈ fs.toList, (P.info? f.type).isSome = true := List.all_eq_true.1 hall
          have hm : (fs.mapM fun f => (do pure (f.offset, ← sizeOf f.type) : Sem (Nat × Nat))).run P w = .ok (fs.map fun f => (f.offset, ((P.info? f.type).map (·.size)).getD 0)) w := by
            rw [Array.mapM_eq_mapM_toList]
            simp only [Sem.run_map]
            rw [run_mapM_list _ (fun f => (f.offset, ((P.info? f.type).map (·.size)).getD 0))]
            · simp [Result.andThen, ← Array.toList_map]
            · intro f hf
              obtain ⟨j, hj⟩ := Option.isSome_iff_exists.1 (hall' f hf)
              simp [sizeOf, typeInfo, program, Sem.run, hj]
          have hf := fill_of (pl' := fun i => (fs.map fun f => (f.offset, ((P.info? f.type).map (·.size)).getD 0))[i]?) (cells := z.cells) (fun i x hx => by
            unfold placeOf at hx
            split at hx
            case h_2 => cases hx
            rename_i off ty hfo
            unfold fieldOf at hfo
            rw [hu] at hfo
            simp only at hfo
            cases hfi : fs[i]? with
            | none => rw [hfi] at hfo; cases hfo
            | some g =>
              rw [hfi] at hfo
              simp only at hfo
              cases hg : P.info? g.type with
              | none => rw [hg] at hfo; cases hfo
              | some j =>
                rw [hg] at hfo
                simp only at hfo
                split at hfo
                · cases hfo
                · cases hfo
                  simp only [szOf, hg, Option.map_some, Option.some.injEq] at hx
                  subst hx
                  simp [hfi, hg]) hl
          simp only [Instr.build, Sem.run_bind, zv, Result.andThen, und, hm, hf]
          simp
end Go.Sx
end
section
namespace Go.Sx
open Go
def allV (ρ : Operand → SV) : List Operand → Option (List Value)
  | [] => some []
  | x :: l => match ρ x, allV ρ l with
    | .v a, some r => some (a :: r)
    | _, _ => none
def allP (ρ : Operand → SV) : List (Nat × Operand) → Option (List (Nat × Value))
  | [] => some []
  | (i, x) :: l => match ρ x, allP ρ l with
    | .v a, some r => some ((i, a) :: r)
    | _, _ => none
inductive Kd where
  | int (k : IntKind)
  | str
  | sl
  | other
def kindOf (P : Program) (T : TypeId) : Kd :=
  match P.underlying T with
  | some (.int k) => .int k
  | some .string => .str
  | some (.slice _) => .sl
  | _ => .other
def lenV (P : Program) (T : TypeId) (x : Value) : Option Value :=
  match kindOf P T, x with
  | .sl, .slice _ n _ => some (.int .i64 n)
  | .str, .string s => some (.int .i64 s.size)
  | _, _ => none
def capV (P : Program) (T : TypeId) (x : Value) : Option Value :=
  match kindOf P T, x with
  | .sl, .slice _ _ n => some (.int .i64 n)
  | _, _ => none
def minV (x y : Value) : Option Value :=
  match x, y with
  | .int k a, .int _ b => some (.int k (if b < a then b else a))
  | _, _ => none
def maxV (x y : Value) : Option Value :=
  match x, y with
  | .int k a, .int _ b => some (.int k (if a < b then b else a))
  | _, _ => none
def convV (P : Program) (T : TypeId) (x : Value) : Option Value :=
  match kindOf P T, x with
  | .int k, .int _ n => some (.int k (k.wrap n))
  | _, _ => none
def hasU (P : Program) (T : TypeId) : Bool := (P.underlying T).isSome
def pvLoad (P : Program) (bx : List Box) (T : TypeId) : SV → Option (Prop × SV)
  | .p k off => match findB bx k with
    | some B => match rdCells P T B.cs off with
      | some v => some (True, .v v)
      | none => none
    | none => none
  | _ => none
def pvAt (n : Nat) : SV → Option (Prop × SV)
  | .p k off => some (True, .p k (off + n))
  | .v (.pointer (some ⟨b, off, none⟩)) => some (True, .v (.pointer (some ⟨b, off + n, none⟩)))
  | _ => none
def pvNil : SV → Option (Prop × SV)
  | .p k off => some (True, .p k off)
  | .v (.pointer (some a)) => some (True, .v (.pointer (some a)))
  | _ => none
def pvIx (e : Elem) (x i : SV) : Option (Prop × SV) :=
  match e, x, i with
  | .arr len size, .p k off, .v (.int _ n) => some (0 ≤ n ∧ n < len, .p k (off + n.toNat * size))
  | .arr len size, .v (.pointer (some ⟨b, off, none⟩)), .v (.int _ n) => some (0 ≤ n ∧ n < len, .v (.pointer (some ⟨b, off + n.toNat * size, none⟩)))
  | .sl size, .v (.slice (some ⟨b, off, none⟩) len _), .v (.int _ n) => some (0 ≤ n ∧ n < len, .v (.pointer (some ⟨b, off + n.toNat * size, none⟩)))
  | _, _, _ => none
def byteAt (s : ByteArray) (n : Nat) : Nat := (s.data.toList.getD n 0).toNat
def pvIndex (k : Kd) (x i : SV) : Option (Prop × SV) :=
  match k, x, i with
  | .str, .v (.string s), .v (.int _ n) => some (0 ≤ n ∧ n < s.size, .v (.int .u8 (byteAt s n.toNat)))
  | _, _, _ => none
def okV (x : Option Value) : Option (Prop × SV) :=
  match x with
  | some v => some (True, .v v)
  | none => none
def pvCall (P : Program) (ρ : Operand → SV) (c : Call) : Option (Prop × SV) :=
  match c.callee, c.args.toList, c.argTypes.toList with
  | .builtin .len, [x], [t] => match ρ x with | .v a => okV (lenV P t a) | _ => none
  | .builtin .cap, [x], [t] => match ρ x with | .v a => okV (capV P t a) | _ => none
  | .builtin .min, [x, y], _ => match ρ x, ρ y with | .v a, .v b => okV (minV a b) | _, _ => none
  | .builtin .max, [x, y], _ => match ρ x, ρ y with | .v a, .v b => okV (maxV a b) | _, _ => none
  | _, _, _ => none
def slA (a : Option Addr) (size l cap : Nat) : Option Addr := if cap = l then a else a.map (·.add (l * size))
def bndV (n : Nat) : Option SV → Option Int
  | none => some n
  | some (.v (.int _ i)) => some i
  | _ => none
def pvSlice (k : Kd) (e : Elem) (x : SV) (lo hi : Option SV) : Option (Prop × SV) :=
  match k, e, x with
  | .sl, .sl size, .v (.slice a len cap) => match bndV 0 lo, bndV len hi, hi with
    | some l, some h, some _ => some ((0 ≤ l ∧ l ≤ h) ∧ h ≤ cap, .v (.slice (slA a size l.toNat cap) (h.toNat - l.toNat) (cap - l.toNat)))
    | some l, some h, none => some (0 ≤ l ∧ l ≤ h, .v (.slice (slA a size l.toNat cap) (h.toNat - l.toNat) (cap - l.toNat)))
    | _, _, _ => none
  | .str, _, .v (.string s) => match bndV 0 lo, bndV s.size hi with
    | some l, some h => some ((0 ≤ l ∧ l ≤ h) ∧ h ≤ s.size, .v (.string (s.extract l.toNat h.toNat)))
    | _, _ => none
  | _, _, _ => none
def pv (P : Program) (bx : List Box) (ρ : Operand → SV) (op : Op) : Option (Prop × SV) :=
  match op with
  | .move x | .assign x => match ρ x with | .u => none | sv => some (True, sv)
  | .pick c x y => match ρ c with | .v (.bool b) => some (True, if b then ρ x else ρ y) | _ => none
  | .load T x => pvLoad P bx T (ρ x)
  | .fieldAddr T x f => match fieldOf P T f with | some (n, _) => pvAt n (ρ x) | none => none
  | .nilCheck x => pvNil (ρ x)
  | .indexAddr T x i => pvIx (elOf P T) (ρ x) (ρ i)
  | .index T x i => pvIndex (kindOf P T) (ρ x) (ρ i)
  | .field T x f => match fieldOf P T f, ρ x with | some (n, ty), .v (.agg cs) => okV (rdCells P ty cs.toList n) | _, _ => none
  | .extract x n => match ρ x with | .v (.tuple vs) => okV vs.toList[n]? | _ => none
  | .build T ps => match allP ρ ps.toList with | some l => okV (buildV P T l) | none => none
  | .binOp op _ x y _ => match ρ x, ρ y with | .v a, .v b => okV (binV op a b) | _, _ => none
  | .unOp op _ x => match ρ x with | .v a => okV (unV op a) | _ => none
  | .convert s d x => match hasU P s, ρ x with | true, .v a => okV (convV P d a) | _, _ => none
  | .makeFunc fn f c => match allV ρ f.toList, allV ρ c.toList with | some l, some m => some (True, .v (.func fn l.toArray m.toArray)) | _, _ => none
  | .call c => pvCall P ρ c
  | .slice T x lo hi none => pvSlice (kindOf P T) (elOf P T) (ρ x) (lo.map ρ) (hi.map ρ)
  | _ => none
theorem okV_some {x : Option Value} {φ : Prop} {sv : SV} (h : okV x = some (φ, sv)) : ∃ v, x = some v ∧ sv = .v v := by
  cases x with
  | none => cases h
  | some v => cases h; exact ⟨v, rfl, rfl⟩
theorem allV_sound {n0 : Nat} {β : Nat → Nat} {σ : St} {H : PH} {a : Act} {w : World} (g : GB n0 β σ H a w) : ∀ (l : List Operand) (r : List Value), allV (ev σ) l = some r → l.map a.eval = r
  | [], r, h => by cases h; rfl
  | x :: l, r, h => by
    simp only [allV] at h
    split at h
    · rename_i y r' hx hr
      cases h
      have := g.ev x
      rw [hx] at this
      simp only [matchSV] at this
      simp [this, allV_sound g l _ hr]
    · cases h
theorem allP_sound {n0 : Nat} {β : Nat → Nat} {σ : St} {H : PH} {a : Act} {w : World} (g : GB n0 β σ H a w) : ∀ (l : List (Nat × Operand)) (r : List (Nat × Value)), allP (ev σ) l = some r → l.map (fun x => (x.1, a.eval x.2)) = r
  | [], r, h => by cases h; rfl
  | (i, x) :: l, r, h => by
    simp only [allP] at h
    split at h
    · rename_i y r' hx hr
      cases h
      have := g.ev x
      rw [hx] at this
      simp only [matchSV] at this
      simp [this, allP_sound g l _ hr]
    · cases h
theorem fieldOf_run {P : Program} {w : World} {T : TypeId} {f n : Nat} {ty : TypeId} (h : fieldOf P T f = some (n, ty)) (b off : Nat) :
    (Instr.fieldAt T (.pointer (some ⟨b, off, none⟩)) f).run P w = .ok (.pointer (some ⟨b, off + n, none⟩)) w := by
  unfold fieldOf at h
  split at h
  · rename_i fs hu
    split at h
    · rename_i g hg
      split at h
      · rename_i i hi
        split at h
        · cases h
        · rename_i hz
          cases h
          have und : (underlying T).run P w = .ok (.struct fs) w := by simp [underlying, program, Sem.run, hu]
          have sz : (sizeOf g.type).run P w = .ok i.size w := by simp [sizeOf, typeInfo, program, Sem.run, hi]
          simp only [Instr.fieldAt, Sem.run_bind, und, Result.andThen, hg, Instr.sureAddr]
          simp [fieldPlace, Sem.run_bind, sz, Result.andThen, hz, add_block]
      · cases h
    · cases h
  · cases h
theorem run_part {P : Program} {w : World} {T : TypeId} {cs : Array Value} {n : Nat} {v : Value} (h : rdCells P T cs.toList n = some v) : (part T cs n).run P w = .ok v w := by
  unfold rdCells aggOf at h
  cases hu : P.underlying T with
  | none => rw [hu] at h; simp at h
  | some d =>
    rw [hu] at h
    cases hi : P.info? T with
    | none => rw [hi] at h; cases d <;> simp at h
    | some i =>
      rw [hi] at h
      have hag := run_isAgg (P := P) (w := w) hu
      have one : (isAgg T).run P w = .ok false w → cs[n]? = some v → (part T cs n).run P w = .ok v w := by
        intro h1 h2
        simp only [part, Sem.run_bind, h1, Result.andThen, h2]
        simp
      have agg : (isAgg T).run P w = .ok true w → (part T cs n).run P w = .ok (.agg ((cs.toList.drop n).take i.size).toArray) w := by
        intro h1
        have sz : (sizeOf T).run P w = .ok i.size w := by simp [sizeOf, typeInfo, program, Sem.run, hi]
        simp [part, h1, Result.andThen, sz]
        rw [← Array.toList_inj]
        simp [List.extract_eq_take_drop]
      cases d <;> simp only at h hag <;>
        first
        | (split at h
           · cases h; exact agg hag
           · cases h)
        | (by_cases h1 : i.size = 1
           · simp only [h1, if_true] at h; exact one hag (by simpa using h)
           · simp only [h1, if_false] at h; cases h)
theorem kindOf_und {P : Program} {w : World} {T : TypeId} {d : TypeDesc} (h : P.underlying T = some d) : (underlying T).run P w = .ok d w := by
  simp [underlying, program, Sem.run, h]
theorem run_ix {P : Program} {w : World} {T : TypeId} {e : Elem} (he : elOf P T = e) {β : Nat → Nat} {x i sv : SV} {φ : Prop} {vx vi : Value}
    (h : pvIx e x i = some (φ, sv)) (hφ : φ) (hx : matchSV β x vx) (hi : matchSV β i vi) :
    ∃ y, (Instr.indexAt T vx vi).run P w = .ok y w ∧ matchSV β sv y := by
  unfold elOf at he
  unfold pvIx at h
  split at h
  · rename_i len size k off kk n
    cases h
    simp only [matchSV] at hx hi
    subst hx; subst hi
    split at he
    · rename_i n' e' hu
      split at he
      · rename_i ie hie
        cases he
        have sz : (sizeOf e').run P w = .ok ie.size w := by simp [sizeOf, typeInfo, program, Sem.run, hie]
        refine ⟨_, ?_, rfl⟩
        simp only [Instr.indexAt, Sem.run_bind, asIntOf, kindOf_und hu]
        simp [Result.andThen, Instr.sureAddr, kindOf_und hu, hφ, sz, add_block]
      · cases he
    · split at he <;> cases he
    · cases he
  · rename_i len size b off kk n
    cases h
    simp only [matchSV] at hx hi
    subst hx; subst hi
    split at he
    · rename_i n' e' hu
      split at he
      · rename_i ie hie
        cases he
        have sz : (sizeOf e').run P w = .ok ie.size w := by simp [sizeOf, typeInfo, program, Sem.run, hie]
        refine ⟨_, ?_, rfl⟩
        simp only [Instr.indexAt, Sem.run_bind, asIntOf, kindOf_und hu]
        simp [Result.andThen, Instr.sureAddr, kindOf_und hu, hφ, sz, add_block]
      · cases he
    · split at he <;> cases he
    · cases he
  · rename_i size b off len cap kk n
    cases h
    simp only [matchSV] at hx hi
    subst hx; subst hi
    split at he
    · split at he <;> cases he
    · rename_i e' hu
      split at he
      · rename_i ie hie
        cases he
        have sz : (sizeOf e').run P w = .ok ie.size w := by simp [sizeOf, typeInfo, program, Sem.run, hie]
        refine ⟨_, ?_, rfl⟩
        simp only [Instr.indexAt, Sem.run_bind, asIntOf, kindOf_und hu]
        simp [Result.andThen, kindOf_und hu, hφ, sz, add_block]
      · cases he
    · cases he
  · cases h
theorem bnd_some {n : Nat} {s : SV} {i : Int} (h : bndV n (some s) = some i) : ∃ k, s = .v (.int k i) := by
  cases s with
  | v x => cases x <;> simp only [bndV] at h <;> first | (cases h; done) | (cases h; exact ⟨_, rfl⟩)
  | p k off => simp [bndV] at h
  | u => simp [bndV] at h
theorem bound_run {P : Program} {w : World} {k : IntKind} {i : Int} {y : Nat} {code : BoundsCode} (h0 : 0 ≤ i) (hy : i ≤ y) : (Instr.sliceBound (.int k i) y code).run P w = .ok i.toNat w := by
  simp [Instr.sliceBound, asIntOf, Result.andThen, h0, hy]
theorem eval_v {n0 : Nat} {β : Nat → Nat} {σ : St} {H : PH} {a : Act} {w : World} (g : GB n0 β σ H a w) {x : Operand} {v : Value} (h : ev σ x = .v v) : a.eval x = v := by
  have := g.ev x
  rw [h] at this
  exact this
theorem map_eq_toArray {ρ : Operand → Value} {xs : Array Operand} {l : List Value} (h : xs.toList.map ρ = l) : xs.map ρ = l.toArray := by
  rw [← Array.toList_inj]; simpa using h
theorem run_lenV {P : Program} {w : World} {T τ : TypeId} {x v : Value} (h : lenV P T x = some v) : (Builtin.len_ #[T] τ #[x]).run P w = .ok v w := by
  unfold lenV at h
  split at h
  · rename_i hk
    cases h
    unfold kindOf at hk
    split at hk <;> cases hk
    rename_i hu
    simp [Builtin.len_, kindOf_und hu, Result.andThen, goInt]
  · rename_i hk
    cases h
    unfold kindOf at hk
    split at hk <;> cases hk
    rename_i hu
    simp [Builtin.len_, kindOf_und hu, Result.andThen, goInt]
  · cases h
theorem run_capV {P : Program} {w : World} {T τ : TypeId} {x v : Value} (h : capV P T x = some v) : (Builtin.cap_ #[T] τ #[x]).run P w = .ok v w := by
  unfold capV at h
  split at h
  · rename_i hk
    cases h
    unfold kindOf at hk
    split at hk <;> cases hk
    rename_i hu
    simp [Builtin.cap_, kindOf_und hu, Result.andThen, goInt]
  · cases h
theorem run_minV {P : Program} {w : World} {x y v : Value} (h : minV x y = some v) : (Builtin.min2 x y).run P w = .ok v w := by
  unfold minV at h
  split at h
  · cases h; simp [Builtin.min2]
  · cases h
theorem run_maxV {P : Program} {w : World} {x y v : Value} (h : maxV x y = some v) : (Builtin.max2 x y).run P w = .ok v w := by
  unfold maxV at h
  split at h
  · cases h; simp [Builtin.max2]
  · cases h
theorem run_convV {P : Program} {w : World} {S T : TypeId} {x v : Value} (hs : ∃ d, P.underlying S = some d) (h : convV P T x = some v) : (convert S T x).run P w = .ok v w := by
  obtain ⟨ds, hs⟩ := hs
  unfold convV at h
  split at h
  · rename_i hk
    cases h
    unfold kindOf at hk
    split at hk <;> cases hk
    rename_i hu
    simp [convert, kindOf_und hu, kindOf_und hs, Result.andThen, Conv.intToInt]
  · cases h
end Go.Sx
end
section
namespace Go.Sx
open Go
theorem pvCall_sound {P : Program} {n0 : Nat} {β : Nat → Nat} {σ : St} {H : PH} {a : Act} {w : World} (g : GB n0 β σ H a w) {o : Oper} {c : Call} {φ : Prop} {sv : SV} (ho : o.op = .call c)
    (h : pvCall P (ev σ) c = some (φ, sv)) : ∃ y, (execOp a.eval o).run P w = .ok (.value y) w ∧ matchSV β sv y := by
  obtain ⟨callee, args, types⟩ := c
  unfold pvCall at h
  simp only at h
  split at h
  · rename_i x t ha ht
    obtain rfl : args = #[x] := by rw [← Array.toList_inj]; simpa using ha
    obtain rfl : types = #[t] := by rw [← Array.toList_inj]; simpa using ht
    split at h
    · rename_i v hv
      obtain ⟨r, hr, rfl⟩ := okV_some h
      refine ⟨r, ?_, rfl⟩
      simp [execOp, ho, resolve, eval_v g hv, invoke, builtin, Result.andThen, run_lenV hr]
    · cases h
  · rename_i x t ha ht
    obtain rfl : args = #[x] := by rw [← Array.toList_inj]; simpa using ha
    obtain rfl : types = #[t] := by rw [← Array.toList_inj]; simpa using ht
    split at h
    · rename_i v hv
      obtain ⟨r, hr, rfl⟩ := okV_some h
      refine ⟨r, ?_, rfl⟩
      simp [execOp, ho, resolve, eval_v g hv, invoke, builtin, Result.andThen, run_capV hr]
    · cases h
  · rename_i x y ha
    obtain rfl : args = #[x, y] := by rw [← Array.toList_inj]; simpa using ha
    split at h
    · rename_i v v' hv hv'
      obtain ⟨r, hr, rfl⟩ := okV_some h
      refine ⟨r, ?_, rfl⟩
      simp [execOp, ho, resolve, eval_v g hv, eval_v g hv', invoke, builtin, Builtin.min_, Result.andThen, run_minV hr]
    · cases h
  · rename_i x y ha
    obtain rfl : args = #[x, y] := by rw [← Array.toList_inj]; simpa using ha
    split at h
    · rename_i v v' hv hv'
      obtain ⟨r, hr, rfl⟩ := okV_some h
      refine ⟨r, ?_, rfl⟩
      simp [execOp, ho, resolve, eval_v g hv, eval_v g hv', invoke, builtin, Builtin.max_, Result.andThen, run_maxV hr]
    · cases h
  · cases h
theorem pv_sound {P : Program} {n0 : Nat} {β : Nat → Nat} {σ : St} {H : PH} {a : Act} {w : World} (g : GB n0 β σ H a w) {o : Oper} {φ : Prop} {sv : SV}
    (h : pv P σ.bx (ev σ) o.op = some (φ, sv)) (hφ : φ) : ∃ y, (execOp a.eval o).run P w = .ok (.value y) w ∧ matchSV β sv y := by
  obtain ⟨dst, op, type, pos, after, guard⟩ := o
  simp only at h
  have mv : ∀ (x : Operand), (match ev σ x with | .u => (none : Option (Prop × SV)) | sv => some (True, sv)) = some (φ, sv) → matchSV β sv (a.eval x) := by
    intro x hx
    have := g.ev x
    cases he : ev σ x <;> rw [he] at hx this <;> cases hx <;> exact this
  cases op <;> simp only [pv] at h <;> try (cases h; done)
  case move x => exact ⟨a.eval x, by simp [execOp], mv x h⟩
  case assign x => exact ⟨a.eval x, by simp [execOp], mv x h⟩
  case pick c x y =>
    split at h
    · rename_i b hb
      cases h
      cases b
      · exact ⟨a.eval y, by simp [execOp, eval_v g hb, asBool], g.ev y⟩
      · exact ⟨a.eval x, by simp [execOp, eval_v g hb, asBool], g.ev x⟩
    · cases h
  case load T x =>
    unfold pvLoad at h
    split at h
    · rename_i k off hx
      split at h
      · rename_i B hB
        split at h
        · rename_i v hv
          cases h
          obtain ⟨hm, rfl⟩ := findB_mem hB
          have ha := g.ev x
          rw [hx] at ha
          simp only [matchSV] at ha
          refine ⟨v, ?_, rfl⟩
          have := run_loadVar (P := P) (w := w) (off := off) (g.bx B hm).1 hv
          simp [execOp, ha, Instr.loadAt, Instr.sureAddr, this, Result.andThen]
        · cases h
      · cases h
    · cases h
  case fieldAddr T x f =>
    split at h
    · rename_i n ty hf
      unfold pvAt at h
      split at h
      · rename_i k off hx
        cases h
        have ha := g.ev x
        rw [hx] at ha
        simp only [matchSV] at ha
        exact ⟨_, by simp [execOp, ha, fieldOf_run hf, Result.andThen], rfl⟩
      · rename_i b off hx
        cases h
        exact ⟨_, by simp [execOp, eval_v g hx, fieldOf_run hf, Result.andThen], rfl⟩
      · cases h
    · cases h
  case nilCheck x =>
    unfold pvNil at h
    split at h
    · rename_i k off hx
      cases h
      have ha := g.ev x
      rw [hx] at ha
      simp only [matchSV] at ha
      exact ⟨_, by simp [execOp, ha], rfl⟩
    · rename_i p hx
      cases h
      exact ⟨_, by simp [execOp, eval_v g hx], rfl⟩
    · cases h
  case indexAddr T x i =>
    obtain ⟨y, hy, hm⟩ := run_ix (P := P) (w := w) (T := T) rfl h hφ (g.ev x) (g.ev i)
    exact ⟨y, by simp [execOp, hy, Result.andThen], hm⟩
  case index T x i =>
    unfold pvIndex at h
    split at h
    · rename_i s k n hk hx hi
      cases h
      unfold kindOf at hk
      split at hk <;> cases hk
      rename_i hu
      refine ⟨_, ?_, rfl⟩
      obtain ⟨h0, h1⟩ := hφ
      obtain ⟨m, rfl⟩ := Int.eq_ofNat_of_zero_le h0
      have hm : m < s.size := by omega
      have hg : s[m]? = some s[m] := by simp [hm]
      have hb : (s.data.toList.getD m 0) = s[m] := by
        have : m < s.data.size := hm
        simp [Array.getElem?_eq_getElem this]; rfl
      simp only [execOp, Instr.index, Sem.run_bind, asIntOf, eval_v g hx, eval_v g hi, kindOf_und hu]
      simp [Result.andThen, hm, byteAt, hb]
      rfl
    · cases h
  case field T x f =>
    split at h
    · rename_i n ty cs hf hx
      obtain ⟨r, hr, rfl⟩ := okV_some h
      refine ⟨r, ?_, rfl⟩
      unfold fieldOf at hf
      split at hf
      · rename_i fs hu
        split at hf
        · rename_i g' hg
          split at hf
          · split at hf
            · cases hf
            · cases hf
              simp [execOp, Instr.field, kindOf_und hu, Result.andThen, hg, eval_v g hx, asAgg, run_part hr]
          · cases hf
        · cases hf
      · cases hf
    · cases h
  case extract x n =>
    split at h
    · rename_i vs hx
      obtain ⟨r, hr, rfl⟩ := okV_some h
      refine ⟨r, ?_, rfl⟩
      have hr' : vs[n]? = some r := by simpa using hr
      simp [execOp, Instr.extract, eval_v g hx, hr', Result.andThen]
    · cases h
  case build T ps =>
    split at h
    · rename_i l hl
      obtain ⟨r, hr, rfl⟩ := okV_some h
      refine ⟨r, ?_, rfl⟩
      have hp := allP_sound g _ _ hl
      have : (ps.map fun (i, x) => (i, a.eval x)) = l.toArray := by rw [← Array.toList_inj]; simpa using hp
      have hb := run_build (P := P) (w := w) (T := T) (parts := l.toArray) (by simpa using hr)
      simp only [execOp, this, Sem.run_bind, hb]
      simp [Result.andThen]
    · cases h
  case binOp op T x y T' =>
    split at h
    · rename_i v v' hx hy
      obtain ⟨r, hr, rfl⟩ := okV_some h
      refine ⟨r, ?_, rfl⟩
      have := run_binV (P := P) (w := w) (T := T) (ox := x) (oy := y) hr
      simp only [execOp, eval_v g hx, eval_v g hy, Sem.run_bind] at this ⊢
      rw [this]; simp [Result.andThen]
    · cases h
  case unOp op T x =>
    split at h
    · rename_i v hx
      obtain ⟨r, hr, rfl⟩ := okV_some h
      exact ⟨r, by simp [execOp, eval_v g hx, run_unV hr, Result.andThen], rfl⟩
    · cases h
  case convert s d x =>
    split at h
    · rename_i v hs hx
      obtain ⟨r, hr, rfl⟩ := okV_some h
      exact ⟨r, by simp [execOp, eval_v g hx, run_convV (P := P) (w := w) (Option.isSome_iff_exists.1 hs) hr, Result.andThen], rfl⟩
    · cases h
  case makeFunc fn f c =>
    split at h
    · rename_i l m hl hm
      cases h
      refine ⟨_, ?_, rfl⟩
      simp [execOp, map_eq_toArray (allV_sound g _ _ hl), map_eq_toArray (allV_sound g _ _ hm), Instr.makeFunc, Result.andThen]
    · cases h
  case slice T x lo hi mx =>
    cases mx with
    | some m => cases h
    | none =>
      simp only at h
      unfold pvSlice at h
      split at h
      · rename_i size aa len cap hk he hx
        unfold kindOf at hk
        split at hk <;> cases hk
        rename_i e hu
        have hsz : (sizeOf e).run P w = .ok size w := by
          unfold elOf at he
          rw [hu] at he
          simp only at he
          split at he
          · rename_i ie hie; cases he; simp [sizeOf, typeInfo, program, Sem.run, hie]
          · cases he
        have hxv := eval_v g hx
        cases lo with
        | none =>
          cases hi with
          | none =>
            simp only [Option.map_none, bndV] at h
            cases h
            exact ⟨_, by simp [execOp, Instr.sliceAt, hxv, kindOf_und hu, Instr.slice, Instr.sliceBounds, Result.andThen, hsz, slA], rfl⟩
          | some zh =>
            simp only [Option.map_none, Option.map_some] at h
            split at h
            · rename_i l hh hiv hl hhv hs
              cases hs
              cases h
              obtain ⟨k2, hz⟩ := bnd_some hhv
              simp only [bndV, Option.some.injEq] at hl
              subst hl
              have r1 := bound_run (P := P) (w := w) (k := k2) (code := .sliceAcap) (y := cap) hφ.1.2 hφ.2
              exact ⟨_, by simp [execOp, Instr.sliceAt, hxv, kindOf_und hu, Instr.slice, Instr.sliceBounds, Result.andThen, hsz, slA, eval_v g hz, r1], rfl⟩
            · rename_i hs; cases hs
            · cases h
        | some zl =>
          cases hi with
          | none =>
            simp only [Option.map_none, Option.map_some] at h
            split at h
            · rename_i hs; cases hs
            · rename_i l hh hl hhv _
              cases h
              obtain ⟨k2, hz⟩ := bnd_some hl
              simp only [bndV, Option.some.injEq] at hhv
              subst hhv
              have r1 := bound_run (P := P) (w := w) (k := k2) (code := .sliceB) (y := len) hφ.1 hφ.2
              exact ⟨_, by simp [execOp, Instr.sliceAt, hxv, kindOf_und hu, Instr.slice, Instr.sliceBounds, Result.andThen, hsz, slA, eval_v g hz, r1], rfl⟩
            · cases h
          | some zh =>
            simp only [Option.map_some] at h
            split at h
            · rename_i l hh hiv hl hhv hs
              cases hs
              cases h
              obtain ⟨k1, hz1⟩ := bnd_some hl
              obtain ⟨k2, hz2⟩ := bnd_some hhv
              have h0 := hφ.1.1
              have h1 := hφ.1.2
              have r1 := bound_run (P := P) (w := w) (k := k2) (code := .sliceAcap) (y := cap) (by omega) hφ.2
              have r2 := bound_run (P := P) (w := w) (k := k1) (code := .sliceB) (y := hh.toNat) h0 (by omega)
              exact ⟨_, by simp [execOp, Instr.sliceAt, hxv, kindOf_und hu, Instr.slice, Instr.sliceBounds, Result.andThen, hsz, slA, eval_v g hz1, eval_v g hz2, r1, r2], rfl⟩
            · rename_i hs; cases hs
            · cases h
      · rename_i e s hk hx
        unfold kindOf at hk
        split at hk <;> cases hk
        rename_i hu
        have hxv := eval_v g hx
        split at h
        · rename_i l hh hl hhv
          cases h
          have h0 := hφ.1.1
          have h1 := hφ.1.2
          have h2 := hφ.2
          cases lo with
          | none =>
            simp only [Option.map_none, bndV, Option.some.injEq] at hl
            subst hl
            cases hi with
            | none =>
              simp only [Option.map_none, bndV, Option.some.injEq] at hhv
              subst hhv
              exact ⟨_, by simp [execOp, Instr.sliceAt, hxv, kindOf_und hu, Instr.slice, Instr.sliceBounds, Result.andThen], rfl⟩
            | some zh =>
              obtain ⟨k2, hz⟩ := bnd_some hhv
              have r1 := bound_run (P := P) (w := w) (k := k2) (code := .sliceAlen) (y := s.size) h1 h2
              exact ⟨_, by simp [execOp, Instr.sliceAt, hxv, kindOf_und hu, Instr.slice, Instr.sliceBounds, Result.andThen, eval_v g hz, r1], rfl⟩
          | some zl =>
            obtain ⟨k1, hz1⟩ := bnd_some hl
            cases hi with
            | none =>
              simp only [Option.map_none, bndV, Option.some.injEq] at hhv
              subst hhv
              have r1 := bound_run (P := P) (w := w) (k := k1) (code := .sliceB) (y := s.size) h0 h1
              exact ⟨_, by simp [execOp, Instr.sliceAt, hxv, kindOf_und hu, Instr.slice, Instr.sliceBounds, Result.andThen, eval_v g hz1, r1], rfl⟩
            | some zh =>
              obtain ⟨k2, hz2⟩ := bnd_some hhv
              have r1 := bound_run (P := P) (w := w) (k := k2) (code := .sliceAlen) (y := s.size) (by omega) h2
              have r2 := bound_run (P := P) (w := w) (k := k1) (code := .sliceB) (y := hh.toNat) h0 (by omega)
              exact ⟨_, by simp [execOp, Instr.sliceAt, hxv, kindOf_und hu, Instr.slice, Instr.sliceBounds, Result.andThen, eval_v g hz1, eval_v g hz2, r1, r2], rfl⟩
        · cases h
      · cases h
  case call c => exact pvCall_sound (o := ⟨dst, .call c, type, pos, after, guard⟩) g rfl h
end Go.Sx
end
section
namespace Go.Sx
open Go
theorem mem_dropB {l : List Box} {k : Nat} {B : Box} (h : B ∈ dropB l k) : B ∈ l ∧ B.key ≠ k := by
  induction l with
  | nil => simp [dropB] at h
  | cons b l ih =>
    simp only [dropB] at h
    split at h
    · obtain ⟨h1, h2⟩ := ih h; exact ⟨.tail _ h1, h2⟩
    · rcases List.mem_cons.1 h with rfl | h
      · exact ⟨.head _, by assumption⟩
      · obtain ⟨h1, h2⟩ := ih h; exact ⟨.tail _ h1, h2⟩
theorem mem_insB {l : List Box} {x B : Box} : B ∈ insB x l ↔ B = x ∨ B ∈ l := by
  induction l with
  | nil => simp [insB]
  | cons b l ih =>
    simp only [insB]
    split
    · simp only [List.mem_cons, ih]; constructor <;> (intro h; rcases h with h | h | h <;> simp_all)
    · simp
theorem dropB_pairwise {l : List Box} {k : Nat} (h : l.Pairwise (fun x y => x.key ≠ y.key)) : (dropB l k).Pairwise (fun x y => x.key ≠ y.key) := by
  induction l with
  | nil => simp [dropB]
  | cons b l ih =>
    rw [List.pairwise_cons] at h
    simp only [dropB]
    split
    · exact ih h.2
    · exact List.pairwise_cons.2 ⟨fun y hy => h.1 y (mem_dropB hy).1, ih h.2⟩
theorem insB_pairwise {l : List Box} {x : Box} (h : l.Pairwise (fun x y => x.key ≠ y.key)) (hx : ∀ B ∈ l, B.key ≠ x.key) : (insB x l).Pairwise (fun x y => x.key ≠ y.key) := by
  induction l with
  | nil => simp [insB]
  | cons b l ih =>
    have h' := h
    rw [List.pairwise_cons] at h
    simp only [insB]
    split
    · refine List.pairwise_cons.2 ⟨fun y hy => ?_, ih h.2 fun B hB => hx B (.tail _ hB)⟩
      rcases mem_insB.1 hy with rfl | hy
      · exact hx b (.head _)
      · exact h.1 y hy
    · refine List.pairwise_cons.2 ⟨fun y hy => (hx y hy).symm, h'⟩
theorem updB_mem {l : List Box} {k off : Nat} {cs : List Value} {B : Box} (hk : l.Pairwise (fun x y => x.key ≠ y.key)) (h : B ∈ updB l k off cs) :
    (B ∈ l ∧ B.key ≠ k) ∨ (∃ B0 ∈ l, B0.key = k ∧ B = { B0 with cs := setCs B0.cs off cs }) := by
  induction l with
  | nil => simp [updB] at h
  | cons b l ih =>
    rw [List.pairwise_cons] at hk
    simp only [updB] at h
    split at h
    · rename_i e
      rcases List.mem_cons.1 h with rfl | h
      · exact .inr ⟨b, .head _, e, rfl⟩
      · exact .inl ⟨.tail _ h, fun e' => hk.1 B h (e.trans e'.symm)⟩
    · rename_i e
      rcases List.mem_cons.1 h with rfl | h
      · exact .inl ⟨.head _, e⟩
      · rcases ih hk.2 h with ⟨h1, h2⟩ | ⟨B0, h1, h2, h3⟩
        · exact .inl ⟨.tail _ h1, h2⟩
        · exact .inr ⟨B0, .tail _ h1, h2, h3⟩
theorem updB_keys (l : List Box) (k off : Nat) (cs : List Value) : (updB l k off cs).map (·.key) = l.map (·.key) := by
  induction l with
  | nil => rfl
  | cons b l ih => simp only [updB]; split <;> simp [ih]
def acOf (P : Program) (ρ : Operand → SV) (op : Op) : Option (TypeId × List Value) :=
  match op with
  | .alloc T => match zeroOf P T with | some z => some (T, z.cells.toList) | none => none
  | .box T x => match ρ x with | .v v => some (T, v.cells.toList) | _ => none
  | _ => none
theorem heap_push {w : World} {o : Obj} {b : Nat} (h : b < w.heap.size) : (w.heap.push o)[b]? = w.heap[b]? := by
  rw [Array.getElem?_push, if_neg (by omega)]
theorem Step.alloc {H0 : PH} {w0 : World} {H : PH} {w : World} (s : Step H0 w0 H w) (o : Obj) : Step H0 w0 H { w with heap := w.heap.push o } where
  sub := fun b x h => by
    have := s.sub b x h
    have hb : b < w.heap.size := by
      rcases Nat.lt_or_ge b w.heap.size with h | h
      · exact h
      · rw [Array.getElem?_eq_none h] at this; cases this
    rw [show ({ w with heap := w.heap.push o } : World).heap = w.heap.push o from rfl, heap_push hb]; exact this
  size := by simp; have := s.size; omega
  priv := fun b hb hn => by
    rw [show ({ w with heap := w.heap.push o } : World).heap = w.heap.push o from rfl, heap_push (Nat.lt_of_lt_of_le hb s.size)]
    exact s.priv b hb hn
  dom := s.dom
  os := s.os
  tape := s.tape
  out := s.out
theorem lt_size_of {w : World} {b : Nat} {o : Obj} (h : w.heap[b]? = some o) : b < w.heap.size := by
  rcases Nat.lt_or_ge b w.heap.size with h1 | h1
  · exact h1
  · rw [Array.getElem?_eq_none h1] at h; cases h
theorem GB.newBox {n0 : Nat} {β : Nat → Nat} {σ : St} {H0 H : PH} {a : Act} {w0 w : World} (hn : n0 = w0.heap.size) (s : Step H0 w0 H w) (g : GB n0 β σ H a w) (d : Nat) (T : TypeId) (cs : List Value) :
    GB n0 (fun k => if k = d then w.heap.size else β k) (σ.newBox d T cs) H (a.put (some d) (.pointer (some ⟨w.heap.size, 0, none⟩))) { w with heap := w.heap.push (.cells cs.toArray T (0, 0)) } := by
  have old : ∀ B ∈ dropB σ.bx d, B ∈ σ.bx ∧ B.key ≠ d := fun B h => mem_dropB h
  have lt : ∀ B ∈ σ.bx, β B.key < w.heap.size := fun B h => lt_size_of (g.bx B h).1
  have hsz := s.size
  constructor
  · exact g.defers.keep fun d' _ h1 h2 => ⟨h1, (heap_push (lt_size_of h2)).trans h2⟩
  · simp [Act.put, St.newBox, setT_length, g.size]
  · intro t x hx
    simp only [St.newBox, setT_getElem?, List.length_map] at hx
    have hlen := g.size
    by_cases e : d = t
    · subst e
      simp only [if_true] at hx
      split at hx
      · cases hx
        rename_i hl
        simp only [Act.put, Array.getD_eq_getD_getElem?]
        rw [Array.getElem?_setIfInBounds_self_of_lt (by omega)]
        simp [matchSV]
      · cases hx
    · simp only [if_neg e, List.getElem?_map, Option.map_eq_some_iff] at hx
      obtain ⟨sv, hsv, rfl⟩ := hx
      have := g.tm t sv hsv
      have h2 : (a.put (some d) (.pointer (some ⟨w.heap.size, 0, none⟩))).tmps.getD t undef = a.tmps.getD t undef := by
        simp [Act.put, Array.getD_eq_getD_getElem?, Array.getElem?_setIfInBounds_ne e]
      rw [h2]
      cases sv with
      | v x => exact this
      | u => trivial
      | p k off =>
        simp only [clr]
        split
        · trivial
        · rename_i hk
          simpa [matchSV, hk] using this
  · intro B hB
    rcases mem_insB.1 hB with rfl | hB
    · refine ⟨by simp, ?_⟩
      simp only [if_true]
      cases hH : H w.heap.size with
      | none => rfl
      | some o => exact absurd (lt_size_of (s.sub _ _ hH)) (by omega)
    · obtain ⟨hm, hk⟩ := old B hB
      simp only [if_neg hk]
      have := g.bx B hm
      refine ⟨?_, this.2⟩
      rw [heap_push (lt B hm)]; exact this.1
  · intro B hB B' hB' he
    rcases mem_insB.1 hB with rfl | hB <;> rcases mem_insB.1 hB' with rfl | hB'
    · rfl
    · obtain ⟨hm, hk⟩ := old B' hB'
      simp only [if_true, if_neg hk] at he
      have := lt B' hm; omega
    · obtain ⟨hm, hk⟩ := old B hB
      simp only [if_true, if_neg hk] at he
      have := lt B hm; omega
    · obtain ⟨hm, hk⟩ := old B hB
      obtain ⟨hm', hk'⟩ := old B' hB'
      simp only [if_neg hk, if_neg hk'] at he
      exact g.inj B hm B' hm' he
  · intro B hB
    rcases mem_insB.1 hB with rfl | hB
    · simp; omega
    · obtain ⟨hm, hk⟩ := old B hB
      simp only [if_neg hk]; exact g.lo B hm
  · exact insB_pairwise (dropB_pairwise g.keys) fun B hB => (old B hB).2
theorem acOf_sound {P : Program} {n0 : Nat} {β : Nat → Nat} {σ : St} {H : PH} {a : Act} {w : World} (g : GB n0 β σ H a w) {o : Oper} {T : TypeId} {cs : List Value}
    (h : acOf P (ev σ) o.op = some (T, cs)) : (execOp a.eval o).run P w = .ok (.value (.pointer (some ⟨w.heap.size, 0, none⟩))) { w with heap := w.heap.push (.cells cs.toArray T (0, 0)) } := by
  obtain ⟨dst, op, type, pos, after, guard⟩ := o
  simp only at h
  cases op <;> simp only [acOf] at h <;> try (cases h; done)
  case alloc T' =>
    unfold zeroOf at h
    cases hi : P.info? T' with
    | none => rw [hi] at h; cases h
    | some i =>
      rw [hi] at h
      simp only [Option.bind_some] at h
      cases hz : i.zero with
      | none => rw [hz] at h; cases h
      | some z =>
        rw [hz] at h
        have zv : (zeroValue T').run P w = .ok z w := by simp [zeroValue, typeInfo, program, Sem.run, hi, hz]
        cases h
        simp [execOp, Instr.alloc, zv, Result.andThen, newVar, newRow, newObj, Sem.run]
  case box T' x =>
    split at h
    · rename_i v hv
      cases h
      simp [execOp, Instr.box, eval_v g hv, Result.andThen, newVar, newRow, newObj, Sem.run]
    · cases h
def stOf (P : Program) (bx : List Box) (ρ : Operand → SV) (op : Op) : Option (Nat × Nat × List Value) :=
  match op with
  | .store T x y => match ρ x, ρ y with
    | .p k off, .v v => match cellsV v, szOf P T, findB bx k with
      | some cs, some n, some B => if cs.length = n ∧ off + n ≤ B.cs.length then some (k, off, cs) else none
      | _, _, _ => none
    | _, _ => none
  | _ => none
theorem run_storeCells {P : Program} (b : Nat) (ty : TypeId) : ∀ (vs : List Value) (i off : Nat) (cs : List Value) (w : World), w.heap[b]? = some (.cells cs.toArray ty (0, 0)) → off + i + vs.length ≤ cs.length → (∀ v ∈ vs, one v = true) →
    ∃ w2, (storeCells ⟨b, off, none⟩ vs i).run P w = .ok () w2 ∧ w2.heap[b]? = some (.cells (setCs cs (off + i) vs).toArray ty (0, 0)) ∧ (∀ k, k ≠ b → w2.heap[k]? = w.heap[k]?) ∧ w2.heap.size = w.heap.size ∧ w2.os = w.os ∧ w2.tape = w.tape ∧ w2.output = w.output
  | [], i, off, cs, w, h, _, _ => ⟨w, by simp [storeCells], by simpa [setCs] using h, fun _ _ => rfl, rfl, rfl, rfl, rfl⟩
  | v :: vs, i, off, cs, w, h, hl, ho => by
    simp only [List.length_cons] at hl
    have hc : w.cell? ⟨b, off + i, none⟩ = cs[off + i]? := cell_of h (off + i)
    have hlt : off + i < cs.length := by omega
    have hf : w.frozen? ⟨b, off + i, none⟩ = false := by simp [World.frozen?, h]
    have hone := ho v (.head _)
    have hs : (w.setCell ⟨b, off + i, none⟩ v).heap[b]? = some (.cells (cs.set (off + i) v).toArray ty (0, 0)) := by
      simp [World.setCell, Array.getElem?_modify, h]
    obtain ⟨w2, h1, h2, h3, h4, h5, h6, h7⟩ := run_storeCells (P := P) b ty vs (i + 1) off (cs.set (off + i) v) (w.setCell ⟨b, off + i, none⟩ v) hs (by simp; omega) fun u hu => ho u (.tail _ hu)
    have run1 : (store ((⟨b, off, none⟩ : Addr).add i) v).run P w = .ok () (w.setCell ⟨b, off + i, none⟩ v) := by
      rw [add_block]
      have hc' : w.cell? ⟨b, off + i, none⟩ = some cs[off + i] := by rw [hc, List.getElem?_eq_getElem hlt]
      cases v <;> first | (exact absurd hone Bool.false_ne_true) | (simp only [store, Sem.run, hc', hf]; rfl)
    refine ⟨w2, ?_, ?_, ?_, ?_, ?_, ?_, ?_⟩
    · simp only [storeCells, Sem.run_bind, run1, Result.andThen]; exact h1
    · rw [h2, setCs]; rfl
    · intro k hk; rw [h3 k hk]; simp [World.setCell, Array.getElem?_modify, Ne.symm hk]
    · rw [h4]; simp [World.setCell]
    · rw [h5]; rfl
    · rw [h6]; rfl
    · rw [h7]; rfl
end Go.Sx
end
section
namespace Go.Sx
open Go
theorem stOf_sound {P : Program} {n0 : Nat} {β : Nat → Nat} {σ : St} {H0 H : PH} {a : Act} {w0 w : World} (hn : n0 = w0.heap.size) (s : Step H0 w0 H w) (g : GB n0 β σ H a w) {o : Oper} {k off : Nat} {cs : List Value}
    (h : stOf P σ.bx (ev σ) o.op = some (k, off, cs)) :
    ∃ w2, (execOp a.eval o).run P w = .ok .skip w2 ∧ Step H0 w0 H w2 ∧ GB n0 β (σ.store k off cs) H a w2 := by
  obtain ⟨dst, op, type, pos, after, guard⟩ := o
  simp only at h
  cases op <;> simp only [stOf] at h <;> try (cases h; done)
  rename_i T x y
  split at h
  case h_2 => cases h
  rename_i k' off' v hx hy
  split at h
  case h_2 => cases h
  rename_i cs' n B hcs hsz hB
  split at h
  case isFalse => cases h
  rename_i hc
  cases h
  obtain ⟨hc1, hc2⟩ := hc
  obtain ⟨hm, rfl⟩ := findB_mem hB
  obtain ⟨hcells, hone⟩ := cellsV_cells hcs
  have ha := g.ev x
  rw [hx] at ha
  simp only [matchSV] at ha
  have hv := eval_v g hy
  have sz : (sizeOf T).run P w = .ok n w := by
    unfold szOf at hsz
    simp only [Option.map_eq_some_iff] at hsz
    obtain ⟨i, hi, rfl⟩ := hsz
    simp [sizeOf, typeInfo, program, Sem.run, hi]
  obtain ⟨hb, hpub⟩ := g.bx B hm
  obtain ⟨w2, h1, h2, h3, h4, h5, h6, h7⟩ := run_storeCells (P := P) (β B.key) B.ty cs 0 off B.cs w hb (by omega) hone
  have hlo := g.lo B hm
  have hs2 := s.size
  refine ⟨w2, ?_, ?_, ?_⟩
  · have hcl : v.cells.size = n := by rw [← hc1, ← hcells]; simp
    simp only [execOp, Instr.storeAt, ha, hv, Instr.sureAddr, storeVar, Sem.run_bind]
    simp [Result.andThen, sz, hcl, hcells, h1]
  · refine ⟨fun b x hx' => ?_, by omega, fun b hb' hn' => ?_, s.dom, by rw [h5]; exact s.os, by rw [h6]; exact s.tape, by rw [h7]; exact s.out⟩
    · rw [h3 b (fun e => by subst e; rw [hpub] at hx'; cases hx')]; exact s.sub b x hx'
    · rw [h3 b (by omega)]; exact s.priv b hb' hn'
  · have keyIn : ∀ B' ∈ updB σ.bx B.key off cs, ∃ B0 ∈ σ.bx, B0.key = B'.key := by
      intro B' hB'
      have : B'.key ∈ (updB σ.bx B.key off cs).map (·.key) := List.mem_map.2 ⟨B', hB', rfl⟩
      rw [updB_keys] at this
      obtain ⟨B0, h1, h2⟩ := List.mem_map.1 this
      exact ⟨B0, h1, h2⟩
    refine ⟨g.defers.keep fun d _ h8 h9 => ⟨h8, by rw [h3 d (fun e => by rw [e, hb] at h9; cases h9)]; exact h9⟩, g.size, g.tm, ?_, ?_, ?_, ?_⟩
    · intro B' hB'
      rcases updB_mem g.keys hB' with ⟨h8, h9⟩ | ⟨B0, h8, h9, rfl⟩
      · refine ⟨?_, (g.bx B' h8).2⟩
        rw [h3 _ (fun e => h9 (g.inj B' h8 B hm e))]; exact (g.bx B' h8).1
      · have : B0 = B := by
          by_cases e : B0 = B
          · exact e
          · exfalso
            have := g.keys
            rcases List.mem_iff_getElem.1 h8 with ⟨i, hi, rfl⟩
            rcases List.mem_iff_getElem.1 hm with ⟨j, hj, rfl⟩
            rcases Nat.lt_trichotomy i j with h | h | h
            · exact (List.pairwise_iff_getElem.1 this i j hi hj h) h9
            · subst h; exact e rfl
            · exact (List.pairwise_iff_getElem.1 this j i hj hi h) h9.symm
        subst this
        exact ⟨by simpa using h2, hpub⟩
    · intro B1 hB1 B2 hB2 he
      obtain ⟨C1, c1, e1⟩ := keyIn B1 hB1
      obtain ⟨C2, c2, e2⟩ := keyIn B2 hB2
      rw [← e1, ← e2] at he ⊢
      exact g.inj C1 c1 C2 c2 he
    · intro B1 hB1
      obtain ⟨C1, c1, e1⟩ := keyIn B1 hB1
      rw [← e1]; exact g.lo C1 c1
    · have : ((updB σ.bx B.key off cs).map (·.key)).Pairwise (· ≠ ·) := by rw [updB_keys]; exact List.pairwise_map.2 g.keys
      exact List.pairwise_map.1 this
def wantedS (ol : List Oper) (σ : St) (o : Oper) : Option Bool :=
  match o.guard with
  | none => some true
  | some (j, want) => match ol[j]? with
    | some o' => match o'.dst with
      | some t => match getT σ.tm t with
        | .v (.bool b) => some (b == want)
        | .v (.tuple _) => some false
        | _ => none
      | none => none
    | none => none
theorem wantedS_sound {ops : Array Oper} {n0 : Nat} {β : Nat → Nat} {σ : St} {H : PH} {a : Act} {w : World} (g : GB n0 β σ H a w) {o : Oper} {r : Bool} (h : wantedS ops.toList σ o = some r) :
    Region.wanted o (yielded ops a.tmps) = r := by
  unfold wantedS at h
  unfold Region.wanted
  split at h
  · rename_i hg; simp only [hg]; cases h; rfl
  · rename_i j want hg
    simp only [hg]
    split at h
    · rename_i o' ho
      split at h
      · rename_i t ht
        split at h
        · rename_i b hb
          cases h
          have ho' : ops[j]? = some o' := by simpa using ho
          have hy : yielded ops a.tmps j = some b := by
            unfold yielded
            simp only [ho', Option.bind_some, ht]
            rw [getT_getElem?] at hb
            cases hs : σ.tm[t]? with
            | none => rw [hs] at hb; cases hb
            | some sv =>
              rw [hs] at hb
              simp only [Option.getD_some] at hb
              subst hb
              have h1 := g.tm t _ hs
              simp only [matchSV] at h1
              have hlt : t < a.tmps.size := by
                rw [g.size]
                rcases Nat.lt_or_ge t σ.tm.length with h | h
                · exact h
                · rw [List.getElem?_eq_none h] at hs; cases hs
              rw [Array.getD_eq_getD_getElem?, Array.getElem?_eq_getElem hlt] at h1
              simp only [Option.getD_some] at h1
              simp [hlt, h1]
          rw [hy]; cases b <;> cases want <;> rfl
        · rename_i vs hb
          cases h
          have ho' : ops[j]? = some o' := by simpa using ho
          have hy : yielded ops a.tmps j = none := by
            unfold yielded
            simp only [ho', Option.bind_some, ht]
            rw [getT_getElem?] at hb
            cases hs : σ.tm[t]? with
            | none => rw [hs] at hb; cases hb
            | some sv =>
              rw [hs] at hb
              simp only [Option.getD_some] at hb
              subst hb
              have h1 := g.tm t _ hs
              simp only [matchSV] at h1
              have hlt : t < a.tmps.size := by
                rw [g.size]
                rcases Nat.lt_or_ge t σ.tm.length with h | h
                · exact h
                · rw [List.getElem?_eq_none h] at hs; cases hs
              rw [Array.getD_eq_getD_getElem?, Array.getElem?_eq_getElem hlt] at h1
              simp only [Option.getD_some] at h1
              simp [hlt, h1]
          rw [hy]; rfl
        · cases h
      · cases h
    · cases h
def cenv (σ : St) (x : Operand) : Value := match ev σ x with | .v y => y | _ => undef
def isV : SV → Bool | .v _ => true | _ => false
def noSel : Op → Bool | .select .. => false | .defer .. => false | _ => true
def knownS (σ : St) (op : Op) : Bool := noSel op && op.operands.toList.all fun x => isV (ev σ x)
theorem known_exec {n0 : Nat} {β : Nat → Nat} {σ : St} {H : PH} {a : Act} {w : World} (g : GB n0 β σ H a w) {o : Oper} (h : knownS σ o.op = true) : execOp (cenv σ) o = execOp a.eval o := by
  simp only [knownS, Bool.and_eq_true, List.all_eq_true] at h
  refine execOp_congr o (fun cs b e => by rw [e] at h; exact absurd h.1 (by simp [noSel])) fun x hx => ?_
  have h1 := h.2 x (by simpa using hx)
  unfold cenv
  cases he : ev σ x with
  | v y => exact (eval_v g he).symm
  | p k off => rw [he] at h1; cases h1
  | u => rw [he] at h1; cases h1
def OpRes (P : Program) (w : World) (H : PH) (Ψ : SV → PH → Prop) : Result Next → Prop
  | .ok (.value v) w2 => ∃ H2, Step H w H2 w2 ∧ Ψ (.v v) H2
  | .ok .skip w2 => ∃ H2, Step H w H2 w2 ∧ Ψ .u H2
  | .ok (.enter f args) w2 => Calls P f args w2 fun e w3 => match e with
    | .returned v => ∃ H2, Step H w H2 w3 ∧ Ψ (.v v) H2
    | _ => False
  | .ok (.round l fn tmps assign body) w2 => RoundIn Fence.wide 0 P l fn tmps assign body w2 fun e w3 => match e with
    | .returned v => ∃ H2, Step H w H2 w3 ∧ Ψ (.v v) H2
    | _ => False
  | _ => False
def OpSpec (P : Program) (s : Sem Next) (H : PH) (Ψ : SV → PH → Prop) : Prop := ∀ w, Sub H w → OpRes P w H Ψ (s.run P w)
theorem OpSpec.mono {P : Program} {s : Sem Next} {H : PH} {Ψ Ψ' : SV → PH → Prop} (h : OpSpec P s H Ψ) (k : ∀ sv H2, Ψ sv H2 → Ψ' sv H2) : OpSpec P s H Ψ' := by
  intro w hw
  have hr := h w hw
  unfold OpRes at hr ⊢
  split at hr
  · obtain ⟨H2, a, b⟩ := hr; exact ⟨H2, a, k _ _ b⟩
  · obtain ⟨H2, a, b⟩ := hr; exact ⟨H2, a, k _ _ b⟩
  · refine hr.mono fun e w3 he => ?_
    cases e with
    | returned v => obtain ⟨H2, a, b⟩ := he; exact ⟨H2, a, k _ _ b⟩
    | outgrown => exact he
    | panicked c => exact he
  · refine hr.mono fun e w3 he => ?_
    cases e with
    | returned v => obtain ⟨H2, a, b⟩ := he; exact ⟨H2, a, k _ _ b⟩
    | outgrown => exact he
    | panicked c => exact he
  · exact hr
def Val (P : Program) (σ : St) (H : PH) (o : Oper) (sv : SV) : Prop :=
  (∃ φ, pv P σ.bx (ev σ) o.op = some (φ, sv) ∧ φ) ∨
  (∃ v, sv = .v v ∧ knownS σ o.op = true ∧ ∀ w, Sub H w → (execOp (cenv σ) o).run P w = .ok (.value v) w)
def Vstep (P : Program) (ol : List Oper) (o : Oper) (K : St → PH → Prop) (σ : St) (H : PH) : Prop :=
  (wantedS ol σ o = some false ∧ K (σ.put o.dst (.v undef)) H) ∨
  (wantedS ol σ o = some true ∧
    ((∃ sv, Val P σ H o sv ∧ K (σ.put o.dst sv) H) ∨
     (∃ d T cs, o.dst = some d ∧ acOf P (ev σ) o.op = some (T, cs) ∧ K (σ.newBox d T cs) H) ∨
     (∃ k off cs, stOf P σ.bx (ev σ) o.op = some (k, off, cs) ∧ K ((σ.store k off cs).put o.dst .u) H) ∨
     (knownS σ o.op = true ∧ OpSpec P (execOp (cenv σ) o) H fun sv H2 => K (σ.put o.dst sv) H2)))
def V (P : Program) (ol : List Oper) (K : St → PH → Prop) : List Nat → St → PH → Prop
  | [], σ, H => K σ H
  | i :: l, σ, H => match ol[i]? with
    | none => V P ol K l σ H
    | some o => Vstep P ol o (V P ol K l) σ H
def QK (n0 : Nat) (H0 : PH) (w0 : World) (K : St → PH → Prop) : Exit → Act → World → Prop
  | .normal, a, w => ∃ σ H, K σ H ∧ Step H0 w0 H w ∧ G n0 σ H a w
  | _, _, _ => False
theorem GB.step {n0 : Nat} {β : Nat → Nat} {σ : St} {H H2 : PH} {a : Act} {w w2 : World} (g : GB n0 β σ H a w) (t : Step H w H2 w2) : GB n0 β σ H2 a w2 :=
  ⟨g.defers.keep fun d _ h1 h2 => ⟨t.dom _ (lt_size_of h2) h1, by rw [t.priv _ (lt_size_of h2) h1]; exact h2⟩, g.size, g.tm, fun B hB => by
    obtain ⟨h1, h2⟩ := g.bx B hB
    have hlt := lt_size_of h1
    exact ⟨by rw [t.priv _ hlt h2]; exact h1, t.dom _ hlt h2⟩, g.inj, g.lo, g.keys⟩
def FR (r : Option Nat) : Fence := { Fence.wide with round := r }
theorem callsIn_FR {r : Option Nat} {P : Program} {f : FuncId} {args : Array Value} {w : World} {R : Ending → World → Prop} (h : Calls P f args w R) : CallsIn (FR r) 0 P f args w R :=
  (callsIn_wide (n := 0)).2 h
theorem roundIn_FR {r : Option Nat} {P : Program} {l : Nat} {f : FuncId} {tmps : Array Value} {assign body : Code} {w : World} {R : Ending → World → Prop} (h : RoundIn Fence.wide 0 P l f tmps assign body w R) : RoundIn (FR r) 0 P l f tmps assign body w R := h
theorem dep_FR {r : Option Nat} (h : (FR r).depth.isSome = true) : 1 ≤ 0 := absurd h (by simp [FR, Fence.wide])
theorem Vstep_sound {r : Option Nat} {P : Program} {ops : Array Oper} {o : Oper} {i : Nat} (hi : ops[i]? = some o) {K : St → PH → Prop} {K' : Act → World → Prop} {n0 : Nat} {H0 : PH} {w0 : World} (hn : n0 = w0.heap.size) {KQ : St → PH → Prop}
    (hK : ∀ σ H a w, K σ H → Step H0 w0 H w → G n0 σ H a w → K' a w) {σ : St} {H : PH} {a : Act} {w : World} (h : Vstep P ops.toList o K σ H) (s : Step H0 w0 H w) (g : G n0 σ H a w) :
    wpOpIn (FR r) 0 P ops (QK n0 H0 w0 KQ) i K' a w := by
  obtain ⟨β, g⟩ := g
  unfold wpOpIn
  simp only [hi]
  rcases h with ⟨hw, hk⟩ | ⟨hw, h⟩
  · rw [wantedS_sound g hw]
    exact ⟨fun _ _ => trivial, hK _ _ _ _ hk s ⟨β, g.put o.dst rfl⟩⟩
  · rw [wantedS_sound g hw, if_pos rfl]
    refine ⟨fun _ _ => trivial, ?_⟩
    rcases h with ⟨sv, hv, hk⟩ | ⟨d, T, cs, hd, hac, hk⟩ | ⟨k, off, cs, hst, hk⟩ | ⟨hkn, hsp⟩
    · rcases hv with ⟨φ, hp, hφ⟩ | ⟨v, rfl, hkn, hrun⟩
      · obtain ⟨y, hy, hm⟩ := pv_sound (P := P) g hp hφ
        rw [Oper.semAt_eq _ _ _ fun c e => by rw [e] at hp; simp [pv] at hp, hy, Oper.uponIn_value]
        exact hK _ _ _ _ hk s ⟨β, g.put o.dst hm⟩
      · have := hrun w s.sub
        rw [known_exec g hkn] at this
        rw [Oper.semAt_eq _ _ _ fun c e => by simp [knownS, noSel, e] at hkn, this, Oper.uponIn_value]
        exact hK _ _ _ _ hk s ⟨β, g.put o.dst rfl⟩
    · rw [Oper.semAt_eq _ _ _ fun c e => by rw [e] at hac; simp [acOf] at hac, acOf_sound g hac, Oper.uponIn_value, hd]
      exact hK _ _ _ _ hk (s.alloc _) ⟨_, g.newBox hn s d T cs⟩
    · obtain ⟨w2, h1, h2, h3⟩ := stOf_sound hn s g hst
      rw [Oper.semAt_eq _ _ _ fun c e => by rw [e] at hst; simp [stOf] at hst, h1]
      exact hK _ _ _ _ hk h2 ⟨β, h3.put o.dst matchSV_u⟩
    · have hex := known_exec g hkn
      have hres := hsp w s.sub
      rw [hex] at hres
      rw [Oper.semAt_eq _ _ _ fun c e => by simp [knownS, noSel, e] at hkn]
      unfold OpRes at hres
      split at hres
      · rename_i v w2 hr
        obtain ⟨H2, t, hk⟩ := hres
        rw [hr, Oper.uponIn_value]
        exact hK _ _ _ _ hk (s.trans t) ⟨β, (g.step t).put o.dst rfl⟩
      · rename_i w2 hr
        obtain ⟨H2, t, hk⟩ := hres
        rw [hr, Oper.uponIn_skip]
        exact hK _ _ _ _ hk (s.trans t) ⟨β, (g.step t).put o.dst matchSV_u⟩
      · rename_i f args w2 hr
        rw [hr, Oper.uponIn_enter]
        refine ⟨dep_FR, callsIn_FR (hres.mono fun e w3 he => ?_)⟩
        cases e with
        | returned v =>
          obtain ⟨H2, t, hk⟩ := he
          exact hK _ _ _ _ hk (s.trans t) ⟨β, (g.step t).put o.dst rfl⟩
        | outgrown => exact he.elim
        | panicked c => exact he.elim
      · rename_i l f tm as bo w2 hr
        rw [hr, Oper.uponIn_round]
        refine ⟨dep_FR, roundIn_FR (hres.mono fun e w3 he => ?_)⟩
        cases e with
        | returned v =>
          obtain ⟨H2, t, hk⟩ := he
          exact hK _ _ _ _ hk (s.trans t) ⟨β, (g.step t).put o.dst rfl⟩
        | outgrown => exact he.elim
        | panicked c => exact he.elim
      · exact hres.elim
theorem V_sound {r : Option Nat} {P : Program} {ops : Array Oper} {K : St → PH → Prop} {n0 : Nat} {H0 : PH} {w0 : World} (hn : n0 = w0.heap.size) : ∀ (l : List Nat) {σ : St} {H : PH} {a : Act} {w : World},
    V P ops.toList K l σ H → Step H0 w0 H w → G n0 σ H a w → wpOpsIn (FR r) 0 P ops (QK n0 H0 w0 K) l a w
  | [], σ, H, a, w, h, s, g => ⟨σ, H, h, s, g⟩
  | i :: l, σ, H, a, w, h, s, g => by
    simp only [V] at h
    rw [wpOpsIn_cons]
    cases ho : ops[i]? with
    | none =>
      have : ops.toList[i]? = none := by simpa using ho
      rw [this] at h
      simp only [wpOpIn, ho]
      exact V_sound hn l h s g
    | some o =>
      have : ops.toList[i]? = some o := by simpa using ho
      rw [this] at h
      exact Vstep_sound ho hn (fun σ' H' a' w' hk s' g' => V_sound hn l hk s' g') h s g
def PH.put (H : PH) (b : Nat) (o : Obj) : PH := fun c => if c = b then some o else H c
theorem PH.le_put {H : PH} {b : Nat} {o : Obj} (h : H b = none) : H.le (H.put b o) := fun c x hx => by
  by_cases e : c = b
  · subst e; rw [h] at hx; cases hx
  · simp [PH.put, e, hx]
theorem Step.new {H : PH} {w : World} (s : Sub H w) (o : Obj) : H w.heap.size = none ∧ Step H w (H.put w.heap.size o) { w with heap := w.heap.push o } := by
  have hn : H w.heap.size = none := by
    cases hH : H w.heap.size with
    | none => rfl
    | some o => exact absurd (lt_size_of (s _ _ hH)) (by omega)
  refine ⟨hn, fun b x h => ?_, by simp, fun b hb _ => ?_, fun b hb hn' => ?_, rfl, rfl, rfl⟩
  · by_cases e : b = w.heap.size
    · subst e; simp only [PH.put, if_true] at h; cases h; simp
    · simp only [PH.put, if_neg e] at h
      rw [show ({ w with heap := w.heap.push o } : World).heap = w.heap.push o from rfl, heap_push (lt_size_of (s _ _ h))]; exact s _ _ h
  · rw [show ({ w with heap := w.heap.push o } : World).heap = w.heap.push o from rfl, heap_push hb]
  · simp [PH.put, Nat.ne_of_lt hb, hn']
theorem Step.beside {H H2 : PH} {w w2 : World} {b : Nat} {o : Obj} (hb : H b = none) (s : Sub (H.put b o) w) (t : Step H w H2 w2) : H2 b = none ∧ Step (H.put b o) w (H2.put b o) w2 := by
  have hwb : w.heap[b]? = some o := s b o (by simp [PH.put])
  have hlt := lt_size_of hwb
  have h2b := t.dom b hlt hb
  refine ⟨h2b, fun c x hc => ?_, t.size, fun c hc hn => ?_, fun c hc hn => ?_, t.os, t.tape, t.out⟩
  · by_cases e : c = b
    · subst e; simp only [PH.put, if_true] at hc; cases hc; rw [t.priv _ hlt hb]; exact hwb
    · simp only [PH.put, if_neg e] at hc; exact t.sub c x hc
  · by_cases e : c = b
    · subst e; simp [PH.put] at hn
    · simp only [PH.put, if_neg e] at hn; exact t.priv c hc hn
  · by_cases e : c = b
    · subst e; simp [PH.put] at hn
    · simp only [PH.put, if_neg e] at hn ⊢; exact t.dom c hc hn
theorem Sub.unput {H : PH} {w : World} {b : Nat} {o : Obj} (hb : H b = none) (s : Sub (H.put b o) w) : Sub H w := s.of_le (PH.le_put hb)
theorem OpSpec.beside {P : Program} {s : Sem Next} {H : PH} {Ψ : SV → PH → Prop} {b : Nat} {o : Obj} (hb : H b = none) (h : OpSpec P s H Ψ) : OpSpec P s (H.put b o) fun sv H2' => ∃ H2, H2' = H2.put b o ∧ H2 b = none ∧ Ψ sv H2 := by
  intro w hw
  have hr := h w (hw.unput hb)
  unfold OpRes at hr ⊢
  split at hr
  · obtain ⟨H2, t, p⟩ := hr; obtain ⟨n, t'⟩ := t.beside hb hw; exact ⟨_, t', H2, rfl, n, p⟩
  · obtain ⟨H2, t, p⟩ := hr; obtain ⟨n, t'⟩ := t.beside hb hw; exact ⟨_, t', H2, rfl, n, p⟩
  · refine hr.mono fun e w3 he => ?_
    cases e with
    | returned v => obtain ⟨H2, t, p⟩ := he; obtain ⟨n, t'⟩ := t.beside hb hw; exact ⟨_, t', H2, rfl, n, p⟩
    | outgrown => exact he
    | panicked c => exact he
  · refine hr.mono fun e w3 he => ?_
    cases e with
    | returned v => obtain ⟨H2, t, p⟩ := he; obtain ⟨n, t'⟩ := t.beside hb hw; exact ⟨_, t', H2, rfl, n, p⟩
    | outgrown => exact he
    | panicked c => exact he
  · exact hr
def NewSpec (P : Program) (s : Sem Next) (f : Nat → Value) (ob : Obj) : Prop := ∀ w, s.run P w = .ok (.value (f w.heap.size)) { w with heap := w.heap.push ob }
theorem NewSpec.op {P : Program} {s : Sem Next} {f : Nat → Value} {ob : Obj} (h : NewSpec P s f ob) (H : PH) : OpSpec P s H fun sv H2 => ∃ b, H b = none ∧ sv = .v (f b) ∧ H2 = H.put b ob := by
  intro w hw
  rw [h w]
  obtain ⟨n1, n2⟩ := Step.new hw ob
  exact ⟨_, n2, _, n1, rfl, rfl⟩
end Go.Sx
end
section
namespace Go.Sx
open Go
inductive Cl where
  | val | alc | st | gen | nw
  deriving DecidableEq
def cls : Op → Cl
  | .alloc _ | .box .. => .alc
  | .store .. => .st
  | .move _ | .assign _ | .pick .. | .load .. | .binOp .. | .unOp .. | .convert .. | .fieldAddr .. | .field .. | .indexAddr .. | .index .. | .extract ..
  | .build .. | .nilCheck _ | .makeFunc .. | .lookup .. | .slice .. => .val
  | .call { callee := .builtin .len, .. } | .call { callee := .builtin .cap, .. } | .call { callee := .builtin .min, .. } | .call { callee := .builtin .max, .. } => .val
  | .makeMap _ none => .nw
  | _ => .gen
def memN : List Nat → Nat → Bool
  | [], _ => false
  | a :: l, k => if a = k then true else memN l k
def keepB (kp : List Nat) : List Box → List Box
  | [] => []
  | b :: l => if memN kp b.key then b :: keepB kp l else keepB kp l
def kb (f : Bool) (kp : List Nat) (l : List Box) : List Box := if f then keepB kp l else l
structure FrB where
  h : Bool
  j : Bool
  J : PH
  k : Bool
  kp : List Nat
structure StB where
  h : Bool
  j : Bool
  k : Bool
structure FrD where
  h : List Nat
  j : List Nat
  J : PH
  k : List Nat
  kp : List Nat
structure StD where
  h : List Nat
  j : List Nat
  k : List Nat
def FrD.at' (d : FrD) (i : Nat) : FrB := ⟨d.h.contains i, d.j.contains i, d.J, memN d.k i, d.kp⟩
def StD.at' (d : StD) (i : Nat) : StB := ⟨d.h.contains i, d.j.contains i, memN d.k i⟩
theorem findB_keepB {kp : List Nat} {l : List Box} {k : Nat} {B : Box} (h : findB (keepB kp l) k = some B) : findB l k = some B ∧ memN kp k = true := by
  induction l with
  | nil => cases h
  | cons b l ih =>
    simp only [keepB] at h
    split at h
    · simp only [findB] at h ⊢
      split at h
      · rename_i hm e; subst e; rw [if_pos rfl]; exact ⟨h, hm⟩
      · rename_i hm e; rw [if_neg e]; exact ih h
    · rename_i hm
      obtain ⟨a, c⟩ := ih h
      simp only [findB]
      rw [if_neg (fun e => hm (by rw [e]; exact c))]
      exact ⟨a, c⟩
theorem keepB_updB {kp : List Nat} {k off : Nat} {cs : List Value} (hk : memN kp k = false) : ∀ (l : List Box), keepB kp (updB l k off cs) = keepB kp l
  | [] => rfl
  | b :: l => by
    simp only [updB]
    split
    · rename_i e
      simp [keepB, e, hk]
    · simp only [keepB, keepB_updB hk l]
theorem pv_boxes {P : Program} {bx bx' : List Box} {ρ : Operand → SV} {op : Op} {r : Prop × SV} (hb : ∀ k B, findB bx k = some B → findB bx' k = some B) (h : pv P bx ρ op = some r) : pv P bx' ρ op = some r := by
  cases op <;> first | exact h | (rename_i mx; cases mx <;> exact h) | skip
  rename_i T x
  simp only [pv, pvLoad] at h ⊢
  split at h
  · rename_i k off hx
    split at h
    · rename_i B hB
      rw [hb k B hB]; exact h
    · cases h
  · cases h
theorem pv_kb {P : Program} {f : Bool} {kp : List Nat} {bx : List Box} {ρ : Operand → SV} {op : Op} {r : Prop × SV} (h : pv P (kb f kp bx) ρ op = some r) : pv P bx ρ op = some r := by
  unfold kb at h
  split at h
  · exact pv_boxes (fun k B hB => (findB_keepB hB).1) h
  · exact h
def noLd : Op → Bool
  | .load .. => false
  | _ => true
theorem pv_noLd {P : Program} {bx bx' : List Box} {ρ : Operand → SV} {op : Op} (h : noLd op = true) : pv P bx ρ op = pv P bx' ρ op := by
  cases op <;> first | rfl | (rename_i mx; cases mx <;> rfl) | cases h
def ValF (P : Program) (fr : FrB) (σ : St) (H : PH) (o : Oper) (sv : SV) : Prop :=
  (∃ φ, pv P (kb fr.k fr.kp σ.bx) (ev σ) o.op = some (φ, sv) ∧ φ) ∨
  (fr.h = true ∧ ∃ v, sv = .v v ∧ knownS σ o.op = true ∧ ∀ w, Sub H w → (execOp (cenv σ) o).run P w = .ok (.value v) w) ∨
  (fr.j = true ∧ fr.J.le H ∧ ∃ v, sv = .v v ∧ knownS σ o.op = true ∧ ∀ w, Sub fr.J w → (execOp (cenv σ) o).run P w = .ok (.value v) w)
theorem ValF.val {P : Program} {fr : FrB} {σ : St} {H : PH} {o : Oper} {sv : SV} (h : ValF P fr σ H o sv) : Val P σ H o sv := by
  rcases h with ⟨φ, h, k⟩ | h | ⟨_, hl, v, a, b, c⟩
  · exact .inl ⟨φ, pv_kb h, k⟩
  · exact .inr h.2
  · exact .inr ⟨v, a, b, fun w hw => c w (hw.of_le hl)⟩
def VDstep (P : Program) (ol : List Oper) (fr : FrB) (str : StB) (o : Oper) (K : St → PH → Prop) (σ : St) (H : PH) : Prop :=
  (wantedS ol σ o = some false ∧ K (σ.put o.dst (.v undef)) H) ∨
  (wantedS ol σ o = some true ∧ match cls o.op with
    | .val => ∃ sv, ValF P fr σ H o sv ∧ K (σ.put o.dst sv) H
    | .alc => ∃ d T cs, o.dst = some d ∧ acOf P (ev σ) o.op = some (T, cs) ∧ K (σ.newBox d T cs) H
    | .st => (∃ k off cs, stOf P σ.bx (ev σ) o.op = some (k, off, cs) ∧ (str.k = true → memN fr.kp k = false) ∧ K ((σ.store k off cs).put o.dst .u) H) ∨ (str.k = false ∧ knownS σ o.op = true ∧ OpSpec P (execOp (cenv σ) o) H fun sv H2 => K (σ.put o.dst sv) H2)
    | .gen => knownS σ o.op = true ∧ OpSpec P (execOp (cenv σ) o) H fun sv H2 => ((str.h = true → H.le H2) ∧ (str.j = true → fr.J.le H → fr.J.le H2)) ∧ K (σ.put o.dst sv) H2
    | .nw => ∀ b, H b = none → K (σ.put o.dst (.v (.map (some b)))) (H.put b (.map #[] 0)))
def VD (P : Program) (ol : List Oper) (fr : FrD) (str : StD) (K : St → PH → Prop) : List Nat → St → PH → Prop
  | [], σ, H => K σ H
  | i :: l, σ, H => match ol[i]? with
    | none => VD P ol fr str K l σ H
    | some o => VDstep P ol (fr.at' i) (str.at' i) o (VD P ol fr str K l) σ H
theorem nw_spec {P : Program} {σ : St} {o : Oper} (h : cls o.op = .nw) : knownS σ o.op = true ∧ NewSpec P (execOp (cenv σ) o) (fun b => .map (some b)) (.map #[] 0) := by
  obtain ⟨dst, op, type, pos, after, guard⟩ := o
  simp only at h ⊢
  cases op <;> try (simp [cls] at h; done)
  case makeMap mt n =>
    cases n with
    | some x => simp [cls] at h
    | none => exact ⟨by simp [knownS, noSel, Op.operands], fun w => by simp [execOp, Instr.makeMap, newObj, Sem.run, Result.andThen]⟩
  case call c =>
    obtain ⟨callee, args, types⟩ := c
    cases callee with
    | builtin b => cases b <;> simp [cls] at h
    | value f => simp [cls] at h
    | invoke r m => simp [cls] at h
theorem VDstep.toV {P : Program} {ol : List Oper} {fr : FrB} {str : StB} {o : Oper} {K : St → PH → Prop} {σ : St} {H : PH} (h : VDstep P ol fr str o K σ H) : Vstep P ol o K σ H := by
  rcases h with h | ⟨hw, h⟩
  · exact .inl h
  · refine .inr ⟨hw, ?_⟩
    split at h
    · obtain ⟨sv, hv, hk⟩ := h; exact .inl ⟨sv, hv.val, hk⟩
    · exact .inr (.inl h)
    · rcases h with ⟨k, off, cs, a, _, b⟩ | ⟨_, a, b⟩
      · exact .inr (.inr (.inl ⟨k, off, cs, a, b⟩))
      · exact .inr (.inr (.inr ⟨a, b⟩))
    · exact .inr (.inr (.inr ⟨h.1, h.2.mono fun _ _ x => x.2⟩))
    · rename_i hc
      obtain ⟨a, b⟩ := nw_spec (P := P) (σ := σ) hc
      exact .inr (.inr (.inr ⟨a, (b.op H).mono fun sv H2 ⟨x, y, z, u⟩ => by subst z; subst u; exact h x y⟩))
def Srt (l : List Box) : Prop := l.Pairwise (fun x y => x.key < y.key)
theorem dropB_srt {l : List Box} {k : Nat} (h : Srt l) : Srt (dropB l k) := by
  unfold Srt at *
  induction l with
  | nil => simp [dropB]
  | cons b l ih =>
    rw [List.pairwise_cons] at h
    simp only [dropB]
    split
    · exact ih h.2
    · exact List.pairwise_cons.2 ⟨fun y hy => h.1 y (mem_dropB hy).1, ih h.2⟩
theorem insB_srt {l : List Box} {x : Box} (h : Srt l) (hx : ∀ B ∈ l, B.key ≠ x.key) : Srt (insB x l) := by
  unfold Srt at *
  induction l with
  | nil => simp [insB]
  | cons b l ih =>
    have h' := h
    rw [List.pairwise_cons] at h
    simp only [insB]
    split
    · rename_i hlt
      refine List.pairwise_cons.2 ⟨fun y hy => ?_, ih h.2 fun B hB => hx B (.tail _ hB)⟩
      rcases mem_insB.1 hy with rfl | hy
      · exact hlt
      · exact h.1 y hy
    · rename_i hge
      have hb := hx b (.head _)
      refine List.pairwise_cons.2 ⟨fun y hy => ?_, h'⟩
      rcases List.mem_cons.1 hy with rfl | hy
      · omega
      · have := h.1 y hy; omega
theorem Srt.newBox {σ : St} (h : Srt σ.bx) (d : Nat) (T : TypeId) (cs : List Value) : Srt (σ.newBox d T cs).bx :=
  insB_srt (dropB_srt h) fun _ hB => (mem_dropB hB).2
theorem Srt.put {σ : St} (h : Srt σ.bx) (d : Option Nat) (sv : SV) : Srt (σ.put d sv).bx := by cases d <;> exact h
theorem Srt.store {σ : St} (h : Srt σ.bx) (k off : Nat) (cs : List Value) : Srt (σ.store k off cs).bx := by
  have : ((updB σ.bx k off cs).map (·.key)).Pairwise (· < ·) := by rw [updB_keys]; exact List.pairwise_map.2 h
  exact List.pairwise_map.1 this
theorem insB_first {l : List Box} {x : Box} (h : ∀ B ∈ l, ¬ B.key < x.key) : insB x l = x :: l := by
  cases l with
  | nil => rfl
  | cons b l => simp [insB, h b (.head _)]
theorem dropB_insB {l : List Box} {x : Box} {k : Nat} (hs : Srt l) (hk : x.key ≠ k) : dropB (insB x l) k = insB x (dropB l k) := by
  unfold Srt at hs
  induction l with
  | nil => simp [insB, dropB, hk]
  | cons b l ih =>
    rw [List.pairwise_cons] at hs
    simp only [insB]
    split
    · rename_i hlt
      simp only [dropB]
      split
      · exact ih hs.2
      · simp [insB, hlt, ih hs.2]
    · rename_i hge
      have h1 : dropB (x :: b :: l) k = x :: dropB (b :: l) k := by rw [dropB]; simp [hk]
      rw [h1]
      refine (insB_first fun B hB => ?_).symm
      have := (mem_dropB hB).1
      rcases List.mem_cons.1 this with rfl | h
      · exact hge
      · have := hs.1 B h; omega
theorem insB_comm {l : List Box} {x y : Box} (h : x.key ≠ y.key) : insB x (insB y l) = insB y (insB x l) := by
  induction l with
  | nil =>
    simp only [insB]
    rcases Nat.lt_trichotomy x.key y.key with h1 | h1 | h1
    · simp [h1, Nat.not_lt.2 (Nat.le_of_lt h1)]
    · exact absurd h1 h
    · simp [h1, Nat.not_lt.2 (Nat.le_of_lt h1)]
  | cons b l ih =>
    by_cases hx : b.key < x.key <;> by_cases hy : b.key < y.key
    · simp [insB, hx, hy, ih]
    · have : y.key < x.key := by omega
      simp [insB, hx, hy, this]
    · have : x.key < y.key := by omega
      simp [insB, hx, hy, this]
    · rcases Nat.lt_trichotomy x.key y.key with h1 | h1 | h1
      · simp [insB, hx, hy, h1, Nat.not_lt.2 (Nat.le_of_lt h1)]
      · exact absurd h1 h
      · simp [insB, hx, hy, h1, Nat.not_lt.2 (Nat.le_of_lt h1)]
theorem dropB_comm (l : List Box) (a b : Nat) : dropB (dropB l a) b = dropB (dropB l b) a := by
  induction l with
  | nil => rfl
  | cons x l ih =>
    by_cases h1 : x.key = a <;> by_cases h2 : x.key = b <;> simp [dropB, h1, h2, ih] <;> simp_all [dropB]
theorem setT_comm (l : List SV) (a b : Nat) (x y : SV) (h : a ≠ b) : setT (setT l a x) b y = setT (setT l b y) a x := by
  induction l generalizing a b with
  | nil => rfl
  | cons z l ih =>
    cases a <;> cases b <;> simp only [setT] <;> first | omega | (congr 1; exact ih _ _ (by omega))
theorem setT_map (f : SV → SV) (l : List SV) (a : Nat) (x : SV) : (setT l a x).map f = setT (l.map f) a (f x) := by
  induction l generalizing a with
  | nil => rfl
  | cons z l ih => cases a <;> simp [setT, ih]
theorem put_comm (σ : St) (a b : Option Nat) (x y : SV) (h : ∀ d, a = some d → b ≠ some d) : (σ.put a x).put b y = (σ.put b y).put a x := by
  cases a <;> cases b <;> simp only [St.put]
  rename_i c d
  rw [setT_comm _ _ _ _ _ (fun e => h c rfl (by rw [e]))]
theorem newBox_put (σ : St) (d : Nat) (T : TypeId) (cs : List Value) (e : Option Nat) (sv : SV) (h : e ≠ some d) : (σ.put e sv).newBox d T cs = (σ.newBox d T cs).put e (clr d sv) := by
  cases e with
  | none => rfl
  | some e =>
    have : e ≠ d := fun x => h (by rw [x])
    simp only [St.put, St.newBox, setT_map]
    rw [setT_comm _ _ _ _ _ this]
theorem clr_clr (l : List SV) (a b : Nat) : (l.map (clr a)).map (clr b) = (l.map (clr b)).map (clr a) := by
  simp only [List.map_map]
  apply List.map_congr_left
  intro x _
  cases x with
  | v x => rfl
  | u => rfl
  | p k off =>
    by_cases h1 : k = a <;> by_cases h2 : k = b <;> simp only [Function.comp, clr, h1, h2, if_true, if_false]
    all_goals (by_cases h3 : a = b <;> simp_all [clr])
theorem newBox_comm (σ : St) (d e : Nat) (T T' : TypeId) (cs cs' : List Value) (h : d ≠ e) (hs : Srt σ.bx) : (σ.newBox d T cs).newBox e T' cs' = (σ.newBox e T' cs').newBox d T cs := by
  have h1 : ¬ d = e := h
  have h2 : ¬ e = d := fun x => h x.symm
  have t : (setT (((setT (σ.tm.map (clr d)) d (.p d 0))).map (clr e)) e (.p e 0)) = (setT (((setT (σ.tm.map (clr e)) e (.p e 0))).map (clr d)) d (.p d 0)) := by
    rw [setT_map, setT_map, setT_comm _ _ _ _ _ h, clr_clr]
    simp [clr, h1, h2]
  have b : insB ⟨e, T', cs'⟩ (dropB (insB ⟨d, T, cs⟩ (dropB σ.bx d)) e) = insB ⟨d, T, cs⟩ (dropB (insB ⟨e, T', cs'⟩ (dropB σ.bx e)) d) := by
    rw [dropB_insB (dropB_srt hs) h, dropB_insB (dropB_srt hs) (Ne.symm h), insB_comm (Ne.symm h), dropB_comm]
  simp only [St.newBox, t, b]
end Go.Sx
end
section
namespace Go.Sx
open Go
def looks (ol : List Oper) (o : Oper) : List Nat :=
  (o.op.operands.toList.filterMap fun | .tmp t => some t | _ => none) ++
  (match o.guard with
   | some (j, _) => match ol[j]? with | some o' => o'.dst.toList | none => []
   | none => [])
def indep (ol : List Oper) (x y : Oper) : Bool :=
  (match x.dst with | some d => !(looks ol y).contains d && y.dst != some d | none => true) &&
  (match y.dst with | some d => !(looks ol x).contains d && x.dst != some d | none => true)
theorem looks_op {ol : List Oper} {o : Oper} {d : Nat} (h : d ∉ looks ol o) : ∀ x ∈ o.op.operands, x ≠ .tmp d := by
  intro x hx e
  subst e
  exact h (List.mem_append_left _ (List.mem_filterMap.2 ⟨.tmp d, by simpa using hx, rfl⟩))
theorem ev_put {σ : St} {d : Option Nat} {sv : SV} {x : Operand} (h : ∀ e, d = some e → x ≠ .tmp e) : ev (σ.put d sv) x = ev σ x := by
  cases d with
  | none => rfl
  | some d =>
    cases x with
    | tmp t =>
      have : d ≠ t := fun e => h d rfl (by rw [e])
      simp [ev, St.put, getT_getElem?, setT_getElem?, this]
    | _ => rfl
theorem ev_newBox {σ : St} {d : Nat} {T : TypeId} {cs : List Value} {x : Operand} (h : x ≠ .tmp d) : ev (σ.newBox d T cs) x = clr d (ev σ x) := by
  cases x with
  | tmp t =>
    have : d ≠ t := fun e => h (by rw [e])
    simp only [ev, St.newBox, getT_getElem?, setT_getElem?, if_neg this, List.getElem?_map]
    cases σ.tm[t]? <;> rfl
  | _ => rfl
theorem wantedS_put {ol : List Oper} {σ : St} {o : Oper} {d : Option Nat} {sv : SV} (h : ∀ e, d = some e → e ∉ looks ol o) : wantedS ol (σ.put d sv) o = wantedS ol σ o := by
  unfold wantedS
  cases hg : o.guard with
  | none => rfl
  | some g =>
    obtain ⟨j, want⟩ := g
    simp only
    cases ho : ol[j]? with
    | none => rfl
    | some o' =>
      simp only
      cases ht : o'.dst with
      | none => rfl
      | some t =>
        have hne : ∀ e, d = some e → e ≠ t := fun e he h2 => h e he (by
          subst h2
          exact List.mem_append_right _ (by simp [hg, ho, ht]))
        have : getT (σ.put d sv).tm t = getT σ.tm t := by
          cases d with
          | none => rfl
          | some d => simp [St.put, getT_getElem?, setT_getElem?, hne d rfl]
        simp only [this]
theorem wantedS_newBox {ol : List Oper} {σ : St} {o : Oper} {d : Nat} {T : TypeId} {cs : List Value} {r : Bool} (h : d ∉ looks ol o) : wantedS ol (σ.newBox d T cs) o = some r ↔ wantedS ol σ o = some r := by
  unfold wantedS
  cases hg : o.guard with
  | none => rfl
  | some g =>
    obtain ⟨j, want⟩ := g
    simp only
    cases ho : ol[j]? with
    | none => rfl
    | some o' =>
      simp only
      cases ht : o'.dst with
      | none => rfl
      | some t =>
        have hne : d ≠ t := fun h2 => h (by
          subst h2
          exact List.mem_append_right _ (by simp [hg, ho, ht]))
        have : getT (σ.newBox d T cs).tm t = clr d (getT σ.tm t) := by
          simp only [St.newBox, getT_getElem?, setT_getElem?, if_neg hne, List.getElem?_map]
          cases σ.tm[t]? <;> rfl
        simp only [this]
        cases getT σ.tm t with
        | v x => rfl
        | u => rfl
        | p k off => by_cases e : k = d <;> simp [clr, e]
theorem allV_congr {ρ ρ' : Operand → SV} : ∀ {l : List Operand}, (∀ x ∈ l, ρ x = ρ' x) → allV ρ l = allV ρ' l
  | [], _ => rfl
  | x :: l, h => by simp only [allV, h x (.head _), allV_congr (fun y hy => h y (.tail _ hy))]
theorem allP_congr {ρ ρ' : Operand → SV} : ∀ {l : List (Nat × Operand)}, (∀ x ∈ l, ρ x.2 = ρ' x.2) → allP ρ l = allP ρ' l
  | [], _ => rfl
  | (i, x) :: l, h => by simp only [allP, h (i, x) (.head _), allP_congr (fun y hy => h y (.tail _ hy))]
theorem pv_congr {P : Program} {bx : List Box} {ρ ρ' : Operand → SV} {op : Op} (h : ∀ x ∈ op.operands, ρ x = ρ' x) : pv P bx ρ op = pv P bx ρ' op := by
  cases op <;> simp only [pv] <;> simp only [Op.operands] at h
  case build T ps =>
    rw [allP_congr (l := ps.toList) fun x hx => h x.2 (by simpa using ⟨x.1, by simpa using hx⟩)]
  case slice T x lo hi mx =>
    have hx := h x (by simp)
    have hl : lo.map ρ = lo.map ρ' := by
      cases lo with
      | none => rfl
      | some z => simp only [Option.map_some]; rw [h z (by simp)]
    have hh : hi.map ρ = hi.map ρ' := by
      cases hi with
      | none => rfl
      | some z => simp only [Option.map_some]; rw [h z (by simp)]
    cases mx with
    | some m => rfl
    | none => simp only; rw [hx, hl, hh]
  case makeFunc fn f c =>
    rw [allV_congr (l := f.toList) fun x hx => h x (by simp at hx ⊢; exact .inl hx), allV_congr (l := c.toList) fun x hx => h x (by simp at hx ⊢; exact .inr hx)]
  case call c =>
    obtain ⟨callee, args, types⟩ := c
    have ha : ∀ x ∈ args.toList, ρ x = ρ' x := fun x hx => h x (by simp [Call.operands] at hx ⊢; exact .inr hx)
    simp only [pvCall]
    split
    · rename_i x t e1 e2
      rw [ha x (by rw [e1]; exact .head _)]
    · rename_i x t e1 e2
      rw [ha x (by rw [e1]; exact .head _)]
    · rename_i x y e1
      rw [ha x (by rw [e1]; exact .head _), ha y (by rw [e1]; exact .tail _ (.head _))]
    · rename_i x y e1
      rw [ha x (by rw [e1]; exact .head _), ha y (by rw [e1]; exact .tail _ (.head _))]
    · rfl
  all_goals simp_all
theorem clr_v {d : Nat} {s : SV} {x : Value} : clr d s = .v x ↔ s = .v x := by
  cases s with
  | v y => rfl
  | u => simp [clr]
  | p k off => simp only [clr]; split <;> simp
theorem clr_p {d k off : Nat} {s : SV} (h : clr d s = .p k off) : s = .p k off ∧ k ≠ d := by
  cases s with
  | v y => cases h
  | u => cases h
  | p k' off' =>
    simp only [clr] at h
    split at h
    · cases h
    · cases h; exact ⟨rfl, by assumption⟩
theorem allV_clr {ρ : Operand → SV} {d : Nat} : ∀ {l : List Operand} {r : List Value}, allV (fun x => clr d (ρ x)) l = some r → allV ρ l = some r
  | [], _, h => h
  | x :: l, r, h => by
    simp only [allV] at h ⊢
    split at h
    · rename_i a r' ha hr
      rw [clr_v.1 ha, allV_clr hr]; exact h
    · cases h
theorem allP_clr {ρ : Operand → SV} {d : Nat} : ∀ {l : List (Nat × Operand)} {r : List (Nat × Value)}, allP (fun x => clr d (ρ x)) l = some r → allP ρ l = some r
  | [], _, h => h
  | (i, x) :: l, r, h => by
    simp only [allP] at h ⊢
    split at h
    · rename_i a r' ha hr
      rw [clr_v.1 ha, allP_clr hr]; exact h
    · cases h
theorem bndV_clr {ρ : Operand → SV} {d n : Nat} {o : Option Operand} {i : Int} (h : bndV n (o.map fun x => clr d (ρ x)) = some i) : bndV n (o.map ρ) = some i := by
  cases o with
  | none => exact h
  | some z =>
    obtain ⟨k, hk⟩ := bnd_some h
    simp only [Option.map_some] at h ⊢
    have hk' : clr d (ρ z) = .v (.int k i) := hk
    rw [clr_v.1 hk']; rw [hk'] at h; exact h
theorem pvSlice_clr {ρ : Operand → SV} {d : Nat} {k : Kd} {e : Elem} {x : SV} {lo hi : Option Operand} {φ : Prop} {sv : SV} (h : pvSlice k e (clr d x) (lo.map fun x => clr d (ρ x)) (hi.map fun x => clr d (ρ x)) = some (φ, sv)) :
    pvSlice k e x (lo.map ρ) (hi.map ρ) = some (φ, sv) ∧ sv = clr d sv := by
  unfold pvSlice at h
  split at h
  · rename_i size a len cap hx
    rw [clr_v.1 hx]
    unfold pvSlice
    split at h
    · rename_i l hh hiv hl hhv hs
      cases h
      simp only [bndV_clr hl, bndV_clr hhv]
      cases hi with
      | none => cases hs
      | some z => exact ⟨rfl, rfl⟩
    · rename_i l hh hl hhv hs
      cases h
      simp only [bndV_clr hl, bndV_clr hhv]
      cases hi with
      | none => exact ⟨rfl, rfl⟩
      | some z => cases hs
    · cases h
  · rename_i s hx
    rw [clr_v.1 hx]
    unfold pvSlice
    split at h
    · rename_i l hh hl hhv
      cases h
      simp only [bndV_clr hl, bndV_clr hhv]
      exact ⟨trivial, rfl⟩
    · cases h
  · cases h
theorem findB_newBox {bx : List Box} {d k : Nat} {T : TypeId} {cs : List Value} (h : k ≠ d) : findB (insB ⟨d, T, cs⟩ (dropB bx d)) k = findB bx k := by
  have h1 : ∀ l : List Box, findB (insB ⟨d, T, cs⟩ l) k = findB l k := by
    intro l
    induction l with
    | nil => simp [insB, findB, Ne.symm h]
    | cons b l ih =>
      simp only [insB]
      split
      · simp only [findB, ih]
      · simp [findB, Ne.symm h]
  rw [h1]
  induction bx with
  | nil => rfl
  | cons b l ih =>
    simp only [dropB]
    split
    · rename_i e
      rw [ih]
      have : ¬ b.key = k := fun x => h (x.symm.trans e)
      simp [findB, this]
    · simp only [findB, ih]
theorem findB_kb (f : Bool) (kp : List Nat) (l : List Box) (k : Nat) : findB (kb f kp l) k = if f = true ∧ memN kp k = false then none else findB l k := by
  unfold kb
  cases f
  · simp
  · simp only [if_true, true_and]
    induction l with
    | nil => simp [keepB, findB]
    | cons b l ih =>
      simp only [keepB]
      by_cases e : b.key = k
      · cases hm : memN kp b.key
        · rw [if_neg (by simp), ih, ← e, hm]; simp
        · rw [if_pos rfl]; subst e; simp [findB, hm]
      · cases hm : memN kp b.key
        · rw [if_neg (by simp), ih]; simp [findB, e]
        · rw [if_pos rfl]; simp only [findB, if_neg e]; exact ih
theorem findB_kb_newBox {f : Bool} {kp : List Nat} {bx : List Box} {d k : Nat} {T : TypeId} {cs : List Value} (h : k ≠ d) : findB (kb f kp (insB ⟨d, T, cs⟩ (dropB bx d))) k = findB (kb f kp bx) k := by
  rw [findB_kb, findB_kb, findB_newBox h]
theorem pv_clr {P : Program} {bx : List Box} {ρ : Operand → SV} {d : Nat} {T : TypeId} {cs : List Value} {op : Op} {φ : Prop} {sv : SV} {f : Bool} {kp : List Nat}
    (h : pv P (kb f kp (insB ⟨d, T, cs⟩ (dropB bx d))) (fun x => clr d (ρ x)) op = some (φ, sv)) : ∃ sv', pv P (kb f kp bx) ρ op = some (φ, sv') ∧ sv = clr d sv' := by
  have mv : ∀ x : Operand, (match clr d (ρ x) with | .u => (none : Option (Prop × SV)) | sv => some (True, sv)) = some (φ, sv) → ∃ sv', (match ρ x with | .u => (none : Option (Prop × SV)) | sv => some (True, sv)) = some (φ, sv') ∧ sv = clr d sv' := by
    intro x hx
    cases hr : ρ x with
    | v y => rw [hr] at hx; cases hx; exact ⟨.v y, rfl, rfl⟩
    | u => rw [hr] at hx; cases hx
    | p k off =>
      rw [hr] at hx
      simp only [clr] at hx
      split at hx
      · rename_i e; split at e <;> first | cases hx | cases e
      · rename_i hne
        by_cases e : k = d
        · simp [e] at hne
        · simp only [if_neg e] at hx
          cases hx; exact ⟨.p k off, rfl, by simp [clr, e]⟩
  cases op <;> simp only [pv] at h ⊢ <;> try (cases h; done)
  case move x => exact mv x h
  case assign x => exact mv x h
  case pick c x y =>
    split at h
    · rename_i b hb
      cases h
      rw [clr_v.1 hb]
      exact ⟨_, rfl, by split <;> rfl⟩
    · cases h
  case load T' x =>
    unfold pvLoad at h ⊢
    split at h
    · rename_i k off hx
      obtain ⟨hx, hk⟩ := clr_p hx
      rw [hx]
      simp only
      rw [findB_kb_newBox hk] at h
      split at h
      · split at h
        · cases h; exact ⟨_, rfl, rfl⟩
        · cases h
      · cases h
    · cases h
  case fieldAddr T' x f =>
    split at h
    · unfold pvAt at h
      split at h
      · rename_i k off hx
        cases h
        obtain ⟨hx, hk⟩ := clr_p hx
        exact ⟨_, by rw [hx]; rfl, by simp [clr, hk]⟩
      · rename_i b off hx
        cases h
        exact ⟨_, by rw [clr_v.1 hx]; rfl, rfl⟩
      · cases h
    · cases h
  case nilCheck x =>
    unfold pvNil at h
    split at h
    · rename_i k off hx
      cases h
      obtain ⟨hx, hk⟩ := clr_p hx
      exact ⟨_, by rw [hx]; rfl, by simp [clr, hk]⟩
    · rename_i a hx
      cases h
      exact ⟨_, by rw [clr_v.1 hx]; rfl, rfl⟩
    · cases h
  case indexAddr T' x i =>
    unfold pvIx at h
    split at h
    · rename_i len size k off kk n he hx hi
      cases h
      obtain ⟨hx, hk⟩ := clr_p hx
      exact ⟨_, by rw [hx, clr_v.1 hi, he]; rfl, by simp [clr, hk]⟩
    · rename_i len size b off kk n he hx hi
      cases h
      exact ⟨_, by rw [clr_v.1 hx, clr_v.1 hi, he]; rfl, rfl⟩
    · rename_i size b off len cap kk n he hx hi
      cases h
      exact ⟨_, by rw [clr_v.1 hx, clr_v.1 hi, he]; rfl, rfl⟩
    · cases h
  case index T' x i =>
    unfold pvIndex at h
    split at h
    · rename_i s kk n he hx hi
      cases h
      exact ⟨_, by rw [clr_v.1 hx, clr_v.1 hi, he]; rfl, rfl⟩
    · cases h
  case field T' x f =>
    split at h
    · rename_i n ty cs' hf hx
      obtain ⟨v, hv, rfl⟩ := okV_some h
      refine ⟨.v v, ?_, rfl⟩
      rw [hf, clr_v.1 hx]; exact h
    · cases h
  case extract x n =>
    split at h
    · rename_i vs hx
      obtain ⟨v, hv, rfl⟩ := okV_some h
      refine ⟨.v v, ?_, rfl⟩
      rw [clr_v.1 hx]; exact h
    · cases h
  case build T' ps =>
    split at h
    · rename_i l hl
      obtain ⟨v, hv, rfl⟩ := okV_some h
      refine ⟨.v v, ?_, rfl⟩
      rw [allP_clr hl]; exact h
    · cases h
  case binOp op T' x y T2 =>
    split at h
    · rename_i a b hx hy
      obtain ⟨v, hv, rfl⟩ := okV_some h
      refine ⟨.v v, ?_, rfl⟩
      rw [clr_v.1 hx, clr_v.1 hy]; exact h
    · cases h
  case unOp op T' x =>
    split at h
    · rename_i a hx
      obtain ⟨v, hv, rfl⟩ := okV_some h
      refine ⟨.v v, ?_, rfl⟩
      rw [clr_v.1 hx]; exact h
    · cases h
  case convert s dd x =>
    split at h
    · rename_i a hs hx
      obtain ⟨v, hv, rfl⟩ := okV_some h
      refine ⟨.v v, ?_, rfl⟩
      rw [clr_v.1 hx, hs]; exact h
    · cases h
  case slice T' x lo hi mx =>
    cases mx with
    | some m => cases h
    | none =>
      obtain ⟨h1, h2⟩ := pvSlice_clr (ρ := ρ) h
      exact ⟨sv, h1, h2⟩
  case makeFunc fn f c =>
    split at h
    · rename_i l m hl hm
      cases h
      refine ⟨_, by rw [allV_clr hl, allV_clr hm], rfl⟩
    · cases h
  case call c =>
    unfold pvCall at h ⊢
    split at h
    all_goals first
      | (split at h
         · first
           | (rename_i a b hx hy
              obtain ⟨v, hv, rfl⟩ := okV_some h
              exact ⟨.v v, by rw [clr_v.1 hx, clr_v.1 hy]; exact h, rfl⟩)
           | (rename_i a hx
              obtain ⟨v, hv, rfl⟩ := okV_some h
              exact ⟨.v v, by rw [clr_v.1 hx]; exact h, rfl⟩)
         · cases h)
      | cases h
end Go.Sx
end
