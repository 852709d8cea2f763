import Derived.Test.YtfaclfkpnmcmlaaGreatDoorW12
import Derived.Deep.Slices
import Derived.Deep.Strs
import Derived.Deep.DeepHandedRow
import Derived.Deep.DeepWitnessRowRef
import Derived.ProofKit
import Derived.ChangeSame
import Derived.RowKit
import Derived.LaidMore
import Derived.LaidHandle
import Derived.Lib.LaidU8
import Derived.SevenTiedAt
import Derived.Test.YtfaclfkpnmcmlaaGreatDoorRows
import Derived.Test.YtfaclfkpnmcmlaaGreatDoorCards
import Derived.Test.YtfaclfkpnmcmlaaGreatDoorTie
import Derived.Carry
import Derived.MakeChecks
import Derived.OpenShut
set_option maxHeartbeats 20000000
set_option linter.all false
section
namespace Go.Proofs.YtfaclfkpnmcmlaaGreatDoor
open Go Go.Sx Dg Syn
open Go.ChangeShapes (trodAll_one trodAll_two trodAll_three trodVars_none trodAll_mk1 trodAll_mk2 trodAll_mk3 trod_struct2)
open Go.RowKit (shut_bool)
def allH (W : World) : PH := fun b => W.heap[b]?
theorem DoesI.calls {P : Program} {f : FuncId} {args : Array Value} {W : World} {v : Value} (h : DoesI P f args (allH W) [] fun r I2 qs => qs = [] ∧ r = v) :
    Calls P f args W fun e W' => e = .returned v ∧ RowKit.Below W.heap.size W W' := by
  have hd : Dj [allH W] := List.pairwise_singleton _ _
  have e0 : U [allH W] = allH W := PH.uni_no _
  refine (h hd W (by rw [e0]; exact fun b o hb => hb)).mono fun e w2 he => ?_
  cases e with
  | returned r =>
    obtain ⟨H2, st, I2, qs, e1, _, hle, rfl, rfl⟩ := he
    subst e1
    refine ⟨rfl, ⟨st.os, st.tape, st.out, st.size, fun k hk => ?_⟩⟩
    have hk2 : allH W k = some W.heap[k] := Array.getElem?_eq_getElem hk
    have := st.sub k _ (PH.le_uni I2 _ k _ (hle k _ hk2))
    rw [this]; exact hk2.symm
  | outgrown => exact he.elim
  | panicked c => exact he.elim
theorem lr_flat {α : Type} {R : List Value → α → Prop} {C : Nat → List Value} {g : Nat → α} : ∀ (is : List Nat), (∀ i ∈ is, R (C i) (g i)) → LR R (is.flatMap C) (is.map g)
  | [], _ => rfl
  | i :: is, h => ⟨C i, is.flatMap C, rfl, h i (.head _), lr_flat is fun j hj => h j (.tail _ hj)⟩
theorem flat_len' {C : Nat → List Value} {size : Nat} : ∀ (is : List Nat), (∀ i ∈ is, (C i).length = size) → (is.flatMap C).length = is.length * size
  | [], _ => by simp
  | i :: is, h => by
    rw [List.flatMap_cons, List.length_append, h i (.head _), flat_len' is fun j hj => h j (.tail _ hj), List.length_cons, Nat.add_mul]; omega
theorem flat_at {C : Nat → List Value} {size : Nat} {len : Nat} (h : ∀ i, i < len → (C i).length = size) {i j : Nat} (hi : i < len) (hj : j < size) : ((List.range len).flatMap C)[i * size + j]? = (C i)[j]? := by
  induction len with
  | zero => omega
  | succ n ih =>
    have hl : ((List.range n).flatMap C).length = n * size := by
      have := flat_len' (C := C) (size := size) (List.range n) fun k hk => h k (by have := List.mem_range.1 hk; omega)
      simpa using this
    rw [List.range_succ, List.flatMap_append, List.flatMap_cons, List.flatMap_nil, List.append_nil]
    rcases Nat.lt_or_ge i n with h1 | h1
    · have h2 : (i + 1) * size ≤ n * size := Nat.mul_le_mul_right _ h1
      rw [Nat.add_mul, Nat.one_mul] at h2
      rw [List.getElem?_append_left (by rw [hl]; omega)]
      exact ih (fun k hk => h k (by omega)) h1
    · have : i = n := by omega
      subst this
      rw [List.getElem?_append_right (by rw [hl]; omega), hl]
      congr 1; omega
theorem cells_of {W : World} {base : Nat} {a : Addr} {size len : Nat} {C : Nat → List Value} (h : ∀ i, i < len → W.cells? base (a.add (i * size)) size = some (C i)) (hs : 0 < size) (hl : 0 < len) :
    ∃ b off, a = ⟨b, off, none⟩ ∧ Cells (allH W) b off ((List.range len).flatMap C) := by
  have hc : ∀ i, i < len → (C i).length = size ∧ ∀ j, j < size → W.cell? (a.add (i * size + j)) = (C i)[j]? := fun i hi => by
    obtain ⟨_, h1, h2⟩ := World.cells?_some (h i hi)
    exact ⟨h1, fun j hj => by rw [← Deep.add_add]; exact h2 j hj⟩
  obtain ⟨b, off, spot⟩ := a
  have hspot : spot = none := by
    have h1 := (hc 0 hl).2 0 hs
    obtain ⟨x, hx⟩ : ∃ x, (C 0)[0]? = some x := ⟨_, List.getElem?_eq_getElem (by rw [(hc 0 hl).1]; exact hs)⟩
    rw [hx] at h1
    simpa [Addr.add] using World.cell?_spot h1
  subst hspot
  have hlen : ((List.range len).flatMap C).length = len * size := by
    have := flat_len' (C := C) (size := size) (List.range len) fun k hk => (hc k (List.mem_range.1 hk)).1
    simpa using this
  have hcell : ∀ k x, ((List.range len).flatMap C)[k]? = some x → W.cell? ⟨b, off + k, none⟩ = some x := fun k x hx => by
    have hk : k < len * size := by rw [← hlen]; exact (List.getElem?_eq_some_iff.1 hx).1
    have e : k = (k / size) * size + k % size := by rw [Nat.mul_comm]; exact (Nat.div_add_mod k size).symm
    have hi : k / size < len := Nat.div_lt_of_lt_mul (by rw [Nat.mul_comm]; exact hk)
    have hj : k % size < size := Nat.mod_lt _ hs
    have h1 := (hc _ hi).2 _ hj
    rw [← flat_at (fun i hi => (hc i hi).1) hi hj, ← e, hx] at h1
    rw [← h1]
    unfold Addr.add
    split
    · rename_i h0; rw [h0, Nat.add_zero]
    · rfl
  obtain ⟨cs, ty, fz, hb, hoff⟩ : ∃ cs ty fz, W.heap[b]? = some (.cells cs ty fz) ∧ ∀ k x, ((List.range len).flatMap C)[k]? = some x → cs[off + k]? = some x := by
    obtain ⟨x0, hx0⟩ : ∃ x, ((List.range len).flatMap C)[0]? = some x := ⟨_, List.getElem?_eq_getElem (by rw [hlen]; exact Nat.mul_pos hl hs)⟩
    have h0 := hcell 0 x0 hx0
    unfold World.cell? at h0
    cases hb : W.heap[b]? with
    | none => simp [hb] at h0
    | some o =>
      cases o with
      | cells cs ty fz =>
        refine ⟨cs, ty, fz, rfl, fun k x hx => ?_⟩
        have := hcell k x hx
        simpa [World.cell?, hb] using this
      | _ => simp [hb] at h0
  refine ⟨b, off, rfl, cs, ty, fz, hb, ?_, ?_⟩
  · rw [hlen]
    have hp : 0 < len * size := Nat.mul_pos hl hs
    obtain ⟨x, hx⟩ : ∃ x, ((List.range len).flatMap C)[len * size - 1]? = some x := ⟨_, List.getElem?_eq_getElem (by rw [hlen]; omega)⟩
    have := (Array.getElem?_eq_some_iff.1 (hoff _ _ hx)).1
    show off + len * size ≤ _
    omega
  · apply List.ext_getElem?
    intro k
    rcases Nat.lt_or_ge k ((List.range len).flatMap C).length with hk | hk
    · rw [List.getElem?_take_of_lt hk, List.getElem?_drop]
      have hx := List.getElem?_eq_getElem hk
      rw [hx]
      simpa using hoff k _ hx
    · rw [List.getElem?_eq_none (by rw [List.length_take]; exact Nat.le_trans (Nat.min_le_left _ _) hk), List.getElem?_eq_none hk]
section
variable {H : Type} {enc : TypeId × Value → H} {W : World}
theorem bulk_pos : ∀ d : DataW H, 1 ≤ Rows.uptoBulk d := by
  intro d
  cases d with
  | lit l => cases l <;> simp [Rows.uptoBulk]
  | _ => simp [Rows.uptoBulk]
theorem bulk_all (D : Nat → DataW H) : ∀ (is : List Nat), is.length ≤ Rows.uptoBulkAll (is.map D) ∧ ∀ i ∈ is, Rows.uptoBulk (D i) ≤ Rows.uptoBulkAll (is.map D)
  | [] => ⟨Nat.zero_le _, fun _ h => (List.not_mem_nil h).elim⟩
  | i :: is => by
    obtain ⟨h1, h2⟩ := bulk_all D is
    have h3 := bulk_pos (D i)
    simp only [List.map_cons, List.length_cons, Rows.uptoBulkAll]
    refine ⟨by omega, fun j hj => ?_⟩
    rcases List.mem_cons.1 hj with rfl | hj
    · omega
    · have := h2 j hj; omega
theorem un46 : Tryz.prog.underlying 46 = some (.slice 164) := by kernel_rfl
theorem un164 : ∃ f0 f1, Tryz.prog.underlying 164 = some (.struct #[f0, f1]) ∧ f0.type = 23 ∧ f0.offset = 0 ∧ f1.type = 23 ∧ f1.offset = 1 := ⟨_, _, Tryz.underlying164, rfl, rfl, rfl, rfl⟩
theorem un23 : Tryz.prog.underlying 23 = some (.int .u32) := by kernel_rfl
theorem ce164 : Tryz.prog.cellsOf 164 = 2 := by kernel_rfl
theorem ce23 : Tryz.prog.cellsOf 23 = 1 := by kernel_rfl
theorem ce46 : Tryz.prog.cellsOf 46 = 1 := by kernel_rfl
theorem wf_u32 {n : Int} (h : (Lit.int .u32 n).wf = true) : ∃ k : Nat, n = (k : Int) ∧ k < 2 ^ 32 := by
  have h1 : IntKind.min .u32 = 0 := by decide
  have h2 : IntKind.max .u32 = 4294967295 := by decide
  simp only [Lit.wf, h1, h2, Bool.and_eq_true, decide_eq_true_eq] at h
  exact ⟨n.toNat, by omega, by omega⟩
theorem wf_u8 {n : Int} (h : (Lit.int .u8 n).wf = true) : ∃ k : Nat, n = (k : Int) := by
  have h1 : IntKind.min .u8 = 0 := by decide
  simp only [Lit.wf, h1, Bool.and_eq_true, decide_eq_true_eq] at h
  exact ⟨n.toNat, by omega⟩
theorem open_cubes {fuel : Nat} {v : Value} {d : DataW H} {p : List MemPlace} (h : DataW.trod enc Tryz.prog W 0 (fun _ => true) true fuel 46 [v] = some (d, p)) : ∃ l, SlC (allH W) v l ∧ l.length ≤ Rows.uptoBulk d := by
  rcases Deep.open_slice un46 h with ⟨e, e2⟩ | ⟨a, len, cap, m, n, D, Pl, e, _, hlc, hcm, hm, e2, hx⟩
  · simp only [List.cons.injEq, and_true] at e
    subst e
    exact ⟨[], ⟨none, 0, rfl, .inl rfl⟩, Nat.zero_le _⟩
  · simp only [List.cons.injEq, and_true] at e
    subst e
    simp only [Prod.mk.injEq] at e2
    obtain ⟨rfl, _⟩ := e2
    have hml : m = cap := by simpa using hm
    subst hml
    obtain ⟨f0, f1, hu, t0, o0, t1, o1⟩ := un164
    obtain ⟨g, hg⟩ := Deep.choose_lt (α := Nat × Nat) (n := len) (p := fun i x => W.cells? 0 (a.add (i * 2)) 2 = some [.int .u32 x.1, .int .u32 x.2] ∧ x.1 < 2 ^ 32 ∧ x.2 < 2 ^ 32) (fun i hi => by
      obtain ⟨cs, h1, h2⟩ := hx i (by omega)
      rw [ce164] at h1
      obtain ⟨y0, y1, n', _, hl, h3, h4⟩ := trod_struct2 hu h2
      rw [t0, o0, ce23] at h3
      rw [t1, o1, ce23] at h4
      obtain ⟨k0, e0, _, w0⟩ := DataW.trod_int un23 h3
      obtain ⟨k1, e1, _, w1⟩ := DataW.trod_int un23 h4
      obtain ⟨j0, rfl, b0⟩ := wf_u32 w0
      obtain ⟨j1, rfl, b1⟩ := wf_u32 w1
      rw [ce164] at hl
      match cs, hl with
      | [x, y], _ =>
        simp at e0 e1
        subst e0; subst e1
        exact ⟨(j0, j1), h1, b0, b1⟩)
    have hb : len ≤ Rows.uptoBulk (DataW.slice ((List.range len).map D) ((List.range (m - len)).map fun j => D (len + j))) := by
      have := (bulk_all D (List.range len)).1
      simp only [List.length_range] at this
      simp only [Rows.uptoBulk]; omega
    rcases Nat.eq_zero_or_pos len with h0 | h0
    · subst h0
      exact ⟨[], ⟨some a, m, rfl, .inl rfl⟩, Nat.zero_le _⟩
    · obtain ⟨b, off, rfl, hc⟩ := cells_of (size := 2) (C := fun i => [.int .u32 (g i).1, .int .u32 (g i).2]) (fun i hi => (hg i hi).1) (by decide) h0
      refine ⟨(List.range len).map g, ⟨_, m, by rw [List.length_map, List.length_range], .inr ⟨b, off, _, rfl, hc, lr_flat _ fun i hi => ?_⟩⟩, by rw [List.length_map, List.length_range]; exact hb⟩
      exact ⟨rfl, (hg i (List.mem_range.1 hi)).2⟩
theorem bulk_sum {α : Type} (D : Nat → DataW H) (g : Nat → α) (Q : α → Nat) : ∀ (is : List Nat), (∀ i ∈ is, Q (g i) ≤ Rows.uptoBulk (D i)) → ((is.map g).map Q).sum ≤ Rows.uptoBulkAll (is.map D)
  | [], _ => Nat.zero_le _
  | i :: is, h => by
    have h1 := bulk_sum D g Q is fun j hj => h j (.tail _ hj)
    have h2 := h i (.head _)
    simp only [List.map_cons, List.sum_cons, Rows.uptoBulkAll]
    omega
theorem open_list {α : Type} [Inhabited α] {R : PH → List Value → α → Prop} {t e sz : Nat} (Q : α → Nat) (hu : Tryz.prog.underlying t = some (.slice e)) (hce : Tryz.prog.cellsOf e = sz) (hs : 0 < sz) {fuel : Nat} {v : Value} {d : DataW H} {p : List MemPlace} (h : DataW.trod enc Tryz.prog W 0 (fun _ => true) true fuel t [v] = some (d, p))
    (hel : ∀ n cs x, DataW.trod enc Tryz.prog W 0 (fun _ => true) true n e cs = some x → Rows.uptoBulk x.1 < Rows.uptoBulk d → ∃ a, R (allH W) cs a ∧ Q a ≤ Rows.uptoBulk x.1) : ∃ l, Sl R (allH W) v l ∧ (l.map Q).sum + 1 ≤ Rows.uptoBulk d := by
  rcases Deep.open_slice hu h with ⟨e, e2⟩ | ⟨a, len, cap, m, n, D, Pl, e, _, hlc, hcm, hm, e2, hx⟩
  · simp only [List.cons.injEq, and_true] at e
    subst e
    exact ⟨[], ⟨none, 0, rfl, .inl rfl⟩, by simpa using bulk_pos d⟩
  · simp only [List.cons.injEq, and_true] at e
    subst e
    simp only [Prod.mk.injEq] at e2
    obtain ⟨rfl, _⟩ := e2
    have hml : m = cap := by simpa using hm
    subst hml
    rw [hce] at hx
    obtain ⟨b1, b2⟩ := bulk_all D (List.range len)
    have hsl : Rows.uptoBulkAll ((List.range len).map D) + 1 ≤ Rows.uptoBulk (DataW.slice ((List.range len).map D) ((List.range (m - len)).map fun j => D (len + j))) := by
      simp only [Rows.uptoBulk]; omega
    obtain ⟨g, hg⟩ := Deep.choose_lt (α := List Value × α) (n := len) (p := fun i x => W.cells? 0 (a.add (i * sz)) sz = some x.1 ∧ R (allH W) x.1 x.2 ∧ Q x.2 ≤ Rows.uptoBulk (D i)) (fun i hi => by
      obtain ⟨cs, h1, h2⟩ := hx i (by omega)
      have := b2 i (List.mem_range.2 hi)
      obtain ⟨y, hy, hq⟩ := hel n cs _ h2 (by simp only; omega)
      exact ⟨(cs, y), h1, hy, hq⟩)
    have hb := bulk_sum D (fun i => (g i).2) Q (List.range len) fun i hi => (hg i (List.mem_range.1 hi)).2.2
    rcases Nat.eq_zero_or_pos len with h0 | h0
    · subst h0
      exact ⟨[], ⟨some a, m, rfl, .inl rfl⟩, by simpa using bulk_pos _⟩
    · obtain ⟨b, off, rfl, hc⟩ := cells_of (size := sz) (C := fun i => (g i).1) (fun i hi => (hg i hi).1) hs h0
      exact ⟨(List.range len).map fun i => (g i).2, ⟨_, m, by rw [List.length_map, List.length_range], .inr ⟨b, off, _, rfl, hc, lr_flat _ fun i hi => (hg i (List.mem_range.1 hi)).2.1⟩⟩, by omega⟩
theorem trod_struct6 {t : TypeId} {f0 f1 f2 f3 f4 f5 : Field} {fuel : Nat} {cs : List Value} {x : DataW H × List MemPlace} (ht : Tryz.prog.underlying t = some (.struct #[f0, f1, f2, f3, f4, f5])) (h : DataW.trod enc Tryz.prog W 0 (fun _ => true) true fuel t cs = some x) :
    ∃ (y : Nat → DataW H × List MemPlace) (n : Nat), x.1 = .agg [(y 0).1, (y 1).1, (y 2).1, (y 3).1, (y 4).1, (y 5).1] ∧ cs.length = Tryz.prog.cellsOf t ∧ ∀ i f, [f0, f1, f2, f3, f4, f5][i]? = some f → DataW.trod enc Tryz.prog W 0 (fun _ => true) true n f.type ((cs.drop f.offset).take (Tryz.prog.cellsOf f.type)) = some (y i) := by
  obtain ⟨xs, n, _, rfl, hl, hlen, hf⟩ := DataW.trod_struct ht h
  match xs, hlen with
  | [y0, y1, y2, y3, y4, y5], _ =>
    refine ⟨fun i => [y0, y1, y2, y3, y4, y5].getD i y0, n, rfl, hl, fun i f hi => ?_⟩
    have := hf i f (by simpa using hi)
    rw [this]
    rcases Nat.lt_or_ge i 6 with h6 | h6
    · show _ = some ([y0, y1, y2, y3, y4, y5].getD i y0)
      rw [List.getD_eq_getElem?_getD]
      simp [List.getElem?_eq_getElem (l := [y0, y1, y2, y3, y4, y5]) (i := i) (by simpa using h6)]
    · rw [List.getElem?_eq_none (by simpa using h6)] at hi; cases hi
theorem un91 : Tryz.prog.underlying 91 = some (.slice 265) := Tryz.underlying91
theorem un92 : Tryz.prog.underlying 92 = some (.slice 187) := Tryz.underlying92
theorem un94 : ∃ f0 f1, Tryz.prog.underlying 94 = some (.struct #[f0, f1]) ∧ f0.type = 91 ∧ f0.offset = 0 ∧ f1.type = 92 ∧ f1.offset = 1 := ⟨_, _, Tryz.underlying94, rfl, rfl, rfl, rfl⟩
theorem un187 : ∃ f0 f1 f2, Tryz.prog.underlying 187 = some (.struct #[f0, f1, f2]) ∧ f0.type = 78 ∧ f0.offset = 0 ∧ f1.type = 3 ∧ f1.offset = 1 ∧ f2.type = 46 ∧ f2.offset = 2 := ⟨_, _, _, Tryz.underlying187, rfl, rfl, rfl, rfl, rfl, rfl⟩
theorem un265 : ∃ f0 f1 f2 f3 f4 f5, Tryz.prog.underlying 265 = some (.struct #[f0, f1, f2, f3, f4, f5]) ∧ (f0.type = 5 ∧ f0.offset = 0) ∧ (f1.type = 9 ∧ f1.offset = 1) ∧ (f2.type = 3 ∧ f2.offset = 2) ∧ (f3.type = 3 ∧ f3.offset = 3) ∧ (f4.type = 91 ∧ f4.offset = 4) ∧ (f5.type = 46 ∧ f5.offset = 5) := ⟨_, _, _, _, _, _, Tryz.underlying265, ⟨rfl, rfl⟩, ⟨rfl, rfl⟩, ⟨rfl, rfl⟩, ⟨rfl, rfl⟩, ⟨rfl, rfl⟩, ⟨rfl, rfl⟩⟩
theorem un78 : Tryz.prog.underlying 78 = some (.int .u8) := by kernel_rfl
theorem ce78 : Tryz.prog.cellsOf 78 = 1 := by kernel_rfl
theorem ce91 : Tryz.prog.cellsOf 91 = 1 := by kernel_rfl
theorem ce92 : Tryz.prog.cellsOf 92 = 1 := by kernel_rfl
theorem ce94 : Tryz.prog.cellsOf 94 = 2 := by kernel_rfl
theorem ce187 : Tryz.prog.cellsOf 187 = 3 := by kernel_rfl
theorem ce265 : Tryz.prog.cellsOf 265 = 6 := by kernel_rfl
instance : Inhabited Nt := ⟨⟨0, 0, []⟩⟩
instance : Inhabited Tw := ⟨⟨0, [], 0, 0, [], []⟩⟩
theorem open_ints {fuel : Nat} {v : Value} {d : DataW H} {p : List MemPlace} (h : DataW.trod enc Tryz.prog W 0 (fun _ => true) true fuel 81 [v] = some (d, p)) : ∃ l, SlZ (allH W) v l ∧ l.length ≤ Rows.uptoBulk d := by
  obtain ⟨l, h1, h2⟩ := open_list (R := AtZ) (fun _ => 1) un81 cells3 (by decide) h fun n cs x hx _ => by
    obtain ⟨k0, e0, _, _⟩ := DataW.trod_int un3 hx
    exact ⟨k0, e0, bulk_pos _⟩
  have : (l.map fun _ => 1).sum = l.length := by clear h1 h2; induction l with
    | nil => rfl
    | cons a l ih => rw [List.map_cons, List.sum_cons, ih, List.length_cons]; omega
  exact ⟨l, h1, by omega⟩
theorem open_notes {fuel : Nat} {v : Value} {d : DataW H} {p : List MemPlace} (h : DataW.trod enc Tryz.prog W 0 (fun _ => true) true fuel 92 [v] = some (d, p)) : ∃ l, SlNt (allH W) v l ∧ l.length ≤ Rows.uptoBulk d ∧ ∀ y ∈ l, y.inn.length ≤ Rows.uptoBulk d := by
  obtain ⟨f0, f1, f2, hu, t0, o0, t1, o1, t2, o2⟩ := un187
  obtain ⟨l, h1, h2⟩ := open_list (R := NtR) (fun y => 1 + y.inn.length) un92 ce187 (by decide) h fun n cs x hx _ => by
    obtain ⟨y0, y1, y2, n', hD, hl, h3, h4, h5⟩ := Deep.trod_struct3 hu hx
    rw [t0, o0, ce78] at h3
    rw [t1, o1, cells3] at h4
    rw [t2, o2, ce46] at h5
    obtain ⟨k0, e0, q0, w0⟩ := DataW.trod_int un78 h3
    obtain ⟨k1, e1, q1, _⟩ := DataW.trod_int un3 h4
    obtain ⟨j0, rfl⟩ := wf_u8 w0
    rw [ce187] at hl
    match cs, hl with
    | [x, y, z], _ =>
      simp at e0 e1 h5
      subst e0; subst e1
      obtain ⟨l, hlc, hll⟩ := open_cubes (d := y2.1) (p := y2.2) h5
      refine ⟨⟨j0, k1, l⟩, ⟨z, rfl, hlc⟩, ?_⟩
      rw [hD]; simp only [Rows.uptoBulk, Rows.uptoBulkAll]; omega
  have hm : ∀ (l : List Nt), l.length ≤ (l.map fun y => 1 + y.inn.length).sum ∧ ∀ y ∈ l, y.inn.length ≤ (l.map fun y => 1 + y.inn.length).sum := fun l => by
    induction l with
    | nil => exact ⟨Nat.le_refl _, fun _ h => (List.not_mem_nil h).elim⟩
    | cons a l ih =>
      simp only [List.map_cons, List.sum_cons, List.length_cons]
      refine ⟨by omega, fun y hy => ?_⟩
      rcases List.mem_cons.1 hy with rfl | hy
      · omega
      · have := ih.2 y hy; omega
  obtain ⟨m1, m2⟩ := hm l
  exact ⟨l, h1, by omega, fun y hy => by have := m2 y hy; omega⟩
theorem list_six {l : List Value} (h : l.length = 6) : ∃ a b c d e f, l = [a, b, c, d, e, f] := by
  match l, h with
  | [a, b, c, d, e, f], _ => exact ⟨a, b, c, d, e, f, rfl⟩
theorem wtL_sum : ∀ l : List Tw, wtL l = (l.map wtN).sum
  | [] => rfl
  | x :: l => by rw [wtL, wtL_sum l]; rfl
theorem open_twigs : ∀ (N fuel : Nat) (v : Value) (d : DataW H) (p : List MemPlace), Rows.uptoBulk d ≤ N → DataW.trod enc Tryz.prog W 0 (fun _ => true) true fuel 91 [v] = some (d, p) → ∃ l, SlW N (allH W) v l ∧ wtL l ≤ Rows.uptoBulk d
  | 0, _, _, d, _, hN, _ => by have := bulk_pos d; omega
  | N + 1, fuel, v, d, p, hN, h => by
    obtain ⟨f0, f1, f2, f3, f4, f5, hu, ⟨t0, o0⟩, ⟨t1, o1⟩, ⟨t2, o2⟩, ⟨t3, o3⟩, ⟨t4, o4⟩, ⟨t5, o5⟩⟩ := un265
    obtain ⟨l, h1, h2⟩ := open_list (R := TwRn (N + 1)) wtN un91 ce265 (by decide) h fun n cs x hx hlt => by
      obtain ⟨y, n', hD, hl, hf⟩ := trod_struct6 hu hx
      have g0 := hf 0 f0 rfl
      have g1 := hf 1 f1 rfl
      have g2 := hf 2 f2 rfl
      have g3 := hf 3 f3 rfl
      have g4 := hf 4 f4 rfl
      have g5 := hf 5 f5 rfl
      rw [t0, o0, cells5] at g0
      rw [t1, o1, cells9] at g1
      rw [t2, o2, cells3] at g2
      rw [t3, o3, cells3] at g3
      rw [t4, o4, ce91] at g4
      rw [t5, o5, ce46] at g5
      obtain ⟨k0, e0, q0, w0⟩ := DataW.trod_int un5 g0
      obtain ⟨s, e1, q1, _⟩ := DataW.trod_string un9 g1
      obtain ⟨k2, e2, q2, _⟩ := DataW.trod_int un3 g2
      obtain ⟨k3, e3, q3, _⟩ := DataW.trod_int un3 g3
      obtain ⟨j0, rfl⟩ := wf_u8 w0
      rw [ce265] at hl
      obtain ⟨x0, x1, x2, x3, x4, x5, rfl⟩ := list_six hl
      · simp at e0 e1 e2 e3 g4 g5
        subst e0; subst e1; subst e2; subst e3
        obtain ⟨li, hlc, hll⟩ := open_cubes (d := (y 5).1) (p := (y 5).2) g5
        have hb : Rows.uptoBulk x.1 = 1 + (Rows.uptoBulk (y 0).1 + (s.data.toList.length + 1 + (Rows.uptoBulk (y 2).1 + (Rows.uptoBulk (y 3).1 + (Rows.uptoBulk (y 4).1 + (Rows.uptoBulk (y 5).1 + 0)))))) := by
          rw [hD, q1]; simp only [Rows.uptoBulk, Rows.uptoBulkAll]; omega
        obtain ⟨lk, hlk, hwk⟩ := open_twigs N n' x4 (y 4).1 (y 4).2 (by omega) g4
        refine ⟨⟨j0, s.data.toList, k2, k3, lk, li⟩, ⟨x4, x5, rfl, hlk, hlc⟩, ?_⟩
        rw [wtN_eq]
        simp only
        omega
    exact ⟨l, h1, by rw [wtL_sum]; omega⟩
theorem open_stem {fuel : Nat} {v0 v1 : Value} {d : DataW H} {p : List MemPlace} (h : DataW.trod enc Tryz.prog W 0 (fun _ => true) true fuel 94 [v0, v1] = some (d, p)) (hd : Rows.uptoBulk d ≤ 1048576) : ∃ x, SmR 1048576 (allH W) [v0, v1] x ∧ SmB x := by
  obtain ⟨f0, f1, hu, t0, o0, t1, o1⟩ := un94
  obtain ⟨y0, y1, n', hD, hl, h3, h4⟩ := trod_struct2 hu h
  rw [t0, o0, ce91] at h3
  rw [t1, o1, ce92] at h4
  simp only [Prod.mk.injEq] at hD
  obtain ⟨hD, _⟩ := hD
  have hb : Rows.uptoBulk d = Rows.uptoBulk y0.1 + (Rows.uptoBulk y1.1 + 0) + 1 := by rw [hD]; simp only [Rows.uptoBulk, Rows.uptoBulkAll]
  simp at h3 h4
  obtain ⟨lk, hlk, hwk⟩ := open_twigs 1048576 n' v0 y0.1 y0.2 (by omega) h3
  obtain ⟨ln, hln, hn1, hn2⟩ := open_notes (d := y1.1) (p := y1.2) h4
  exact ⟨⟨lk, ln⟩, ⟨v0, v1, rfl, hlk, hln⟩, by simp only; omega, by simp only; omega, fun y hy => by have := hn2 y hy; omega⟩
end
theorem var_block {W : World} {n : String} {g : Nat} {cs : Array Value} (hg : Tryz.prog.globalNamed n = some g) (h : W.var? Tryz.prog n = some cs) : ∃ ty fz, W.heap[g]? = some (.cells cs ty fz) := by
  unfold World.var? at h
  rw [hg] at h
  simp only [Option.bind_some] at h
  cases hb : W.heap[g]? with
  | none => rw [hb] at h; cases h
  | some o =>
    rw [hb] at h
    cases o with
    | cells c ty fz => simp only [Option.some.injEq] at h; subst h; exact ⟨ty, fz, rfl⟩
    | _ => cases h
theorem arr_strs {H : Type} {enc : TypeId × Value → H} {W : World} {base fuel t n : Nat} {sp : Nat → Bool} {held : Bool} {cs : List Value} {T : List Txt} {p : List MemPlace} (ht : Tryz.prog.underlying t = some (.array n 9)) (hct : Tryz.prog.cellsOf t = n)
    (h : DataW.trod enc Tryz.prog W base sp held fuel t cs = some (.agg (T.map fun x => .lit (.string x)), p)) : cs = T.map fun x => .string ⟨⟨x⟩⟩ := by
  obtain ⟨xs, m, _, hx, hl, hxl, hel⟩ := DataW.trod_array ht h
  simp only [Prod.mk.injEq, DataW.agg.injEq] at hx
  obtain ⟨hx, _⟩ := hx
  rw [hct] at hl
  have hT : T.length = n := by
    have := congrArg List.length hx
    simp at this; omega
  apply List.ext_getElem?
  intro i
  rcases Nat.lt_or_ge i n with hi | hi
  · have h1 := hel i hi
    obtain ⟨y, hy⟩ : ∃ y, xs[i]? = some y := ⟨_, List.getElem?_eq_getElem (by omega)⟩
    rw [cells9, Nat.mul_one, hy] at h1
    obtain ⟨s, e1, e2, _⟩ := DataW.trod_string un9 h1
    have h2 : (xs.map (·.1))[i]? = some (.lit (.string s.data.toList)) := by rw [List.getElem?_map, hy, e2]; rfl
    rw [← hx, List.getElem?_map] at h2
    obtain ⟨x, hxi⟩ : ∃ x, T[i]? = some x := ⟨_, List.getElem?_eq_getElem (by omega)⟩
    rw [hxi] at h2
    simp only [Option.map_some, Option.some.injEq, DataW.lit.injEq, Lit.string.injEq] at h2
    have h3 : cs[i]? = some (.string s) := by
      have := congrArg (fun l : List Value => l[0]?) e1
      simpa [List.getElem?_take, List.getElem?_drop] using this
    rw [h3, List.getElem?_map, hxi, h2]; rfl
  · rw [List.getElem?_eq_none (by omega), List.getElem?_eq_none (by rw [List.length_map]; omega)]
theorem ce317 : Tryz.prog.cellsOf 317 = 22 := by kernel_rfl
theorem gl0 : Tryz.prog.globalNamed "motley/source.signs" = some 0 := by kernel_rfl
theorem gl1 : Tryz.prog.globalNamed "strconv.ErrSyntax" = some 1 := by kernel_rfl
theorem gl2 : Tryz.prog.globalNamed "strconv.ErrRange" = some 2 := by kernel_rfl
theorem gt0 : (Tryz.prog.globals[0]?).map (·.type) = some 317 := by kernel_rfl
theorem gt1 : (Tryz.prog.globals[1]?).map (·.type) = some 284 := by kernel_rfl
theorem gt2 : (Tryz.prog.globals[2]?).map (·.type) = some 284 := by kernel_rfl
theorem gt3 : (Tryz.prog.globals[3]?).map (·.type) = some 406 := by kernel_rfl
theorem un406 : Tryz.prog.underlying 406 = some (.array 20 366) := by kernel_rfl
theorem un366 : Tryz.prog.underlying 366 = some (.int .u64) := by kernel_rfl
theorem ce366 : Tryz.prog.cellsOf 366 = 1 := by kernel_rfl
theorem ce406 : Tryz.prog.cellsOf 406 = 20 := by kernel_rfl
theorem vars_of {W : World} (hL : laidMetH Tryz.prog Rows.syntaxWalksUptoRow.laid W) : VarsIn (allH W) := by
  rw [MakeChecks.laidMetH_plain _ _ _ (by kernel_rfl)] at hL
  have r3 := Lib.laidMet.reads hL (.tail _ (.tail _ (.head _)))
  have r2 := Lib.laidMet.reads hL (.tail _ (.tail _ (.tail _ (.head _))))
  have r1 := Lib.laidMet.reads hL (.tail _ (.tail _ (.tail _ (.tail _ (.head _)))))
  have r0 := Lib.laidMet.reads hL (.tail _ (.tail _ (.tail _ (.tail _ (.tail _ (.head _))))))
  refine ⟨?_, ?_, ?_, ?_⟩
  · obtain ⟨g, t, cs, fuel, p, hg, ht, hv, hd⟩ := r0
    obtain rfl := Option.some.inj (gl0.symm.trans hg)
    obtain rfl := Option.some.inj (gt0.symm.trans ht)
    obtain ⟨ty, fz, hb⟩ := var_block gl0 hv
    have hcs := arr_strs (T := signsT) un317 ce317 hd
    refine ⟨cs, ty, fz, hb, ?_, ?_⟩
    · have := congrArg List.length hcs
      simp only [Array.length_toList] at this
      rw [this]; simp [signsV]
    · rw [List.drop_zero, hcs]; exact List.take_of_length_le (by simp [signsV])
  · obtain ⟨g, t, cs, fuel, p, hg, ht, hv, hd⟩ := r1
    obtain rfl := Option.some.inj (gl1.symm.trans hg)
    obtain rfl := Option.some.inj (gt1.symm.trans ht)
    obtain ⟨ty, fz, hb⟩ := var_block gl1 hv
    obtain ⟨_, u, v, hcs, _⟩ := iface_of_trod un284.choose_spec hd
    exact ⟨u, v, cs, ty, fz, hb, by have := congrArg List.length hcs; simp at this; simp [this], by simp [hcs]⟩
  · obtain ⟨g, t, cs, fuel, p, hg, ht, hv, hd⟩ := r2
    obtain rfl := Option.some.inj (gl2.symm.trans hg)
    obtain rfl := Option.some.inj (gt2.symm.trans ht)
    obtain ⟨ty, fz, hb⟩ := var_block gl2 hv
    obtain ⟨_, u, v, hcs, _⟩ := iface_of_trod un284.choose_spec hd
    exact ⟨u, v, cs, ty, fz, hb, by have := congrArg List.length hcs; simp at this; simp [this], by simp [hcs]⟩
  · obtain ⟨g, t, cs, fuel, p, hg, ht, hv, hd⟩ := r3
    obtain rfl := Option.some.inj (glob3.symm.trans hg)
    obtain rfl := Option.some.inj (gt3.symm.trans ht)
    obtain ⟨ty, fz, hb⟩ := var_block glob3 hv
    have hcs := Lib.cells_of_tab (zs := Lib.pow10Tab) (k := .u64) un406 un366 ce366 ce406 hd
    refine ⟨ty, fz, ?_⟩
    show W.heap[3]? = _
    rw [hb, ← hcs]
theorem arr_two {c : Array Value} (h : c.size = 2) : ∃ a b, c = #[a, b] := by
  obtain ⟨l⟩ := c
  match l, h with
  | [a, b], _ => exact ⟨a, b, rfl⟩
theorem own : ownKnob Tryz.prog.godebug = none := by kernel_rfl
theorem laidOut : laidOutB Tryz.prog = true := by kernel_rfl
theorem door_met (os : Os) (args : Array Value) : laidMetH Tryz.prog Rows.syntaxWalksUptoRow.laid ((World.doorLaid Tryz.prog 67 os).forCall (fun _ _ => 0) ⟨#[], args, []⟩).memory :=
  (@laidMetH_of_parts3 _ _ _ 8 (laidMet_of_run' 8 (by kernel_rfl) (by kernel_rfl)) (by kernel_rfl) (by kernel_rfl))
def args0 : Array Value := #[.agg #[.slice none 0 0, .slice none 0 0], .agg #[.slice none 0 0, .slice none 0 0], .slice none 0 0]
theorem witness_row (os : Os) {H : Type} (enc : TypeId × Value → H) :
    (Rows.OpenSpec.upto Rows.syntaxWalksSpec).preRow enc Tryz.prog Tryz.f10 Rows.syntaxWalksUptoRow.domain false Rows.syntaxWalksUptoRow.laid ((World.doorLaid Tryz.prog 67 os).forCall (fun _ _ => 0) ⟨#[], args0, []⟩).memory args0 := by
  have hw : (DataW.whole enc Tryz.prog ((World.doorLaid Tryz.prog 67 os).forCall (fun _ _ => 0) ⟨#[], args0, []⟩).memory Tryz.f10.params.toList (Rows.OpenSpec.upto Rows.syntaxWalksSpec).vars false args0.toList 8).map (fun x => (x.1, x.2.1)) =
      some ([.agg [.nil, .nil], .agg [.nil, .nil], .nil], []) := by kernel_rfl
  obtain ⟨⟨x1, x2, x3⟩, hx, hx1⟩ := Option.map_eq_some_iff.1 hw
  simp only [Prod.mk.injEq] at hx1
  obtain ⟨rfl, rfl⟩ := hx1
  exact OpenSpec.preRow_of_cond 8 hx (by kernel_rfl) (fun k hk => by cases hk; rfl) (by kernel_rfl) (door_met os _)
set_option maxRecDepth 100000 in
theorem walks_lifted (os : Os) (started : os.Started) (H : Type) (enc : TypeId × Value → H) (F : Stop.Interp) :
    ReturnsInHanded {} Tryz.checked os 10 .any ((Rows.OpenSpec.upto Rows.syntaxWalksSpec).preRow enc Tryz.prog Tryz.f10 Rows.syntaxWalksUptoRow.domain false Rows.syntaxWalksUptoRow.laid) (((Rows.OpenSpec.upto Rows.syntaxWalksSpec).at F).post enc Tryz.prog Tryz.f10 false true false false) := by
  refine returnsInHanded_of_row (C := Tryz.checked) (s := Rows.OpenSpec.upto Rows.syntaxWalksSpec) own started (by kernel_rfl) Tryz.func10
    (witness_row_atRef (enc := enc) (C := Tryz.checked) false (World.doorLaid Tryz.prog 67 os) args0 rfl (by kernel_rfl) (by kernel_rfl) (by kernel_rfl) (witness_row os enc)) ?_
  intro W base args ds gs before hval0 hW _ hcond0 _ hL _ _
  have hcond : Rows.uptoSmall H (ds ++ gs) = true := hcond0 _ rfl
  have hval : ∀ (j : Nat) t v, Tryz.f10.params[j]? = some t → args[j]? = some v → Value.okWide Tryz.prog W .any base t v := hval0
  have hW' := hW
  obtain ⟨p, q, hA0, hV0, rfl, _, _⟩ := hW
  have hA : DataW.TrodAll enc Tryz.prog W 0 (fun _ => true) true Tryz.f10.params.toList args.toList ds p := hA0
  rw [Tryz.params10] at hA hval
  obtain ⟨v0, v1, v2, d0, d1, d2, p0, p1, p2, rfl, rfl, rfl, h0, h1, h2⟩ := trodAll_three hA
  obtain ⟨rfl, rfl⟩ := trodVars_none hV0
  have h0k := h0
  have h1k := h1
  have h2k := h2
  clear hA0 hV0 hval0
  simp only [List.append_nil] at hW' hcond
  have hlt : ∀ x ∈ p0 ++ p1 ++ p2, x.block < W.heap.size := fun x hx => by simpa using hW'.lt x hx
  have hbulk : Rows.uptoBulk d0 + (Rows.uptoBulk d1 + (Rows.uptoBulk d2 + 0)) ≤ 1048576 := of_decide_eq_true hcond
  obtain ⟨g0, g1, hu94, _⟩ := un94
  obtain ⟨c0, rfl, hs0⟩ := WideShapes.okWide_struct hu94 (hval 0 94 v0 rfl rfl)
  obtain ⟨c1, rfl, hs1⟩ := WideShapes.okWide_struct hu94 (hval 1 94 v1 rfl rfl)
  obtain ⟨a2, l2, c2, rfl⟩ := WideShapes.okWide_slice un81 (hval 2 81 v2 rfl rfl)
  rw [ce94] at hs0 hs1
  obtain ⟨k0, n0, rfl⟩ := arr_two hs0
  obtain ⟨k1, n1, rfl⟩ := arr_two hs1
  obtain ⟨f0, hf0⟩ := h0
  obtain ⟨f1, hf1⟩ := h1
  obtain ⟨f2, hf2⟩ := h2
  obtain ⟨x, hX, hXb⟩ := open_stem hf0 (by omega)
  obtain ⟨y, hY, hYb⟩ := open_stem hf1 (by omega)
  obtain ⟨zs, hZ, hZl⟩ := open_ints hf2
  have hV := vars_of hL
  have main := walksLaw_c hV hX hY hZ hXb hYb (by omega)
  refine (DoesI.calls main).mono ?_
  rintro e W' ⟨rfl, bel⟩
  have e1 : ((Rows.OpenSpec.upto Rows.syntaxWalksSpec).at F).fn H ([d0, d1, d2] ++ []) = { results := [.lit (.bool true)], args := [d0, d1, d2] } := rfl
  refine ⟨_, rfl, _, _, _, [], p0 ++ (p1 ++ p2), [], hW', ?_, ?_, ?_, bel.frame _, fun h => by cases h⟩
  · rw [e1]; exact trodAll_mk1 (shut_bool Tryz.underlying4 _)
  · rw [e1]; exact trodAll_mk3 (RowKit.Below.trod laidOut (by kernel_rfl) (of_decide_eq_true (by kernel_rfl)) h0k bel (fun x hx => hlt x (by simp [hx]))) (RowKit.Below.trod laidOut (by kernel_rfl) (of_decide_eq_true (by kernel_rfl)) h1k bel (fun x hx => hlt x (by simp [hx]))) (RowKit.Below.trod laidOut (by kernel_rfl) (of_decide_eq_true (by kernel_rfl)) h2k bel (fun x hx => hlt x (by simp [hx])))
  · rw [e1]; rfl
end Go.Proofs.YtfaclfkpnmcmlaaGreatDoor
end
