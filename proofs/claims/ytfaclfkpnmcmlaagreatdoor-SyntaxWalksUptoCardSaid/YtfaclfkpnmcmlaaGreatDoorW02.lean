import Derived.Test.YtfaclfkpnmcmlaaGreatDoorW01
import Derived.Maps.Keyed
import Derived.Lib.AppendZerosOnto
import Derived.Lib.Overlaps
import Derived.Laws.CopyRow
import Derived.Laws.AppendOwn
import Derived.Deep.Upon
set_option maxHeartbeats 20000000
set_option linter.all false
section
namespace Go.Sx
open Go
theorem PH.le_none {H' H : PH} (h : H'.le H) {b : Nat} (hn : H b = none) : H' b = none := by
  cases hb : H' b with
  | none => rfl
  | some o => rw [h b o hb] at hn; cases hn
section
variable {C : Cx} {P : Program} {k : List Item} {σ : St} {H : PH}
def KeyV (P : Program) (kt : TypeId) (v : Value) : Prop := ∃ l, keyOf P kt v = some l
def MapAt (P : Program) (H : PH) (r : Nat) (kt : TypeId) (S : Value → Value → Prop) : Prop :=
  ∃ es clock, H r = some (.map es clock) ∧ (∀ e ∈ es.toList, KeyV P kt e.key) ∧ es.toList.Pairwise (fun x y => x.key ≠ y.key) ∧ ∀ y u, S y u ↔ ∃ e ∈ es.toList, e.key = y ∧ e.val = u
theorem MapAt.le {H H2 : PH} {r : Nat} {kt : TypeId} {S : Value → Value → Prop} (h : MapAt P H r kt S) (hle : H.le H2) : MapAt P H2 r kt S := by
  obtain ⟨es, clock, a, b⟩ := h; exact ⟨es, clock, hle _ _ a, b⟩
theorem MapAt.of_eq {H H2 : PH} {r : Nat} {kt : TypeId} {S : Value → Value → Prop} (h : MapAt P H r kt S) (he : H2 r = H r) : MapAt P H2 r kt S := by
  obtain ⟨es, clock, a, b⟩ := h; exact ⟨es, clock, he.trans a, b⟩
theorem MapAt.congr {r : Nat} {kt : TypeId} {S S' : Value → Value → Prop} (h : MapAt P H r kt S) (hs : ∀ y u, S' y u ↔ S y u) : MapAt P H r kt S' := by
  obtain ⟨es, clock, a, b, c, d⟩ := h; exact ⟨es, clock, a, b, c, fun y u => (hs y u).trans (d y u)⟩
theorem lookup_yes {mt kt et : TypeId} (K : Maps.Keyed P kt) (hm : P.underlying mt = some (.map kt et)) {r : Nat} {S : Value → Value → Prop} (h : MapAt P H r kt S) {x v : Value} (hx : KeyV P kt x) (hs : S x v) (w : World) (hw : Sub H w) :
    (Instr.lookup mt (.map (some r)) x true).run P w = .ok (.tuple #[v, .bool true]) w := by
  obtain ⟨es, clock, a, b, c, d⟩ := h
  obtain ⟨l, hl⟩ := hx
  have hobj : (getObj r).run P w = .ok (.map es clock) w := by simp [getObj, Sem.run, hw _ _ a]
  obtain ⟨e0, he0, hk0, hv0⟩ := (d x v).1 hs
  rcases K.find w hl es.toList b with ⟨h1, h2⟩ | ⟨j, e, h1, h2, h3⟩
  · exact absurd hk0 (h2 e0 he0)
  · have : e = e0 := by
      have hmem : e ∈ es.toList := List.mem_of_getElem? h2
      by_cases he : e = e0
      · exact he
      · exfalso
        rcases List.mem_iff_getElem.1 hmem with ⟨i1, l1, rfl⟩
        rcases List.mem_iff_getElem.1 he0 with ⟨i2, l2, rfl⟩
        rcases Nat.lt_trichotomy i1 i2 with h | h | h
        · exact List.pairwise_iff_getElem.1 c i1 i2 l1 l2 h (h3.trans hk0.symm)
        · subst h; exact he rfl
        · exact List.pairwise_iff_getElem.1 c i2 i1 l2 l1 h (hk0.trans h3.symm)
    subst this
    subst hv0
    have hc := K.check w es.isEmpty hl
    simp [Instr.lookup, kindOf_und hm, Result.andThen, hobj, hc, h1]
theorem lookup_no {mt kt et : TypeId} (K : Maps.Keyed P kt) (hm : P.underlying mt = some (.map kt et)) {z : Value} (hz : zeroOf P et = some z) {r : Nat} {S : Value → Value → Prop} (h : MapAt P H r kt S) {x : Value} (hx : KeyV P kt x) (hs : ∀ v, ¬ S x v) (w : World) (hw : Sub H w) :
    (Instr.lookup mt (.map (some r)) x true).run P w = .ok (.tuple #[z, .bool false]) w := by
  obtain ⟨es, clock, a, b, c, d⟩ := h
  obtain ⟨l, hl⟩ := hx
  have hobj : (getObj r).run P w = .ok (.map es clock) w := by simp [getObj, Sem.run, hw _ _ a]
  have zv : (zeroValue et).run P w = .ok z w := by
    unfold zeroOf at hz
    cases hi : P.info? et with
    | none => rw [hi] at hz; cases hz
    | some i => rw [hi] at hz; simp only [Option.bind_some] at hz; simp [zeroValue, typeInfo, program, Sem.run, hi, hz]
  rcases K.find w hl es.toList b with ⟨h1, h2⟩ | ⟨j, e, h1, h2, h3⟩
  · have hc := K.check w es.isEmpty hl
    simp [Instr.lookup, kindOf_und hm, Result.andThen, hobj, hc, h1, zv]
  · exact absurd ((d x e.val).2 ⟨e, List.mem_of_getElem? h2, h3, rfl⟩) (hs _)
theorem update_run {mt kt et : TypeId} (K : Maps.Keyed P kt) (hm : P.underlying mt = some (.map kt et)) {r : Nat} {S : Value → Value → Prop} (h : MapAt P H r kt S) {x v : Value} (hx : KeyV P kt x) (w : World) (hw : Sub H w) :
    ∃ w2 H2 o, (Instr.mapUpdate mt (.map (some r)) x v).run P w = .ok () w2 ∧ H2 = H.put r o ∧ Step H w H2 w2 ∧ MapAt P H2 r kt (fun y u => (y = x ∧ u = v) ∨ (y ≠ x ∧ S y u)) := by
  obtain ⟨es, clock, a, b, c, d⟩ := h
  obtain ⟨l, hl⟩ := hx
  have ha := hw _ _ a
  have hobj : (getObj r).run P w = .ok (.map es clock) w := by simp [getObj, Sem.run, ha]
  have setO : ∀ (o : Obj), (setObj r o).run P w = .ok () { w with heap := w.heap.setIfInBounds r o } := by
    intro o; simp [setObj, Sem.run, ha]
  have step : ∀ (o : Obj), Step H w (H.put r o) { w with heap := w.heap.setIfInBounds r o } := by
    intro o
    have hlt := lt_size_of ha
    refine ⟨fun b' x' h => ?_, by simp, fun b' hb hn => ?_, fun b' hb hn => ?_, rfl, rfl, rfl⟩
    · by_cases e : b' = r
      · subst e; simp only [PH.put, if_true] at h; cases h; simp [Array.getElem?_setIfInBounds, hlt]
      · simp only [PH.put, if_neg e] at h
        simp only [Array.getElem?_setIfInBounds, if_neg (Ne.symm e)]; exact hw _ _ h
    · have : b' ≠ r := fun e => by subst e; rw [a] at hn; cases hn
      simp only [Array.getElem?_setIfInBounds, if_neg (Ne.symm this)]
    · have : b' ≠ r := fun e => by subst e; rw [a] at hn; cases hn
      simp [PH.put, this, hn]
  rcases K.find w hl es.toList b with ⟨h1, h2⟩ | ⟨j, e, h1, h2, h3⟩
  · refine ⟨{ w with heap := w.heap.setIfInBounds r (.map (es.push { key := x, val := v, born := clock }) (clock + 1)) }, _, .map (es.push { key := x, val := v, born := clock }) (clock + 1), ?_, rfl, step (.map (es.push { key := x, val := v, born := clock }) (clock + 1)), ?_⟩
    · have hc := K.check w false hl
      simp [Instr.mapUpdate, kindOf_und hm, Result.andThen, hobj, hc, h1]
      exact setO _
    · refine ⟨_, _, if_pos rfl, ?_, ?_, ?_⟩
      · intro e he
        simp at he
        rcases he with he | rfl
        · exact b e (by simpa using he)
        · exact ⟨l, hl⟩
      · simp only [Array.toList_push, List.pairwise_append, List.pairwise_singleton, true_and]
        exact ⟨c, fun y hy z hz => by simp at hz; subst hz; exact h2 y hy⟩
      · intro y u
        simp only [Array.toList_push, List.mem_append, List.mem_singleton]
        constructor
        · rintro (⟨rfl, rfl⟩ | ⟨hne, hs⟩)
          · exact ⟨_, .inr rfl, rfl, rfl⟩
          · obtain ⟨e, he, h5, h6⟩ := (d y u).1 hs; exact ⟨e, .inl he, h5, h6⟩
        · rintro ⟨e, he | rfl, rfl, rfl⟩
          · exact .inr ⟨h2 e he, (d _ _).2 ⟨e, he, rfl, rfl⟩⟩
          · exact .inl ⟨rfl, rfl⟩
  · have hj : es[j]? = some e := by simpa using h2
    have hjl : j < es.size := by
      rcases Nat.lt_or_ge j es.size with h | h
      · exact h
      · rw [Array.getElem?_eq_none h] at hj; cases hj
    have hkey : ((es[j]?).map (·.key)).getD x = x := by rw [hj]; simpa using h3
    have hml : (es.modify j fun e => { e with key := x, val := v }).toList = es.toList.set j { e with key := x, val := v } := by
      apply List.ext_getElem?
      intro i
      simp only [Array.getElem?_toList, Array.getElem?_modify, List.getElem?_set, Array.length_toList]
      by_cases hi : j = i
      · subst hi
        have hje : es[j] = e := by rw [Array.getElem?_eq_getElem hjl] at hj; exact Option.some.inj hj
        simp [hj, hjl, hje]
      · simp [hi]
    refine ⟨{ w with heap := w.heap.setIfInBounds r (.map (es.modify j fun e => { e with key := x, val := v }) clock) }, _, .map (es.modify j fun e => { e with key := x, val := v }) clock, ?_, rfl, step (.map (es.modify j fun e => { e with key := x, val := v }) clock), ?_⟩
    · have hst : (Instr.keyThatStays (((es[j]?).map (·.key)).getD x) x).run P w = .ok x w := by rw [hkey]; exact K.stays w hl
      have hc := K.check w false hl
      simp [Instr.mapUpdate, kindOf_und hm, Result.andThen, hobj, hc, h1, hst]
      exact setO _
    · have others : ∀ i e', es.toList[i]? = some e' → i ≠ j → e'.key ≠ x := by
        intro i e' hi hne hk
        have hi' : i < es.toList.length := by
          rcases Nat.lt_or_ge i es.toList.length with h | h
          · exact h
          · rw [List.getElem?_eq_none h] at hi; cases hi
        have e1 : es.toList[i] = e' := by rw [List.getElem?_eq_getElem hi'] at hi; exact Option.some.inj hi
        have e2 : es.toList[j]'(by simpa using hjl) = e := by rw [List.getElem?_eq_getElem (by simpa using hjl)] at h2; exact Option.some.inj h2
        rcases Nat.lt_or_ge i j with h | h
        · exact List.pairwise_iff_getElem.1 c i j hi' (by simpa using hjl) h (by rw [e1, e2, hk, h3])
        · exact List.pairwise_iff_getElem.1 c j i (by simpa using hjl) hi' (by omega) (by rw [e1, e2, hk, h3])
      have mem : ∀ f, f ∈ es.toList.set j { e with key := x, val := v } ↔ f = { e with key := x, val := v } ∨ ∃ i, i ≠ j ∧ es.toList[i]? = some f := by
        intro f
        rw [List.mem_iff_getElem?]
        constructor
        · rintro ⟨i, hi⟩
          rw [List.getElem?_set] at hi
          split at hi
          · split at hi
            · cases hi; exact .inl rfl
            · cases hi
          · rename_i hne; exact .inr ⟨i, Ne.symm hne, hi⟩
        · rintro (rfl | ⟨i, hne, hi⟩)
          · exact ⟨j, by rw [List.getElem?_set]; simp [hjl]⟩
          · exact ⟨i, by rw [List.getElem?_set, if_neg (Ne.symm hne)]; exact hi⟩
      refine ⟨_, _, if_pos rfl, ?_, ?_, ?_⟩
      · rw [hml]
        intro f hf
        rcases (mem f).1 hf with rfl | ⟨i, _, hi⟩
        · exact ⟨l, hl⟩
        · exact b f (List.mem_of_getElem? hi)
      · rw [hml, List.pairwise_iff_getElem]
        intro i1 i2 l1 l2 hlt
        simp only [List.length_set] at l1 l2
        rw [List.getElem_set, List.getElem_set]
        by_cases e1 : j = i1 <;> by_cases e2 : j = i2
        · omega
        · subst e1; rw [if_pos rfl, if_neg e2]
          exact fun hk => others i2 _ (List.getElem?_eq_getElem l2) (Ne.symm e2) hk.symm
        · subst e2; rw [if_pos rfl, if_neg e1]
          exact fun hk => others i1 _ (List.getElem?_eq_getElem l1) (Ne.symm e1) hk
        · rw [if_neg e1, if_neg e2]; exact List.pairwise_iff_getElem.1 c i1 i2 l1 l2 hlt
      · intro y u
        rw [hml]
        constructor
        · rintro (⟨rfl, rfl⟩ | ⟨hne, hs⟩)
          · exact ⟨_, (mem _).2 (.inl rfl), rfl, rfl⟩
          · obtain ⟨f, hf, h5, h6⟩ := (d y u).1 hs
            obtain ⟨i, hi⟩ := List.mem_iff_getElem?.1 hf
            refine ⟨f, (mem f).2 (.inr ⟨i, fun ei => ?_, hi⟩), h5, h6⟩
            subst ei; rw [h2] at hi; cases hi; exact hne (h5.symm.trans h3)
        · rintro ⟨f, hf, rfl, rfl⟩
          rcases (mem f).1 hf with rfl | ⟨i, hne, hi⟩
          · exact .inl ⟨rfl, rfl⟩
          · exact .inr ⟨others i f hi hne, (d _ _).2 ⟨f, List.mem_of_getElem? hi, rfl, rfl⟩⟩
end
end Go.Sx
end
section
namespace Go.Sx
open Go
section
variable {C : Cx} {P : Program} {k : List Item} {σ : St} {H : PH}
theorem lookup_exec {o : Oper} {mt kt et : TypeId} (K : Maps.Keyed P kt) (hm : P.underlying mt = some (.map kt et)) {z : Value} (hz : zeroOf P et = some z) {x y : Operand} {r : Nat} {S : Value → Value → Prop} {key : Value} (hop : o.op = .lookup mt x y true)
    (hx : ev σ x = .v (.map (some r))) (hy : ev σ y = .v key) (h : MapAt P H r kt S) (hk : KeyV P kt key) {v : Value} {is : Bool} (hs : is = true ∧ S key v ∨ is = false ∧ v = z ∧ ∀ u, ¬ S key u) :
    knownS σ o.op = true ∧ ∀ w, Sub H w → (execOp (cenv σ) o).run P w = .ok (.value (.tuple #[v, .bool is])) w := by
  constructor
  · simp [knownS, hop, noSel, Op.operands, hx, hy, isV]
  · intro w hw
    have hrun : (Instr.lookup mt (.map (some r)) key true).run P w = .ok (.tuple #[v, .bool is]) w := by
      rcases hs with ⟨rfl, hs⟩ | ⟨rfl, rfl, hs⟩
      · exact lookup_yes K hm h hk hs w hw
      · exact lookup_no K hm hz h hk hs w hw
    simp [execOp, hop, cenv, hx, hy, hrun, Result.andThen]
theorem RC_lookup {ol rem : List Oper} {o : Oper} {mt kt et : TypeId} (K : Maps.Keyed C.P kt) (hm : C.P.underlying mt = some (.map kt et)) {z : Value} (hz : zeroOf C.P et = some z) {x y : Operand} {r : Nat} {S : Value → Value → Prop} {key : Value} (hw : wantedS ol σ o = some true) (hop : o.op = .lookup mt x y true)
    (hx : ev σ x = .v (.map (some r))) (hy : ev σ y = .v key) (h : MapAt C.P H r kt S) (hk : KeyV C.P kt key) (v : Value) (is : Bool) (hs : is = true ∧ S key v ∨ is = false ∧ v = z ∧ ∀ u, ¬ S key u)
    (hg : RC C (.op ol rem k) (σ.put o.dst (.v (.tuple #[v, .bool is]))) H) : RC C (.op ol (o :: rem) k) σ H := by
  obtain ⟨h1, h2⟩ := lookup_exec K hm hz hop hx hy h hk hs
  exact RC_read _ hw h1 h2 hg
theorem RD_lookup {ol : List Oper} {fr : FrD} {str : StD} {i : Nat} {l : List (Nat × Oper)} {o : Oper} {mt kt et : TypeId} (K : Maps.Keyed C.P kt) (hm : C.P.underlying mt = some (.map kt et)) {z : Value} (hz : zeroOf C.P et = some z) {x y : Operand} {r : Nat} {S : Value → Value → Prop} {key : Value} (hf : fr.h.contains i = true) (hw : wantedS ol σ o = some true) (hop : o.op = .lookup mt x y true)
    (hx : ev σ x = .v (.map (some r))) (hy : ev σ y = .v key) (h : MapAt C.P H r kt S) (hk : KeyV C.P kt key) (v : Value) (is : Bool) (hs : is = true ∧ S key v ∨ is = false ∧ v = z ∧ ∀ u, ¬ S key u)
    (hg : RD C ol fr str l k (σ.put o.dst (.v (.tuple #[v, .bool is]))) H) : RD C ol fr str ((i, o) :: l) k σ H := by
  obtain ⟨h1, h2⟩ := lookup_exec K hm hz hop hx hy h hk hs
  exact RD_read _ hf hw h1 (by rw [hop]; rfl) h2 hg
theorem spec_update {o : Oper} {mt kt et : TypeId} (K : Maps.Keyed P kt) (hm : P.underlying mt = some (.map kt et)) {x y z : Operand} {r : Nat} {S : Value → Value → Prop} {key v : Value} (hop : o.op = .mapUpdate mt x y z ∨ o.op = .insert mt x y z)
    (hx : ev σ x = .v (.map (some r))) (hy : ev σ y = .v key) (hz : ev σ z = .v v) (h : MapAt P H r kt S) (hk : KeyV P kt key) :
    knownS σ o.op = true ∧ OpSpec P (execOp (cenv σ) o) H fun sv H2 => sv = .u ∧ ∃ ob, H2 = H.put r ob ∧ MapAt P H2 r kt (fun y u => (y = key ∧ u = v) ∨ (y ≠ key ∧ S y u)) := by
  constructor
  · rcases hop with hop | hop <;> simp [knownS, hop, noSel, Op.operands, hx, hy, hz, isV]
  · intro w hw
    obtain ⟨w2, H2, ob, hrun, e, st, hm'⟩ := update_run (v := v) K hm h hk w hw
    have : (execOp (cenv σ) o).run P w = .ok .skip w2 := by
      rcases hop with hop | hop <;> simp [execOp, hop, cenv, hx, hy, hz, hrun, Result.andThen]
    rw [this]
    exact ⟨H2, st, rfl, ob, e, hm'⟩
theorem RC_update {ol rem : List Oper} {o : Oper} {mt kt et : TypeId} (K : Maps.Keyed C.P kt) (hm : C.P.underlying mt = some (.map kt et)) {x y z : Operand} {r : Nat} {S : Value → Value → Prop} {key v : Value} (hw : wantedS ol σ o = some true) (hop : o.op = .mapUpdate mt x y z ∨ o.op = .insert mt x y z)
    (hx : ev σ x = .v (.map (some r))) (hy : ev σ y = .v key) (hz : ev σ z = .v v) (h : MapAt C.P H r kt S) (hk : KeyV C.P kt key)
    (hg : ∀ ob, MapAt C.P (H.put r ob) r kt (fun y u => (y = key ∧ u = v) ∨ (y ≠ key ∧ S y u)) → RC C (.op ol rem k) (σ.put o.dst .u) (H.put r ob)) : RC C (.op ol (o :: rem) k) σ H := by
  obtain ⟨h1, h2⟩ := spec_update K hm hop hx hy hz h hk
  exact RC_gen hw h1 (h2.mono fun sv H2 ⟨a, ob, b, c⟩ => by subst a; subst b; exact hg ob c)
theorem RD_update {ol : List Oper} {fr : FrD} {str : StD} {i : Nat} {l : List (Nat × Oper)} {o : Oper} {mt kt et : TypeId} (K : Maps.Keyed C.P kt) (hm : C.P.underlying mt = some (.map kt et)) {x y z : Operand} {r : Nat} {S : Value → Value → Prop} {key v : Value} (hs : str.h.contains i = false) (hsj : str.j.contains i = false) (hw : wantedS ol σ o = some true) (hop : o.op = .mapUpdate mt x y z ∨ o.op = .insert mt x y z)
    (hx : ev σ x = .v (.map (some r))) (hy : ev σ y = .v key) (hz : ev σ z = .v v) (h : MapAt C.P H r kt S) (hk : KeyV C.P kt key)
    (hg : ∀ ob, MapAt C.P (H.put r ob) r kt (fun y u => (y = key ∧ u = v) ∨ (y ≠ key ∧ S y u)) → RD C ol fr str l k (σ.put o.dst .u) (H.put r ob)) : RD C ol fr str ((i, o) :: l) k σ H := by
  obtain ⟨h1, h2⟩ := spec_update K hm hop hx hy hz h hk
  exact RD_gen hw h1 (by rcases hop with hop | hop <;> rw [hop] <;> rfl) (h2.mono fun sv H2 ⟨a, ob, b, c⟩ => by subst a; subst b; exact ⟨Keeps.non hs hsj, hg ob c⟩)
theorem spec_makeMap {o : Oper} {mt : TypeId} (hop : o.op = .makeMap mt none) :
    knownS σ o.op = true ∧ OpSpec P (execOp (cenv σ) o) H fun sv H2 => ∃ r, H r = none ∧ sv = .v (.map (some r)) ∧ H2 = H.put r (.map #[] 0) := by
  constructor
  · simp [knownS, hop, noSel, Op.operands]
  · intro w hw
    obtain ⟨n1, n2⟩ := Step.new hw (.map #[] 0)
    have hrun : (execOp (cenv σ) o).run P w = .ok (.value (.map (some w.heap.size))) { w with heap := w.heap.push (.map #[] 0) } := by
      simp [execOp, hop, Instr.makeMap, newObj, Sem.run, Result.andThen]
    rw [hrun]
    exact ⟨_, n2, w.heap.size, n1, rfl, rfl⟩
theorem MapAt.empty {kt : TypeId} {r : Nat} (h : H r = some (.map #[] 0)) : MapAt P H r kt (fun _ _ => False) :=
  ⟨#[], 0, h, fun e he => by simp at he, by simp, fun y u => by simp⟩
theorem RC_makeMap {ol rem : List Oper} {o : Oper} {mt : TypeId} (hw : wantedS ol σ o = some true) (hop : o.op = .makeMap mt none)
    (hg : ∀ r, H r = none → RC C (.op ol rem k) (σ.put o.dst (.v (.map (some r)))) (H.put r (.map #[] 0))) : RC C (.op ol (o :: rem) k) σ H := by
  obtain ⟨h1, h2⟩ := spec_makeMap (σ := σ) (H := H) (P := C.P) hop
  exact RC_gen hw h1 (h2.mono fun sv H2 ⟨r, a, b, c⟩ => by subst b; subst c; exact hg r a)
theorem RD_makeMap {ol : List Oper} {fr : FrD} {str : StD} {i : Nat} {l : List (Nat × Oper)} {o : Oper} {mt : TypeId} (hw : wantedS ol σ o = some true) (hop : o.op = .makeMap mt none)
    (hg : ∀ r, H r = none → RD C ol fr str l k (σ.put o.dst (.v (.map (some r)))) (H.put r (.map #[] 0))) : RD C ol fr str ((i, o) :: l) k σ H :=
  .inr ⟨hw, by rw [hop]; exact hg⟩
theorem OwnsP.cells {e : TypeId} {size : Nat} {v : Value} {n : Nat} {xs : List Value} (h : OwnsP H e size v n xs) (hn : 0 < n) : ∃ g cap, v = .slice (some ⟨g, 0, none⟩) n cap ∧ Cells H g 0 xs := by
  obtain ⟨hl, ⟨_, e0⟩ | ⟨g, cap, cur, a, b, c, d, f, k'⟩⟩ := h
  · omega
  · refine ⟨g, cap, a, cur, e, (0, 0), b, ?_, ?_⟩
    · rw [hl, f, Nat.zero_add]; exact Nat.mul_le_mul_right _ c
    · rw [List.drop_zero, hl]; exact k'
theorem Cells.sub {b off : Nat} {l : List Value} (h : Cells H b off l) (i n : Nat) (hi : i + n ≤ l.length) : Cells H b (off + i) ((l.drop i).take n) := by
  obtain ⟨cs, ty, fz, a, b', c⟩ := h
  have hlen : ((l.drop i).take n).length = n := by simp; omega
  refine ⟨cs, ty, fz, a, by rw [hlen]; omega, ?_⟩
  rw [hlen]
  have : l = (cs.toList.drop off).take l.length := c.symm
  conv => rhs; rw [this]
  rw [List.drop_take, List.drop_drop, List.take_take, Nat.min_eq_left (by omega)]
end
end Go.Sx
end
section
namespace Go.Sx
open Go
def PH.no : PH := fun _ => none
def PH.uni (A B : PH) : PH := fun b => match A b with
  | some o => some o
  | none => B b
def PH.disj (A B : PH) : Prop := ∀ b, A b = none ∨ B b = none
theorem PH.disj.symm {A B : PH} (h : A.disj B) : B.disj A := fun b => (h b).symm
theorem PH.disj.left {A B : PH} (h : A.disj B) {b : Nat} {o : Obj} (hb : A b = some o) : B b = none := by
  rcases h b with e | e
  · rw [e] at hb; cases hb
  · exact e
theorem PH.uni_no (A : PH) : A.uni PH.no = A := by funext b; simp only [PH.uni, PH.no]; split <;> simp_all
theorem PH.uni_some {A B : PH} (h : A.disj B) {b : Nat} {o : Obj} : (A.uni B) b = some o ↔ A b = some o ∨ B b = some o := by
  unfold PH.uni
  cases hA : A b with
  | some x => simp only; constructor
              · exact .inl
              · rintro (e | e)
                · exact e
                · rw [h.left hA] at e; cases e
  | none => simp
theorem PH.uni_none {A B : PH} {b : Nat} : (A.uni B) b = none ↔ A b = none ∧ B b = none := by
  unfold PH.uni; cases A b <;> simp
theorem PH.le_uni (A B : PH) : A.le (A.uni B) := fun b o h => by simp [PH.uni, h]
theorem PH.le_uni_r {A B : PH} (h : A.disj B) : B.le (A.uni B) := fun b o hb => (PH.uni_some h).2 (.inr hb)
theorem PH.ext_some {A B : PH} (h : ∀ b o, A b = some o ↔ B b = some o) : A = B := by
  funext b
  cases hA : A b with
  | some o => exact ((h b o).1 hA).symm
  | none => cases hB : B b with
    | none => rfl
    | some o => rw [(h b o).2 hB] at hA; cases hA
def U : List PH → PH
  | [] => PH.no
  | A :: l => A.uni (U l)
def Dj (l : List PH) : Prop := l.Pairwise PH.disj
theorem U_none {l : List PH} {b : Nat} : U l b = none ↔ ∀ A ∈ l, A b = none := by
  induction l with
  | nil => simp [U, PH.no]
  | cons A l ih => simp only [U, PH.uni_none, ih, List.mem_cons, forall_eq_or_imp]
theorem Dj.head {A : PH} {l : List PH} (h : Dj (A :: l)) : A.disj (U l) := fun b => by
  cases hA : A b with
  | none => exact .inl rfl
  | some o => exact .inr (U_none.2 fun B hB => ((List.pairwise_cons.1 h).1 B hB).left hA)
theorem Dj.tail {A : PH} {l : List PH} (h : Dj (A :: l)) : Dj l := (List.pairwise_cons.1 h).2
theorem Dj.cons {A : PH} {l : List PH} (h : Dj l) (ha : A.disj (U l)) : Dj (A :: l) :=
  List.pairwise_cons.2 ⟨fun B hB b => by
    rcases ha b with e | e
    · exact .inl e
    · exact .inr (U_none.1 e B hB), h⟩
theorem U_some {l : List PH} (hd : Dj l) {b : Nat} {o : Obj} : U l b = some o ↔ ∃ A ∈ l, A b = some o := by
  induction l with
  | nil => simp [U, PH.no]
  | cons A l ih => simp only [U, PH.uni_some hd.head, ih hd.tail, List.mem_cons, exists_eq_or_imp]
theorem U_perm {l m : List PH} (hp : l.Perm m) (hd : Dj l) : U l = U m ∧ Dj m := by
  have hm : Dj m := (hp.pairwise_iff (fun {a b} h => PH.disj.symm h)).1 hd
  exact ⟨PH.ext_some fun b o => by rw [U_some hd, U_some hm]; exact ⟨fun ⟨A, a, c⟩ => ⟨A, hp.mem_iff.1 a, c⟩, fun ⟨A, a, c⟩ => ⟨A, hp.mem_iff.2 a, c⟩⟩, hm⟩
theorem U_app (l m : List PH) : U (l ++ m) = (U l).uni (U m) := by
  induction l with
  | nil => funext b; simp [U, PH.no, PH.uni]
  | cons A l ih => rw [List.cons_append, U, U, ih]; funext b; simp only [PH.uni]; cases A b <;> rfl
theorem Dj_app {l m : List PH} : Dj (l ++ m) ↔ Dj l ∧ Dj m ∧ (U l).disj (U m) := by
  unfold Dj
  rw [List.pairwise_append]
  constructor
  · rintro ⟨a, b, c⟩
    refine ⟨a, b, fun k => ?_⟩
    cases hU : U l k with
    | none => exact .inl rfl
    | some o =>
      obtain ⟨A, hA, hk⟩ := (U_some a).1 hU
      exact .inr (U_none.2 fun B hB => (c A hA B hB).left hk)
  · rintro ⟨a, b, c⟩
    refine ⟨a, b, fun A hA B hB k => ?_⟩
    rcases c k with e | e
    · exact .inl (U_none.1 e A hA)
    · exact .inr (U_none.1 e B hB)
theorem le_U {l : List PH} (hd : Dj l) {A : PH} (h : A ∈ l) : A.le (U l) := fun b o hb => (U_some hd).2 ⟨A, h, hb⟩
def sel (l : List PH) : List Nat → List PH
  | [] => []
  | i :: is => l.getD i PH.no :: sel l is
theorem sel_perm {l : List PH} {is : List Nat} (h : is.isPerm (List.range l.length) = true) : l.Perm (sel l is) := by
  have h2 := List.isPerm_iff.1 h
  have e : ∀ is : List Nat, sel l is = is.map fun i => l.getD i PH.no := by
    intro is; induction is with
    | nil => rfl
    | cons i is ih => simp [sel, ih]
  rw [e]
  refine List.Perm.trans ?_ (h2.map _).symm
  have : (List.range l.length).map (fun i => l.getD i PH.no) = l := by
    apply List.ext_getElem
    · simp
    · intro i h1 h2; simp at h1; simp [List.getD, List.getElem?_eq_getElem h1]
  rw [this]
theorem Does.frame {P : Program} {f : FuncId} {args : Array Value} {A F : PH} {Φ : Value → PH → Prop} (hd : A.disj F) (h : Does P f args A Φ) : Does P f args (A.uni F) fun v H2 => ∃ A2, H2 = A2.uni F ∧ A2.disj F ∧ Φ v A2 := by
  intro w s
  refine (h w (s.of_le (PH.le_uni A F))).mono fun e w2 he => ?_
  cases e with
  | outgrown => exact he
  | panicked c => exact he
  | returned v =>
    obtain ⟨A2, st, hp⟩ := he
    have inF : ∀ b o, F b = some o → w.heap[b]? = some o ∧ A b = none := fun b o hb => ⟨s _ _ ((PH.uni_some hd).2 (.inr hb)), hd.symm.left hb⟩
    have hd2 : A2.disj F := fun b => by
      cases hF : F b with
      | none => exact .inr rfl
      | some o => obtain ⟨h1, h2⟩ := inF b o hF; exact .inl (st.dom b (lt_size_of h1) h2)
    refine ⟨A2.uni F, ⟨fun b o hb => ?_, st.size, fun b hb hn => st.priv b hb (PH.uni_none.1 hn).1, fun b hb hn => PH.uni_none.2 ⟨st.dom b hb (PH.uni_none.1 hn).1, (PH.uni_none.1 hn).2⟩, st.os, st.tape, st.out⟩, A2, rfl, hd2, hp⟩
    rcases (PH.uni_some hd2).1 hb with e | e
    · exact st.sub _ _ e
    · obtain ⟨h1, h2⟩ := inF b o e
      rw [st.priv b (lt_size_of h1) h2]; exact h1
def DoesI (P : Program) (f : FuncId) (args : Array Value) (I : PH) (ps : List PH) (Ψ : Value → PH → List PH → Prop) : Prop :=
  Dj (I :: ps) → Does P f args (U (I :: ps)) fun v H2 => ∃ I2 qs, H2 = U (I2 :: qs) ∧ Dj (I2 :: qs) ∧ I.le I2 ∧ Ψ v I2 qs
theorem Does.toI {P : Program} {f : FuncId} {args : Array Value} {I : PH} {Φ : Value → PH → Prop} (h : Does P f args I fun v I2 => I.le I2 ∧ Φ v I2) : DoesI P f args I [] fun v I2 qs => qs = [] ∧ Φ v I2 := by
  intro _
  rw [show U [I] = I from PH.uni_no I]
  exact h.mono fun v H2 ⟨a, b⟩ => ⟨H2, [], (PH.uni_no H2).symm, List.pairwise_singleton _ _, a, rfl, b⟩
theorem DoesI.frame {P : Program} {f : FuncId} {args : Array Value} {I : PH} {ps F : List PH} {Ψ : Value → PH → List PH → Prop} (h : DoesI P f args I ps Ψ) (hd : Dj (I :: ps ++ F)) :
    Does P f args (U (I :: ps ++ F)) fun v H2 => ∃ I2 qs, H2 = U (I2 :: qs ++ F) ∧ Dj (I2 :: qs ++ F) ∧ I.le I2 ∧ Ψ v I2 qs := by
  obtain ⟨d1, d2, d3⟩ := Dj_app.1 hd
  rw [U_app]
  refine ((h d1).frame d3).mono fun v H2 ⟨A2, e, dd, I2, qs, a, b, c, d⟩ => ?_
  subst a
  exact ⟨I2, qs, by rw [e, U_app], Dj_app.2 ⟨b, d2, dd⟩, c, d⟩
section
variable {C : Cx} {P : Program} {k : List Item} {σ : St} {H : PH}
theorem RC_callI {ol rem : List Oper} {o : Oper} {x : Operand} {aq : Array Operand} {ts : Array TypeId} {f : FuncId} {vs : List Value} {first cap : Array Value} {I : PH} {l ps F : List PH} {Ψ : Value → PH → List PH → Prop} (hd : Dj (I :: l)) (is : List Nat) (hw : wantedS ol σ o = some true) (hop : o.op = .call ⟨.value x, aq, ts⟩)
    (hx : ev σ x = .v (.func (.func f) first cap)) (ha : allV (ev σ) aq.toList = some vs) (hg : Goes C.P f) (hi : is.isPerm (List.range l.length) = true) (hl : sel l is = ps ++ F) (h : DoesI C.P f (first ++ vs.toArray ++ cap) I ps Ψ)
    (hk : ∀ v I2 qs, Dj (I2 :: qs ++ F) → I.le I2 → Ψ v I2 qs → RC C (.op ol rem k) (σ.put o.dst (.v v)) (U (I2 :: qs ++ F))) : RC C (.op ol (o :: rem) k) σ (U (I :: l)) := by
  obtain ⟨e, d⟩ := U_perm ((sel_perm hi).cons I) hd
  rw [hl] at e d
  rw [e]
  exact RC_call hw hop hx ha hg (h.frame d) fun v H2 ⟨I2, qs, a, b, c, d⟩ => by subst a; exact hk v I2 qs b c d
theorem RC_callT {ol rem : List Oper} {o : Oper} {x : Operand} {aq : Array Operand} {ts : Array TypeId} {f : FuncId} {vs : List Value} {first cap : Array Value} {I : PH} {l ps F : List PH} {Ψ : Value → PH → List PH → Prop} (hd : Dj (I :: l)) (is : List Nat) (hq : (wantedS ol σ o, o.op, ev σ x, allV (ev σ) aq.toList) = (some true, Op.call ⟨.value x, aq, ts⟩, SV.v (.func (.func f) first cap), some vs)) (hg : Goes C.P f) (hi : is.isPerm (List.range l.length) = true) (hl : sel l is = ps ++ F) (h : DoesI C.P f (first ++ vs.toArray ++ cap) I ps Ψ)
    (hk : ∀ v I2 qs, Dj (I2 :: qs ++ F) → I.le I2 → Ψ v I2 qs → RC C (.op ol rem k) (σ.put o.dst (.v v)) (U (I2 :: qs ++ F))) : RC C (.op ol (o :: rem) k) σ (U (I :: l)) := by
  simp only [Prod.mk.injEq] at hq
  exact RC_callI hd is hq.1 hq.2.1 hq.2.2.1 hq.2.2.2 hg hi hl h hk
theorem RD_callI {ol : List Oper} {fr : FrD} {str : StD} {i : Nat} {lo : List (Nat × Oper)} {o : Oper} {x : Operand} {aq : Array Operand} {ts : Array TypeId} {f : FuncId} {vs : List Value} {first cap : Array Value} {I : PH} {l ps F : List PH} {Ψ : Value → PH → List PH → Prop} (hd : Dj (I :: l)) (is : List Nat) (hs : str.h.contains i = false) (hsj : str.j.contains i = true → fr.J.le I) (hw : wantedS ol σ o = some true) (hop : o.op = .call ⟨.value x, aq, ts⟩)
    (hx : ev σ x = .v (.func (.func f) first cap)) (ha : allV (ev σ) aq.toList = some vs) (hg : Goes C.P f) (hi : is.isPerm (List.range l.length) = true) (hl : sel l is = ps ++ F) (h : DoesI C.P f (first ++ vs.toArray ++ cap) I ps Ψ)
    (hk : ∀ v I2 qs, Dj (I2 :: qs ++ F) → I.le I2 → Ψ v I2 qs → RD C ol fr str lo k (σ.put o.dst (.v v)) (U (I2 :: qs ++ F))) : RD C ol fr str ((i, o) :: lo) k σ (U (I :: l)) := by
  obtain ⟨e, d⟩ := U_perm ((sel_perm hi).cons I) hd
  rw [hl] at e d
  rw [e]
  exact RD_call hw hop hx ha hg (h.frame d) fun v H2 ⟨I2, qs, a, b, c, d⟩ => ⟨⟨fun hh => Bool.noConfusion (hs.symm.trans hh), fun hj _ => by subst a; exact PH.le_trans (hsj hj) (PH.le_trans c (le_U b (.head _)))⟩, by subst a; exact hk v I2 qs b c d⟩
theorem RD_callT {ol : List Oper} {fr : FrD} {str : StD} {i : Nat} {lo : List (Nat × Oper)} {o : Oper} {x : Operand} {aq : Array Operand} {ts : Array TypeId} {f : FuncId} {vs : List Value} {first cap : Array Value} {I : PH} {l ps F : List PH} {Ψ : Value → PH → List PH → Prop} (hd : Dj (I :: l)) (is : List Nat) (hs : str.h.contains i = false) (hsj : str.j.contains i = true → fr.J.le I) (hq : (wantedS ol σ o, o.op, ev σ x, allV (ev σ) aq.toList) = (some true, Op.call ⟨.value x, aq, ts⟩, SV.v (.func (.func f) first cap), some vs)) (hg : Goes C.P f) (hi : is.isPerm (List.range l.length) = true) (hl : sel l is = ps ++ F) (h : DoesI C.P f (first ++ vs.toArray ++ cap) I ps Ψ)
    (hk : ∀ v I2 qs, Dj (I2 :: qs ++ F) → I.le I2 → Ψ v I2 qs → RD C ol fr str lo k (σ.put o.dst (.v v)) (U (I2 :: qs ++ F))) : RD C ol fr str ((i, o) :: lo) k σ (U (I :: l)) := by
  simp only [Prod.mk.injEq] at hq
  exact RD_callI hd is hs hsj hq.1 hq.2.1 hq.2.2.1 hq.2.2.2 hg hi hl h hk
theorem R_ret_I {r : List Value} {I I2 : PH} {qs : List PH} {Ψ : Value → PH → List PH → Prop} (hpost : C.post = fun v H2 => ∃ I2 qs, H2 = U (I2 :: qs) ∧ Dj (I2 :: qs) ∧ I.le I2 ∧ Ψ v I2 qs) (hd : Dj (I2 :: qs)) (h : retL C.P σ C.fn.results.toList = some r) (hle : I.le I2) (hp : Ψ (retV r) I2 qs) (hC : C.rd = none := by rfl) : R C (.code .ret :: k) σ (U (I2 :: qs)) :=
  R_ret h (by rw [hpost]; exact ⟨I2, qs, rfl, hd, hle, hp⟩) hC
end
def sg (b : Nat) (o : Obj) : PH := fun c => if c = b then some o else none
theorem sg_some {b c : Nat} {o x : Obj} : sg b o c = some x ↔ c = b ∧ o = x := by unfold sg; split <;> simp_all
theorem sg_self (b : Nat) (o : Obj) : sg b o b = some o := by simp [sg]
theorem put_new {l : List PH} (hd : Dj l) {b : Nat} {o : Obj} (h : U l b = none) : (U l).put b o = U (sg b o :: l) ∧ Dj (sg b o :: l) := by
  constructor
  · funext c
    simp only [PH.put, U, PH.uni, sg]
    split <;> simp
  · exact hd.cons fun c => by
      by_cases e : c = b
      · subst e; exact .inr h
      · exact .inl (by simp [sg, e])
theorem freeze {I A : PH} {l : List PH} (hd : Dj (I :: A :: l)) : U (I :: A :: l) = U (I.uni A :: l) ∧ Dj (I.uni A :: l) := by
  constructor
  · funext c; simp only [U, PH.uni]; cases I c <;> rfl
  · refine hd.tail.tail.cons fun c => ?_
    rcases hd.head c with h1 | h1
    · rcases hd.tail.head c with h2 | h2
      · exact .inl (PH.uni_none.2 ⟨h1, h2⟩)
      · exact .inr h2
    · exact .inr (PH.uni_none.1 h1).2
theorem disj_of {I : PH} {l : List PH} (hd : Dj (I :: l)) {A : PH} (h : A ∈ l) : I.disj A := (List.pairwise_cons.1 hd).1 A h
theorem le_first {I : PH} {l : List PH} (hd : Dj (I :: l)) : I.le (U (I :: l)) := le_U hd (.head _)
theorem le_second {I A : PH} {l : List PH} (hd : Dj (I :: A :: l)) : A.le (U (I :: A :: l)) := le_U hd (.tail _ (.head _))
theorem absorb {I : PH} {ps : List PH} {H2 : PH} (hd : Dj (I :: ps)) (hle : (U (I :: ps)).le H2) : ∃ I2, H2 = U (I2 :: ps) ∧ Dj (I2 :: ps) ∧ I.le I2 := by
  refine ⟨fun b => if (U ps b).isSome then none else H2 b, ?_, hd.tail.cons fun b => ?_, fun b o hb => ?_⟩
  · funext b
    simp only [U, PH.uni]
    cases hU : U ps b with
    | none => simp; cases H2 b <;> rfl
    | some o => simp; exact hle b o (PH.le_uni_r hd.head b o hU)
  · cases hU : U ps b with
    | none => exact .inr rfl
    | some o => exact .inl (by simp [hU])
  · have := hd.head.left hb
    simp only [this, Option.isSome_none, Bool.false_eq_true, if_false]
    exact hle b o (PH.le_uni I _ b o hb)
end Go.Sx
end
section
namespace Go.Sx
open Go
theorem OwnsP.le {A H : PH} {e : TypeId} {size : Nat} {v : Value} {n : Nat} {xs : List Value} (h : OwnsP A e size v n xs) (hle : A.le H) : OwnsP H e size v n xs := by
  obtain ⟨h1, h2 | ⟨g, cap, cur, a, b, c⟩⟩ := h
  · exact ⟨h1, .inl h2⟩
  · exact ⟨h1, .inr ⟨g, cap, cur, a, hle _ _ b, c⟩⟩
theorem ownBlock_slice (g off n c : Nat) : (Value.slice (some ⟨g, off, none⟩) n c).ownBlock = some g := rfl
def Row (A : PH) (e : TypeId) (size : Nat) (v : Value) (n : Nat) (xs : List Value) : Prop := OwnsP A e size v n xs ∧ ∀ b, v.ownBlock ≠ some b → A b = none
theorem Row.nil (e : TypeId) (size : Nat) : Row PH.no e size (.slice none 0 0) 0 [] := ⟨OwnsP.nil _ e size, fun _ _ => rfl⟩
theorem Row.own_some {A : PH} {e : TypeId} {size : Nat} {v : Value} {n : Nat} {xs : List Value} (h : Row A e size v n xs) {g : Nat} (hg : v.ownBlock = some g) : ∃ o, A g = some o := by
  obtain ⟨⟨h1, ⟨h2, _⟩ | ⟨g', cap, cur, a, b, c⟩⟩, _⟩ := h
  · subst h2; cases hg
  · subst a; cases hg; exact ⟨_, b⟩
theorem row_after {I A : PH} {l : List PH} {e : TypeId} {size : Nat} {v v' : Value} {n n' : Nat} {xs xs' : List Value} {H2 : PH} (hd : Dj (I :: A :: l)) (hr : Row A e size v n xs) (ho : OwnsP H2 e size v' n' xs') (hc : Chg v.ownBlock (U (I :: A :: l)) H2)
    (hf : v'.ownBlock = v.ownBlock ∨ ∀ g, v'.ownBlock = some g → U (I :: A :: l) g = none) : ∃ I2 A2, H2 = U (I2 :: A2 :: l) ∧ Dj (I2 :: A2 :: l) ∧ I.le I2 ∧ Row A2 e size v' n' xs' := by
  have key : ∃ A2 : PH, Row A2 e size v' n' xs' ∧ A2.le H2 ∧ A2.disj I ∧ A2.disj (U l) := by
    obtain ⟨h1, ⟨h2, h3⟩ | ⟨g, cap, cur, a, b, c⟩⟩ := ho
    · exact ⟨PH.no, ⟨⟨h1, .inl ⟨h2, h3⟩⟩, fun _ _ => rfl⟩, (fun b o h => by cases h), (fun _ => .inl rfl), (fun _ => .inl rfl)⟩
    · subst a
      have out : I g = none ∧ U l g = none := by
        rcases hf with hf | hf
        · obtain ⟨o, ho⟩ := hr.own_some (hf.symm.trans (ownBlock_slice g 0 n' cap))
          exact ⟨(disj_of hd (.head _)).symm.left ho, hd.tail.head.left ho⟩
        · have := U_none.1 (hf g rfl)
          exact ⟨this I (.head _), U_none.2 fun B hB => this B (.tail _ (.tail _ hB))⟩
      have dj : ∀ X : PH, X g = none → (sg g (.cells cur e (0, 0))).disj X := fun X hX c => by
        by_cases ec : c = g
        · subst ec; exact .inr hX
        · exact .inl (by simp [sg, ec])
      exact ⟨sg g (.cells cur e (0, 0)), ⟨⟨h1, .inr ⟨g, cap, cur, rfl, sg_self _ _, c⟩⟩, fun b' hb => by
        simp only [ownBlock_slice, ne_eq, Option.some.injEq] at hb
        simp [sg, Ne.symm hb]⟩, fun b' o' hb => by obtain ⟨rfl, rfl⟩ := sg_some.1 hb; exact b, dj I out.1, dj _ out.2⟩
  obtain ⟨A2, r2, le2, d1, d2⟩ := key
  have dA : Dj (A2 :: l) := hd.tail.tail.cons d2
  have dI : Dj (I :: A2 :: l) := dA.cons fun b => by
    rcases d1 b with e1 | e1
    · rcases hd.head b with e2 | e2
      · exact .inl e2
      · exact .inr (PH.uni_none.2 ⟨e1, (PH.uni_none.1 e2).2⟩)
    · exact .inl e1
  have hle : (U (I :: A2 :: l)).le H2 := by
    intro b o hb
    obtain ⟨B, hB, hb'⟩ := (U_some dI).1 hb
    have keep : ∀ B ∈ I :: l, B b = some o → H2 b = some o := by
      intro B hB hbk
      have hB' : B ∈ I :: A :: l := by
        rcases List.mem_cons.1 hB with rfl | h
        · exact .head _
        · exact .tail _ (.tail _ h)
      refine hc b o (fun e => ?_) ((U_some hd).2 ⟨B, hB', hbk⟩)
      obtain ⟨oA, hA⟩ := hr.own_some e.symm
      rcases List.mem_cons.1 hB with rfl | h
      · rw [(disj_of hd (.head _)).left hbk] at hA; cases hA
      · rw [(disj_of hd.tail h).left hA] at hbk; cases hbk
    rcases List.mem_cons.1 hB with rfl | hB
    · exact keep _ (.head _) hb'
    · rcases List.mem_cons.1 hB with rfl | hB
      · exact le2 b o hb'
      · exact keep _ (.tail _ hB) hb'
  obtain ⟨I2, a, b, c⟩ := absorb dI hle
  exact ⟨I2, A2, a, b, c, r2⟩
section
variable {C : Cx} {P : Program} {k : List Item} {σ : St} {H : PH}
theorem RC_appendI {ol rem : List Oper} {o : Oper} {t e : TypeId} {size bytes : Nat} {x y : Operand} {v : Value} {n xb xo m c : Nat} {xs news : List Value} {I A : PH} {l : List PH} (hd : Dj (I :: A :: l)) (ht : SlT C.P t e size bytes) (hown : Row A e size v n xs) (hw : wantedS ol σ o = some true) (hop : o.op = .call ⟨.builtin .append, #[x, y], #[t, t]⟩) (hx : ev σ x = .v v) (hy : ev σ y = .v (.slice (some ⟨xb, xo, none⟩) m c))
    (hn : Cells (U (I :: A :: l)) xb xo news) (hl : news.length = m * size) (h1 : news.all one = true) (hb : (n + m) * bytes ≤ 140737488355328) (h63 : n + m ≤ maxLen)
    (hk : ∀ v' I2 A2, Dj (I2 :: A2 :: l) → I.le I2 → Row A2 e size v' (n + m) (xs ++ news) → RC C (.op ol rem k) (σ.put o.dst (.v v')) (U (I2 :: A2 :: l))) : RC C (.op ol (o :: rem) k) σ (U (I :: A :: l)) :=
  RC_append ht (hown.1.le (le_second hd)) hw hop hx hy hn hl h1 hb h63 fun v' H2 a b c => by
    obtain ⟨I2, A2, e1, e2, e3, e4⟩ := row_after hd hown a b c
    subst e1; exact hk v' I2 A2 e2 e3 e4
theorem RD_appendI {ol : List Oper} {fr : FrD} {str : StD} {i : Nat} {lo : List (Nat × Oper)} {o : Oper} {t e : TypeId} {size bytes : Nat} {x y : Operand} {v : Value} {n xb xo m c : Nat} {xs news : List Value} {I A : PH} {l : List PH} (hd : Dj (I :: A :: l)) (ht : SlT C.P t e size bytes) (hown : Row A e size v n xs) (hs : str.h.contains i = false) (hsj : str.j.contains i = false) (hw : wantedS ol σ o = some true) (hop : o.op = .call ⟨.builtin .append, #[x, y], #[t, t]⟩) (hx : ev σ x = .v v) (hy : ev σ y = .v (.slice (some ⟨xb, xo, none⟩) m c))
    (hn : Cells (U (I :: A :: l)) xb xo news) (hl : news.length = m * size) (h1 : news.all one = true) (hb : (n + m) * bytes ≤ 140737488355328) (h63 : n + m ≤ maxLen)
    (hk : ∀ v' I2 A2, Dj (I2 :: A2 :: l) → I.le I2 → Row A2 e size v' (n + m) (xs ++ news) → RD C ol fr str lo k (σ.put o.dst (.v v')) (U (I2 :: A2 :: l))) : RD C ol fr str ((i, o) :: lo) k σ (U (I :: A :: l)) :=
  RD_append ht (hown.1.le (le_second hd)) hs hsj hw hop hx hy hn hl h1 hb h63 fun v' H2 a b c => by
    obtain ⟨I2, A2, e1, e2, e3, e4⟩ := row_after hd hown a b c
    subst e1; exact hk v' I2 A2 e2 e3 e4
theorem put_I {I : PH} {l : List PH} (hd : Dj (I :: l)) {b : Nat} {o : Obj} (h : U (I :: l) b = none) : (U (I :: l)).put b o = U (I.put b o :: l) ∧ Dj (I.put b o :: l) ∧ I.le (I.put b o) ∧ I.put b o b = some o := by
  have hI := U_none.1 h
  refine ⟨?_, hd.tail.cons fun c => ?_, PH.le_put (hI I (.head _)), by simp [PH.put]⟩
  · funext c; simp only [PH.put, U, PH.uni]; split <;> simp
  · by_cases e : c = b
    · subst e; exact .inr (U_none.2 fun B hB => hI B (.tail _ hB))
    · rcases hd.head c with h' | h'
      · exact .inl (by simp [PH.put, e, h'])
      · exact .inr h'
theorem RC_buildSliceI {ol rem : List Oper} {o : Oper} {t e : TypeId} {len size bytes : Nat} {parts : Array (Nat × Operand)} {ps : List (Nat × Value)} {I : PH} {l : List PH} (hd : Dj (I :: l)) (ht : SlT C.P t e size bytes) (hw : wantedS ol σ o = some true) (hop : o.op = .buildSlice t len parts) (ha : allP (ev σ) parts.toList = some ps)
    (hp : partsOk size 0 ps = true) (hlen : ps.length = len) (hbig : len * size ≤ 16777216)
    (hk : ∀ b I2, Dj (I2 :: l) → I.le I2 → I2 b = some (.cells (flatP ps).toArray e (0, 0)) → RC C (.op ol rem k) (σ.put o.dst (.v (.slice (some ⟨b, 0, none⟩) len len))) (U (I2 :: l))) : RC C (.op ol (o :: rem) k) σ (U (I :: l)) :=
  RC_buildSlice ht hw hop ha hp hlen hbig fun b hb => by
    obtain ⟨e1, e2, e3, e4⟩ := put_I hd (o := .cells (flatP ps).toArray e (0, 0)) hb
    rw [e1]; exact hk b _ e2 e3 e4
theorem RD_buildSliceI {ol : List Oper} {fr : FrD} {str : StD} {i : Nat} {lo : List (Nat × Oper)} {o : Oper} {t e : TypeId} {len size bytes : Nat} {parts : Array (Nat × Operand)} {ps : List (Nat × Value)} {I : PH} {l : List PH} (hd : Dj (I :: l)) (ht : SlT C.P t e size bytes) (hw : wantedS ol σ o = some true) (hop : o.op = .buildSlice t len parts) (ha : allP (ev σ) parts.toList = some ps)
    (hp : partsOk size 0 ps = true) (hlen : ps.length = len) (hbig : len * size ≤ 16777216)
    (hk : ∀ b I2, Dj (I2 :: l) → I.le I2 → I2 b = some (.cells (flatP ps).toArray e (0, 0)) → RD C ol fr str lo k (σ.put o.dst (.v (.slice (some ⟨b, 0, none⟩) len len))) (U (I2 :: l))) : RD C ol fr str ((i, o) :: lo) k σ (U (I :: l)) :=
  RD_buildSlice ht hw hop ha hp hlen hbig fun b hb => by
    obtain ⟨e1, e2, e3, e4⟩ := put_I hd (o := .cells (flatP ps).toArray e (0, 0)) hb
    rw [e1]; exact hk b _ e2 e3 e4
theorem RC_parts {c : Cf} {I : PH} {l : List PH} (hd : Dj (I :: l)) (is : List Nat) (hi : is.isPerm (List.range l.length) = true) (h : Dj (I :: sel l is) → RC C c σ (U (I :: sel l is))) : RC C c σ (U (I :: l)) := by
  obtain ⟨e, d⟩ := U_perm ((sel_perm hi).cons I) hd
  rw [e]; exact h d
theorem RD_parts {ol : List Oper} {fr : FrD} {str : StD} {lo : List (Nat × Oper)} {I : PH} {l : List PH} (hd : Dj (I :: l)) (is : List Nat) (hi : is.isPerm (List.range l.length) = true) (h : Dj (I :: sel l is) → RD C ol fr str lo k σ (U (I :: sel l is))) : RD C ol fr str lo k σ (U (I :: l)) := by
  obtain ⟨e, d⟩ := U_perm ((sel_perm hi).cons I) hd
  rw [e]; exact h d
theorem Z3 : (∀ {α : Type} (a : α) (s t : List α), a :: s ++ t = a :: (s ++ t)) ∧ (∀ {α : Type} (t : List α), [] ++ t = t) ∧ (∀ {α : Type} (t : List α), t ++ [] = t) := ⟨fun _ _ _ => rfl, fun _ => rfl, fun t => List.append_nil t⟩
theorem Z4 : (∀ l : List PH, sel l [] = []) ∧ (∀ (l : List PH) i is, sel l (i :: is) = l.getD i PH.no :: sel l is) ∧ (∀ (a : PH) l d, (a :: l).getD 0 d = a) ∧ (∀ (a : PH) l n d, (a :: l).getD (n + 1) d = l.getD n d) := ⟨fun _ => rfl, fun _ _ _ => rfl, fun _ _ _ => List.getD_cons_zero, fun _ _ _ _ => List.getD_cons_succ⟩
theorem put_sg {I : PH} {l : List PH} {b : Nat} {o o' : Obj} (hd : Dj (I :: sg b o :: l)) : (U (I :: sg b o :: l)).put b o' = U (I :: sg b o' :: l) ∧ Dj (I :: sg b o' :: l) := by
  have hI : I b = none := (disj_of hd (.head _)).symm.left (sg_self b o)
  have hL := hd.tail.head.left (sg_self b o)
  constructor
  · funext c
    simp only [PH.put, U, PH.uni, sg]
    by_cases e : c = b
    · subst e; simp [hI]
    · simp [e]
  · refine (hd.tail.tail.cons fun c => ?_).cons fun c => ?_
    · by_cases e : c = b
      · subst e; exact .inr hL
      · exact .inl (by simp [sg, e])
    · by_cases e : c = b
      · subst e; exact .inl hI
      · rcases hd.head c with h' | h'
        · exact .inl h'
        · exact .inr (PH.uni_none.2 ⟨by simp [sg, e], (PH.uni_none.1 h').2⟩)
theorem RC_storeI {ol rem : List Oper} {o : Oper} {T ty : TypeId} {x y : Operand} {b off : Nat} {v : Value} {cells : Array Value} {cs : List Value} {I : PH} {l : List PH} (hd : Dj (I :: sg b (.cells cells ty (0, 0)) :: l)) (hw : wantedS ol σ o = some true) (hop : o.op = .store T x y) (hx : ev σ x = .v (.pointer (some ⟨b, off, none⟩))) (hy : ev σ y = .v v)
    (hc : cellsV v = some cs) (hs : szOf C.P T = some cs.length) (hle : off + cs.length ≤ cells.size)
    (hk : Dj (I :: sg b (.cells (setCs cells.toList off cs).toArray ty (0, 0)) :: l) → RC C (.op ol rem k) (σ.put o.dst .u) (U (I :: sg b (.cells (setCs cells.toList off cs).toArray ty (0, 0)) :: l))) : RC C (.op ol (o :: rem) k) σ (U (I :: sg b (.cells cells ty (0, 0)) :: l)) := by
  refine RC_store (le_second hd _ _ (sg_self _ _)) hw hop hx hy hc hs hle ?_
  obtain ⟨e1, e2⟩ := put_sg (o' := .cells (setCs cells.toList off cs).toArray ty (0, 0)) hd
  rw [e1]; exact hk e2
theorem RD_storeI {ol : List Oper} {fr : FrD} {str : StD} {i : Nat} {lo : List (Nat × Oper)} {o : Oper} {T ty : TypeId} {x y : Operand} {b off : Nat} {v : Value} {cells : Array Value} {cs : List Value} {I : PH} {l : List PH} (hd : Dj (I :: sg b (.cells cells ty (0, 0)) :: l)) (hsk : memN str.k i = false) (hw : wantedS ol σ o = some true) (hop : o.op = .store T x y) (hx : ev σ x = .v (.pointer (some ⟨b, off, none⟩))) (hy : ev σ y = .v v)
    (hc : cellsV v = some cs) (hs : szOf C.P T = some cs.length) (hle : off + cs.length ≤ cells.size)
    (hk : Dj (I :: sg b (.cells (setCs cells.toList off cs).toArray ty (0, 0)) :: l) → RD C ol fr str lo k (σ.put o.dst .u) (U (I :: sg b (.cells (setCs cells.toList off cs).toArray ty (0, 0)) :: l))) : RD C ol fr str ((i, o) :: lo) k σ (U (I :: sg b (.cells cells ty (0, 0)) :: l)) := by
  refine RD_pstore (le_second hd _ _ (sg_self _ _)) hsk hw hop hx hy hc hs hle ?_
  obtain ⟨e1, e2⟩ := put_sg (o' := .cells (setCs cells.toList off cs).toArray ty (0, 0)) hd
  rw [e1]; exact hk e2
def IsMap (P : Program) (A : PH) (r : Nat) (kt : TypeId) (S : Value → Value → Prop) : Prop := ∃ o, A = sg r o ∧ MapAt P A r kt S
theorem RC_updateI {ol rem : List Oper} {o : Oper} {mt kt et : TypeId} (K : Maps.Keyed C.P kt) (hm : C.P.underlying mt = some (.map kt et)) {x y z : Operand} {r : Nat} {S : Value → Value → Prop} {key v : Value} {I A : PH} {l : List PH} (hd : Dj (I :: A :: l)) (hw : wantedS ol σ o = some true) (hop : o.op = .mapUpdate mt x y z ∨ o.op = .insert mt x y z)
    (hx : ev σ x = .v (.map (some r))) (hy : ev σ y = .v key) (hz : ev σ z = .v v) (h : IsMap C.P A r kt S) (hk : KeyV C.P kt key)
    (hg : ∀ A2, Dj (I :: A2 :: l) → IsMap C.P A2 r kt (fun y u => (y = key ∧ u = v) ∨ (y ≠ key ∧ S y u)) → RC C (.op ol rem k) (σ.put o.dst .u) (U (I :: A2 :: l))) : RC C (.op ol (o :: rem) k) σ (U (I :: A :: l)) := by
  obtain ⟨ob, rfl, hM⟩ := h
  refine RC_update K hm hw hop hx hy hz (hM.le (le_second hd)) hk fun ob2 h2 => ?_
  obtain ⟨e1, e2⟩ := put_sg (o' := ob2) hd
  rw [e1]
  exact hg _ e2 ⟨ob2, rfl, h2.of_eq (by simp [sg_self, PH.put])⟩
theorem RD_updateI {ol : List Oper} {fr : FrD} {str : StD} {i : Nat} {lo : List (Nat × Oper)} {o : Oper} {mt kt et : TypeId} (K : Maps.Keyed C.P kt) (hm : C.P.underlying mt = some (.map kt et)) {x y z : Operand} {r : Nat} {S : Value → Value → Prop} {key v : Value} {I A : PH} {l : List PH} (hd : Dj (I :: A :: l)) (hs : str.h.contains i = false) (hsj : str.j.contains i = false) (hw : wantedS ol σ o = some true) (hop : o.op = .mapUpdate mt x y z ∨ o.op = .insert mt x y z)
    (hx : ev σ x = .v (.map (some r))) (hy : ev σ y = .v key) (hz : ev σ z = .v v) (h : IsMap C.P A r kt S) (hk : KeyV C.P kt key)
    (hg : ∀ A2, Dj (I :: A2 :: l) → IsMap C.P A2 r kt (fun y u => (y = key ∧ u = v) ∨ (y ≠ key ∧ S y u)) → RD C ol fr str lo k (σ.put o.dst .u) (U (I :: A2 :: l))) : RD C ol fr str ((i, o) :: lo) k σ (U (I :: A :: l)) := by
  obtain ⟨ob, rfl, hM⟩ := h
  refine RD_update K hm hs hsj hw hop hx hy hz (hM.le (le_second hd)) hk fun ob2 h2 => ?_
  obtain ⟨e1, e2⟩ := put_sg (o' := ob2) hd
  rw [e1]
  exact hg _ e2 ⟨ob2, rfl, h2.of_eq (by simp [sg_self, PH.put])⟩
theorem put_part {I : PH} {l : List PH} (hd : Dj (I :: l)) {b : Nat} {o : Obj} (h : U (I :: l) b = none) : (U (I :: l)).put b o = U (I :: sg b o :: l) ∧ Dj (I :: sg b o :: l) := by
  obtain ⟨e1, e2⟩ := put_new hd (o := o) h
  obtain ⟨e3, e4⟩ := U_perm (List.Perm.swap I (sg b o) l) e2
  exact ⟨e1.trans e3, e4⟩
theorem RC_makeMapI {ol rem : List Oper} {o : Oper} {mt : TypeId} {I : PH} {l : List PH} (kt : TypeId) (hd : Dj (I :: l)) (hw : wantedS ol σ o = some true) (hop : o.op = .makeMap mt none)
    (hg : ∀ r A, Dj (I :: A :: l) → IsMap C.P A r kt (fun _ _ => False) → RC C (.op ol rem k) (σ.put o.dst (.v (.map (some r)))) (U (I :: A :: l))) : RC C (.op ol (o :: rem) k) σ (U (I :: l)) :=
  RC_makeMap hw hop fun r hr => by
    obtain ⟨e1, e2⟩ := put_part hd (o := .map #[] 0) hr
    rw [e1]; exact hg r _ e2 ⟨_, rfl, MapAt.empty (sg_self _ _)⟩
theorem RD_makeMapI {ol : List Oper} {fr : FrD} {str : StD} {i : Nat} {lo : List (Nat × Oper)} {o : Oper} {mt : TypeId} {I : PH} {l : List PH} (kt : TypeId) (hd : Dj (I :: l)) (hw : wantedS ol σ o = some true) (hop : o.op = .makeMap mt none)
    (hg : ∀ r A, Dj (I :: A :: l) → IsMap C.P A r kt (fun _ _ => False) → RD C ol fr str lo k (σ.put o.dst (.v (.map (some r)))) (U (I :: A :: l))) : RD C ol fr str ((i, o) :: lo) k σ (U (I :: l)) :=
  RD_makeMap hw hop fun r hr => by
    obtain ⟨e1, e2⟩ := put_part hd (o := .map #[] 0) hr
    rw [e1]; exact hg r _ e2 ⟨_, rfl, MapAt.empty (sg_self _ _)⟩
theorem R_pubI (key : Nat) {B : Box} {I : PH} {l : List PH} (hd : Dj (I :: l)) (hB : findB σ.bx key = some B) (h : ∀ b, Dj (I :: sg b (.cells B.cs.toArray B.ty (0, 0)) :: l) → R C k ⟨σ.tm.map (pubT key b), dropB σ.bx key⟩ (U (I :: sg b (.cells B.cs.toArray B.ty (0, 0)) :: l))) : R C k σ (U (I :: l)) :=
  R_pub key hB fun b hb => by
    obtain ⟨e1, e2⟩ := put_part hd (o := .cells B.cs.toArray B.ty (0, 0)) hb
    rw [e1]; exact h b e2
end
end Go.Sx
end
section
namespace Go.Sx
open Go
theorem cellsU {ps : List PH} {A : PH} {b off : Nat} {l : List Value} (hd : Dj ps) (hA : A ∈ ps) (h : Cells A b off l) : Cells (U ps) b off l := h.le (le_U hd hA)
theorem cells_sg {b off : Nat} {cs : Array Value} {ty : TypeId} {fz : Nat × Nat} {l : List Value} (h1 : off + l.length ≤ cs.size) (h2 : (cs.toList.drop off).take l.length = l) : Cells (sg b (.cells cs ty fz)) b off l :=
  ⟨cs, ty, fz, sg_self _ _, h1, h2⟩
theorem cells_at {A : PH} {b off : Nat} {cs : Array Value} {ty : TypeId} {fz : Nat × Nat} {l : List Value} (h : A b = some (.cells cs ty fz)) (h1 : off + l.length ≤ cs.size) (h2 : (cs.toList.drop off).take l.length = l) : Cells A b off l :=
  ⟨cs, ty, fz, h, h1, h2⟩
theorem IsMap.atU {P : Program} {A : PH} {r : Nat} {kt : TypeId} {S : Value → Value → Prop} (h : IsMap P A r kt S) {ps : List PH} (hd : Dj ps) (hA : A ∈ ps) : MapAt P (U ps) r kt S := by
  obtain ⟨o, e, m⟩ := h; exact m.le (le_U hd hA)
theorem IsMap.congr {P : Program} {A : PH} {r : Nat} {kt : TypeId} {S S' : Value → Value → Prop} (h : IsMap P A r kt S) (hs : ∀ y u, S' y u ↔ S y u) : IsMap P A r kt S' := by
  obtain ⟨o, e, m⟩ := h; exact ⟨o, e, m.congr hs⟩
theorem Row.xs {A : PH} {e : TypeId} {size : Nat} {v : Value} {n n' : Nat} {xs xs' : List Value} (h : Row A e size v n xs) (hn : n = n') (hx : xs = xs') : Row A e size v n' xs' := by subst hn; subst hx; exact h
theorem Row.slice {A : PH} {e : TypeId} {size : Nat} {v : Value} {n : Nat} {xs : List Value} (h : Row A e size v n xs) : ∃ a c, v = .slice a n c := by
  obtain ⟨⟨_, ⟨a, b⟩ | ⟨g, cap, cur, a, _⟩⟩, _⟩ := h
  · subst b; exact ⟨_, _, a⟩
  · exact ⟨_, _, a⟩
end Go.Sx
namespace Go.Sx
open Go
theorem add_no {I : PH} {l : List PH} (hd : Dj (I :: l)) : U (I :: l) = U (I :: PH.no :: l) ∧ Dj (I :: PH.no :: l) := by
  constructor
  · funext c; simp only [U, PH.uni, PH.no]
  · refine (hd.tail.cons fun b => .inl rfl).cons fun b => ?_
    rcases hd.head b with h | h
    · exact .inl h
    · exact .inr (PH.uni_none.2 ⟨rfl, h⟩)
section
variable {C : Cx} {k : List Item} {σ : St}
theorem RC_addno {c : Cf} {I : PH} {l : List PH} (hd : Dj (I :: l)) (h : Dj (I :: PH.no :: l) → RC C c σ (U (I :: PH.no :: l))) : RC C c σ (U (I :: l)) := by
  obtain ⟨e, d⟩ := add_no hd
  rw [e]; exact h d
theorem RC_pubI (key : Nat) {B : Box} {I : PH} {l : List PH} (hd : Dj (I :: l)) (hB : findB σ.bx key = some B) (h : ∀ b, Dj (I :: sg b (.cells B.cs.toArray B.ty (0, 0)) :: l) → RC C (.st k) ⟨σ.tm.map (pubT key b), dropB σ.bx key⟩ (U (I :: sg b (.cells B.cs.toArray B.ty (0, 0)) :: l))) : RC C (.st k) σ (U (I :: l)) := R_pubI key hd hB h
theorem RC_freeze {c : Cf} {I A : PH} {l : List PH} (hd : Dj (I :: A :: l)) (h : ∀ I2, Dj (I2 :: l) → I.le I2 → A.le I2 → RC C c σ (U (I2 :: l))) : RC C c σ (U (I :: A :: l)) := by
  obtain ⟨e, d⟩ := freeze hd
  rw [e]
  exact h _ d (PH.le_uni I A) (PH.le_uni_r (disj_of hd (.head _)))
end
end Go.Sx
end
section
namespace Go.Sx
open Go
attribute [go_sem] undef adv advD adv1 adv1D kb keepB memN
attribute [go_sem] Bool.false_and Bool.and_false wantedS AllP Res_mk ResD_mk pv pvLoad
attribute [go_sem] pvAt pvNil pvIx pvIndex pvCall okV allV allP
attribute [go_sem] lenV capV minV maxV convV binV unV ev
attribute [go_sem] getT setT St.put St.newBox St.store insB dropB findB
attribute [go_sem] updB setCs clr List.map_cons List.map_nil acOf stOf cellsV
attribute [go_sem] one rdCells buildV fillL placeOf exitTo initT Value.cells
attribute [go_sem] List.toList_toArray List.cons_append List.nil_append List.replicate List.length_cons List.length_nil ite_true ite_false
attribute [go_sem] if_true if_false Option.map_some Option.map_none true_and and_true List.drop_zero List.drop_succ_cons
attribute [go_sem] List.take_succ_cons List.take_zero List.getElem?_cons_zero List.getElem?_cons_succ List.set_cons_zero List.set_cons_succ List.all_cons List.all_nil
attribute [go_sem] Bool.and_self Bool.true_and Bool.and_true beq_self_eq_true Array.toList List.size_toArray Nat.zero_add Nat.add_zero
attribute [go_sem] and_self beq_true beq_false Bool.not_true Bool.not_false Int.toNat_natCast decide_true decide_false
attribute [go_sem] pick getO retL pubT memN pvSlice bndV Nat.sub_zero
attribute [go_sem] Int.cast_ofNat_Int
attribute [go_sem] Nat.reduceAdd Nat.reduceSub Nat.reduceLT Nat.reduceLeDiff Nat.reduceEqDiff Nat.reduceBEq Nat.reduceMul reduceIte
attribute [go_sem] reduceCtorEq Int.reduceToNat Int.reduceLE Int.reduceLT Int.reduceBEq Int.reduceBNe Int.reduceEq
end Go.Sx
end
section
namespace Go.Sx
open Go
attribute [go_sem] sp subT subB
section
variable {C : Cx} {k : List Item} {σ : St} {H : PH}
theorem RC_loopD {α : Type} {c : Code} (μ : α → Nat) (S : α → St) (Q : α → PH → Prop) (a0 : α) (hs : subT (S a0).tm σ.tm) (hb : subB (S a0).bx σ.bx) (hq : Q a0 H)
    (h : ∀ a H, Q a H → (∀ a' σ1 H', μ a' < μ a → subT (S a').tm σ1.tm → subB (S a').bx σ1.bx → Q a' H' → RC C (.st (.inLoop c :: k)) σ1 H') → RC C (.st (.code c :: .inLoop c :: k)) (S a) H) :
    RC C (.st (.code (.loop c) :: k)) σ H := by
  refine R_sub hs hb ?_
  refine R_loop (fun n σ H => ∃ a, σ = S a ∧ μ a = n ∧ Q a H) (μ a0) ⟨a0, rfl, rfl, hq⟩ ?_
  rintro n σ H ⟨a, rfl, rfl, hq⟩ hn
  exact h a H hq fun a' σ1 H' hlt h1 h2 h3 => R_sub h1 h2 (hn _ hlt _ _ ⟨a', rfl, rfl, h3⟩)
theorem RC_sub {σ' : St} (ht : subT σ'.tm σ.tm) (hb : subB σ'.bx σ.bx) (h : RC C (.st k) σ' H) : RC C (.st k) σ H := R_sub ht hb h
theorem flatP_len {size : Nat} : ∀ {ps : List (Nat × Value)} {j : Nat}, partsOk size j ps = true → (flatP ps).length = ps.length * size
  | [], _, _ => by simp [flatP]
  | (i, v) :: l, j, h => by
    simp only [partsOk, Bool.and_eq_true, decide_eq_true_eq] at h
    have := flatP_len h.2
    simp only [flatP, List.length_append, h.1.2, this, List.length_cons]
    rw [Nat.add_mul]; omega
theorem row_new {e : TypeId} {size len b : Nat} {xs : List Value} (h : xs.length = len * size) (hl : len ≤ maxLen) : Row (sg b (.cells xs.toArray e (0, 0))) e size (.slice (some ⟨b, 0, none⟩) len len) len xs :=
  ⟨⟨h, .inr ⟨b, len, xs.toArray, rfl, sg_self _ _, Nat.le_refl _, hl, by simpa using h, by rw [← h]; simp⟩⟩, fun c hc => by
    simp only [ownBlock_slice, ne_eq, Option.some.injEq] at hc
    simp [sg, Ne.symm hc]⟩
theorem RC_buildSliceO {ol rem : List Oper} {o : Oper} {t e : TypeId} {len size bytes : Nat} {parts : Array (Nat × Operand)} {ps : List (Nat × Value)} {I : PH} {l : List PH} (hd : Dj (I :: l)) (ht : SlT C.P t e size bytes) (hw : wantedS ol σ o = some true) (hop : o.op = .buildSlice t len parts) (ha : allP (ev σ) parts.toList = some ps)
    (hp : partsOk size 0 ps = true) (hlen : ps.length = len) (hbig : len * size ≤ 16777216)
    (hk : ∀ b A, Dj (I :: A :: l) → Row A e size (.slice (some ⟨b, 0, none⟩) len len) len (flatP ps) → RC C (.op ol rem k) (σ.put o.dst (.v (.slice (some ⟨b, 0, none⟩) len len))) (U (I :: A :: l))) : RC C (.op ol (o :: rem) k) σ (U (I :: l)) :=
  RC_buildSlice ht hw hop ha hp hlen hbig fun b hb => by
    obtain ⟨e1, e2⟩ := put_part hd (o := .cells (flatP ps).toArray e (0, 0)) hb
    rw [e1]
    refine hk b _ e2 (row_new (by rw [flatP_len hp, hlen]) ?_)
    obtain ⟨_, _, _, _, _, _, _, _, a7⟩ := ht
    have : len * 1 ≤ len * size := Nat.mul_le_mul_left _ a7
    unfold maxLen; omega
theorem Row.cellsU {ps : List PH} {A : PH} {e : TypeId} {size : Nat} {v : Value} {n : Nat} {xs : List Value} (hd : Dj ps) (hA : A ∈ ps) (h : Row A e size v n xs) (hn : 0 < n) : ∃ g cap, v = .slice (some ⟨g, 0, none⟩) n cap ∧ Cells (U ps) g 0 xs := by
  obtain ⟨g, cap, a, b⟩ := h.1.cells hn
  exact ⟨g, cap, a, b.le (le_U hd hA)⟩
end
end Go.Sx
end
section
namespace Go.Sx
open Go
theorem cells_cell {H : PH} {b off : Nat} {l : List Value} (h : Cells H b off l) {w : World} (s : Sub H w) : ∀ j v, l[j]? = some v → w.cell? ((⟨b, off, none⟩ : Addr).add j) = some v := by
  obtain ⟨cs, ty, fz, h1, h2, h3⟩ := h
  intro j v hj
  have hb := s _ _ h1
  rw [show cs = cs.toList.toArray from by simp] at hb
  rw [add_block, cell_of hb]
  rw [← h3] at hj
  rw [List.getElem?_take] at hj
  split at hj
  · rw [List.getElem?_drop] at hj; exact hj
  · cases hj
section
variable {C : Cx} {P : Program} {k : List Item} {σ : St} {H : PH}
theorem exec_append {o : Oper} {t tn : TypeId} {x y : Operand} {vx vy v : Value} {w w' : World} (hop : o.op = .call ⟨.builtin .append, #[x, y], #[t, tn]⟩) (hx : ev σ x = .v vx) (hy : ev σ y = .v vy) (hr : (Builtin.append_ #[t, tn] o.type #[vx, vy]).run P w = .ok v w') :
    (execOp (cenv σ) o).run P w = .ok (.value v) w' := by
  simp [execOp, hop, resolve, cenv, hx, hy, invoke, builtin, Result.andThen, hr]
theorem Step.newD {H : PH} {w : World} (s : Sub H w) (o : Obj) : H w.heap.size = none ∧ Step H w (H.put w.heap.size o) (w.drew.alloc o) := by
  obtain ⟨a, b⟩ := Step.new s o
  exact ⟨a, b.sub, b.size, b.priv, b.dom, rfl, rfl, rfl⟩
theorem Row.sg {A : PH} {e : TypeId} {size : Nat} {v : Value} {n : Nat} {xs : List Value} (h : Row A e size v n xs) (hn : 0 < n) : ∃ g cap cur, v = .slice (some ⟨g, 0, none⟩) n cap ∧ A = Sx.sg g (.cells cur e (0, 0)) ∧ n ≤ cap ∧ cap ≤ maxLen ∧ cur.size = cap * size ∧ cur.toList.take (n * size) = xs := by
  obtain ⟨⟨hl, ⟨_, e0⟩ | ⟨g, cap, cur, a, b, c, d, f, k'⟩⟩, hA⟩ := h
  · omega
  · refine ⟨g, cap, cur, a, ?_, c, d, f, k'⟩
    funext b'
    by_cases eb : b' = g
    · subst eb; rw [b, sg_self]
    · rw [hA b' (by subst a; simp [ownBlock_slice]; exact fun e => eb e.symm)]; simp [Sx.sg, eb]
theorem Row.of_sg {g cap n size : Nat} {cur : Array Value} {e : TypeId} {xs : List Value} (hl : xs.length = n * size) (h1 : n ≤ cap) (h2 : cap ≤ maxLen) (h3 : cur.size = cap * size) (h4 : cur.toList.take (n * size) = xs) : Row (Sx.sg g (.cells cur e (0, 0))) e size (.slice (some ⟨g, 0, none⟩) n cap) n xs :=
  ⟨⟨hl, .inr ⟨g, cap, cur, rfl, sg_self _ _, h1, h2, h3, h4⟩⟩, fun c hc => by
    simp only [ownBlock_slice, ne_eq, Option.some.injEq] at hc
    simp [Sx.sg, Ne.symm hc]⟩
theorem setCs_take (l cs : List Value) (off m : Nat) (h : off + cs.length ≤ m) : (setCs l off cs).take m = setCs (l.take m) off cs := by
  induction cs generalizing l off with
  | nil => rfl
  | cons c cs ih =>
    simp only [List.length_cons] at h
    simp only [setCs]
    rw [ih _ _ (by omega), List.take_set]
end
end Go.Sx
end
section
namespace Go.Sx
open Go
def getA : List (Nat × SV) → Nat → SV
  | [], _ => .u
  | (k, v) :: l, t => if k = t then v else getA l t
def dn (n : Nat) (L : List (Nat × SV)) : List SV := (List.range n).map (getA L)
theorem getT_dn {n : Nat} {L : List (Nat × SV)} {t : Nat} (h : t < n) : getT (dn n L) t = getA L t := by
  rw [getT_getElem?]
  unfold dn
  simp [h]
theorem setT_dn (n : Nat) (L : List (Nat × SV)) (d : Nat) (y : SV) : setT (dn n L) d y = dn n ((d, y) :: L) := by
  apply List.ext_getElem?
  intro i
  rw [setT_getElem?]
  unfold dn
  simp only [List.length_map, List.length_range, List.getElem?_map]
  by_cases e : d = i
  · subst e
    by_cases h : d < n
    · simp [h, getA]
    · simp [h]
  · simp only [if_neg e]
    by_cases h : i < n
    · simp [h, getA, e]
    · simp [h]
theorem map_dn (f : SV → SV) (hf : f .u = .u) (n : Nat) (L : List (Nat × SV)) : (dn n L).map f = dn n (L.map fun p => (p.1, f p.2)) := by
  unfold dn
  rw [List.map_map]
  apply List.map_congr_left
  intro t _
  simp only [Function.comp]
  induction L with
  | nil => exact hf
  | cons p l ih => obtain ⟨k, v⟩ := p; simp only [getA, List.map_cons]; split
                   · rfl
                   · exact ih
theorem clr_dn (d n : Nat) (L : List (Nat × SV)) : (dn n L).map (clr d) = dn n (L.map fun p => (p.1, clr d p.2)) := map_dn _ rfl _ _
theorem pub_dn (k b n : Nat) (L : List (Nat × SV)) : (dn n L).map (pubT k b) = dn n (L.map fun p => (p.1, pubT k b p.2)) := map_dn _ rfl _ _
def SubA : List (Nat × SV) → List (Nat × SV) → Prop
  | [], _ => True
  | (k, v) :: r, L => getA L k = v ∧ SubA r L
theorem subT_of {l m : List SV} (hl : l.length = m.length) (h : ∀ (i : Nat) (x : SV), l[i]? = some x → x = .u ∨ m[i]? = some x) : subT l m := by
  induction l generalizing m with
  | nil => cases m with
    | nil => trivial
    | cons y m => simp at hl
  | cons x l ih => cases m with
    | nil => simp at hl
    | cons y m =>
      have ht := ih (m := m) (by simpa using hl) fun i z hz => by simpa using h (i + 1) z (by simpa using hz)
      have h0 := h 0 x rfl
      cases x with
      | u => exact ht
      | v z => exact ⟨by rcases h0 with h0 | h0
                         · cases h0
                         · simpa using h0.symm, ht⟩
      | p a b => exact ⟨by rcases h0 with h0 | h0
                           · cases h0
                           · simpa using h0.symm, ht⟩
theorem SubA.get {L' L : List (Nat × SV)} (h : SubA L' L) (t : Nat) : getA L' t = .u ∨ getA L' t = getA L t := by
  induction L' with
  | nil => exact .inl rfl
  | cons p r ih =>
    obtain ⟨k, v⟩ := p
    simp only [getA]
    split
    · rename_i e; subst e; exact .inr h.1.symm
    · exact ih h.2
theorem subT_dn {n : Nat} {L' L : List (Nat × SV)} (h : SubA L' L) : subT (dn n L') (dn n L) := by
  refine subT_of (by simp [dn]) fun i x hx => ?_
  unfold dn at hx ⊢
  simp only [List.getElem?_map] at hx ⊢
  cases hr : (List.range n)[i]? with
  | none => rw [hr] at hx; cases hx
  | some j =>
    rw [hr] at hx
    simp only [Option.map_some, Option.some.injEq] at hx ⊢
    rcases h.get j with e | e
    · exact .inl (by rw [← hx]; exact e)
    · exact .inr (by rw [← e]; exact hx)
def argL : Nat → List Value → List (Nat × SV)
  | _, [] => []
  | i, v :: l => (i, .v v) :: argL (i + 1) l
theorem getA_arg : ∀ (vs : List Value) (i t : Nat), getA (argL i vs) t = if i ≤ t then (match vs[t - i]? with | some v => .v v | none => .u) else .u
  | [], i, t => by simp [argL, getA]
  | v :: l, i, t => by
    simp only [argL, getA, getA_arg l (i + 1) t]
    by_cases e : i = t
    · subst e; simp
    · rw [if_neg e]
      by_cases h : i ≤ t
      · rw [if_pos h, if_pos (by omega)]
        have : t - i = (t - (i + 1)) + 1 := by omega
        rw [this, List.getElem?_cons_succ]
      · rw [if_neg h, if_neg (by omega)]
theorem sub_init (args : List Value) (n : Nat) (h : args.length ≤ n) : subT (dn n (argL 0 args)) (initT args n) := by
  refine subT_of (by simp [dn, initT]; omega) fun i x hx => ?_
  unfold dn at hx
  simp only [List.getElem?_map] at hx
  by_cases hi : i < n
  · rw [List.getElem?_range hi] at hx
    simp only [Option.map_some, Option.some.injEq, getA_arg, Nat.zero_le, if_true, Nat.sub_zero] at hx
    cases hv : args[i]? with
    | none => rw [hv] at hx; exact .inl hx.symm
    | some v =>
      rw [hv] at hx
      right
      unfold initT
      have hl : i < args.length := by
        rcases Nat.lt_or_ge i args.length with h | h
        · exact h
        · rw [List.getElem?_eq_none h] at hv; cases hv
      rw [List.getElem?_append_left (by simpa using hl), List.getElem?_map, hv]
      simpa using hx
  · rw [List.getElem?_eq_none (by simpa using hi)] at hx; cases hx
theorem Does_ofD {P : Program} {f : FuncId} {fn : Func} {c : Code} {args : Array Value} {H : PH} {Φ : Value → PH → Prop} (hf : P.funcs[f]? = some fn) (hb : fn.body = some c) (hsz : args.toList.length ≤ fn.ntmps)
    (h : ∀ w0, RC ⟨P, f, fn, hf, H, w0, Φ, none⟩ (.st [.code c]) ⟨dn fn.ntmps (argL 0 args.toList), []⟩ H) : Does P f args H Φ :=
  Does_of hf hb hsz fun w0 => R_sub (sub_init _ _ hsz) (by simp [subB]) (h w0)
theorem Does_ofT {P : Program} {f : FuncId} {fn : Func} {c : Code} {args : Array Value} {H : PH} {Φ : Value → PH → Prop} (hf : P.funcs[f]? = some fn) (hq : (fn.body, decide (args.toList.length ≤ fn.ntmps)) = (some c, true))
    (h : ∀ w0, RC ⟨P, f, fn, hf, H, w0, Φ, none⟩ (.st [.code c]) ⟨dn fn.ntmps (argL 0 args.toList), []⟩ H) : Does P f args H Φ := by
  simp only [Prod.mk.injEq, decide_eq_true_eq] at hq
  exact Does_ofD hf hq.1 hq.2 h
attribute [go_sem] getA SubA getT_dn setT_dn clr_dn pub_dn argL
end Go.Sx
end
section
namespace Go.Sx
open Go
section
variable {C : Cx} {P : Program} {k : List Item} {σ : St} {H : PH}
theorem R_end_I {r : List Value} {I I2 : PH} {qs : List PH} {Ψ : Value → PH → List PH → Prop} (hpost : C.post = fun v H2 => ∃ I2 qs, H2 = U (I2 :: qs) ∧ Dj (I2 :: qs) ∧ I.le I2 ∧ Ψ v I2 qs) (hd : Dj (I2 :: qs)) (h : retL C.P σ C.fn.results.toList = some r) (hle : I.le I2) (hp : Ψ (retV r) I2 qs) (hC : C.rd = none := by rfl) : RC C (.st []) σ (U (I2 :: qs)) :=
  R_end h (by rw [hpost]; exact ⟨I2, qs, rfl, hd, hle, hp⟩) hC
theorem spec_slice3 {o : Oper} {T e : TypeId} {size : Nat} {x y z : Operand} {a : Option Addr} {len cap h m : Nat} {k1 k2 : IntKind} (hop : o.op = .slice T x none (some y) (some z)) (hu : P.underlying T = some (.slice e)) (hi : ∃ i, P.info? e = some i ∧ i.size = size)
    (hx : ev σ x = .v (.slice a len cap)) (hy : ev σ y = .v (.int k1 h)) (hz : ev σ z = .v (.int k2 m)) (h1 : h ≤ m) (h2 : m ≤ cap) :
    knownS σ o.op = true ∧ OpSpec P (execOp (cenv σ) o) H fun sv H2 => sv = .v (.slice (slA a size 0 m) h m) ∧ H2 = H := by
  constructor
  · simp [knownS, hop, noSel, Op.operands, hx, hy, hz, isV]
  · intro w hw
    obtain ⟨i, hi, rfl⟩ := hi
    have hsz : (sizeOf e).run P w = .ok i.size w := by simp [sizeOf, typeInfo, program, Sem.run, hi]
    have r1 := bound_run (P := P) (w := w) (i := (m : Int)) (k := k2) (code := .slice3Acap) (y := cap) (by omega) (by omega)
    have r2 := bound_run (P := P) (w := w) (i := (h : Int)) (k := k1) (code := .slice3B) (y := m) (by omega) (by omega)
    simp only [Int.toNat_natCast] at r1 r2
    have hrun : (execOp (cenv σ) o).run P w = .ok (.value (.slice (slA a i.size 0 m) h m)) w := by
      simp [execOp, hop, cenv, hx, hy, hz, Instr.sliceAt, kindOf_und hu, run_underlying hu, Instr.slice, Instr.sliceBounds, Result.andThen, hsz, slA, r1, r2]
    rw [hrun]
    exact ⟨H, Step.refl hw, rfl, rfl⟩
theorem spec_eqNil {o : Oper} {T T2 e : TypeId} {x y : Operand} {a : Option Addr} {n c : Nat} (hop : o.op = .binOp .eql T x y T2) (hu : P.underlying T = some (.slice e))
    (hx : ev σ x = .v (.slice a n c)) (hy : ev σ y = .v (.slice none 0 0)) :
    knownS σ o.op = true ∧ OpSpec P (execOp (cenv σ) o) H fun sv H2 => sv = .v (.bool a.isNone) ∧ H2 = H := by
  constructor
  · simp [knownS, hop, noSel, Op.operands, hx, hy, isV]
  · intro w hw
    have hrun : (execOp (cenv σ) o).run P w = .ok (.value (.bool a.isNone)) w := by
      have : ∀ k, Op.maxDepth = k + 1 → (Op.equal T (.slice a n c) (.slice none 0 0)).run P w = .ok a.isNone w := by
        intro k hk
        unfold Op.equal
        rw [hk]
        cases a <;> simp [Op.equalIn, run_underlying hu, Sem.run_bind, Result.andThen]
      have hh := this 9999 rfl
      simp [execOp, hop, cenv, hx, hy, eqGuard, binOp, Sem.run_bind, hh, Result.andThen]
    rw [hrun]
    exact ⟨H, Step.refl hw, rfl, rfl⟩
theorem RC_eqNil {ol rem : List Oper} {o : Oper} {T T2 e : TypeId} {x y : Operand} {a : Option Addr} {n c : Nat} (hw : wantedS ol σ o = some true) (hop : o.op = .binOp .eql T x y T2) (hu : C.P.underlying T = some (.slice e))
    (hx : ev σ x = .v (.slice a n c)) (hy : ev σ y = .v (.slice none 0 0)) (hk : RC C (.op ol rem k) (σ.put o.dst (.v (.bool a.isNone))) H) : RC C (.op ol (o :: rem) k) σ H := by
  obtain ⟨p, q⟩ := spec_eqNil (H := H) hop hu hx hy
  exact RC_gen hw p (q.mono fun sv H2 ⟨e1, e2⟩ => by subst e1; subst e2; exact hk)
theorem spec_appendN {o : Oper} {t e : TypeId} {size bytes : Nat} (ht : SlT P t e size bytes) {x y : Operand} {a ya : Option Addr} {n n2 c : Nat} (hop : o.op = .call ⟨.builtin .append, #[x, y], #[t, t]⟩)
    (hx : ev σ x = .v (.slice a n n2)) (hle : n ≤ n2) (hy : ev σ y = .v (.slice ya 0 c)) :
    knownS σ o.op = true ∧ OpSpec P (execOp (cenv σ) o) H fun sv H2 => sv = .v (.slice a n n2) ∧ H2 = H := by
  constructor
  · simp [knownS, hop, noSel, Op.operands, Call.operands, hx, hy, isV]
  · intro w hw
    obtain ⟨i, z, a1, a2, a3, a4, a5, a6, a7⟩ := ht
    have hs : Src P i.size t (.slice ya 0 c) 0 [] w := by
      cases ya with
      | none => exact Src.ofNil w a1 c
      | some b => exact Src.ofSlice w a1 b 0 c [] (by simp) (fun j u h => by simp at h) (fun u h => by cases h)
    have hrun := run_append_nothing (P := P) w t t o.type e i a1 a2 a n n2 hle _ hs
    rw [exec_append hop hx hy hrun]
    exact ⟨H, Step.refl hw, rfl, rfl⟩
theorem RC_appendN {ol rem : List Oper} {o : Oper} {t e : TypeId} {size bytes : Nat} (ht : SlT C.P t e size bytes) {x y : Operand} {a ya : Option Addr} {n n2 c : Nat} (hw : wantedS ol σ o = some true) (hop : o.op = .call ⟨.builtin .append, #[x, y], #[t, t]⟩)
    (hx : ev σ x = .v (.slice a n n2)) (hle : n ≤ n2) (hy : ev σ y = .v (.slice ya 0 c)) (hk : RC C (.op ol rem k) (σ.put o.dst (.v (.slice a n n2))) H) : RC C (.op ol (o :: rem) k) σ H := by
  obtain ⟨a, b⟩ := spec_appendN (H := H) ht hop hx hle hy
  exact RC_gen hw a (b.mono fun sv H2 ⟨e1, e2⟩ => by subst e1; subst e2; exact hk)
end
theorem bt_list (l : List UInt8) : (⟨⟨l⟩⟩ : ByteArray).toList = l := ByteArray.toList_eq _
attribute [go_sem] bt_list
end Go.Sx
end
section
namespace Go.Sx
open Go
section
variable {C : Cx} {P : Program} {k : List Item} {σ : St} {H : PH}
theorem RC_fan {α : Type} (S : α → St) (Q : α → PH → Prop) {p : Prop} (h1 : (∀ a σ' H, Q a H → subT (S a).tm σ'.tm → subB (S a).bx σ'.bx → RC C (.st k) σ' H) → p) (h2 : ∀ a H, Q a H → RC C (.st k) (S a) H) : p :=
  h1 fun a _ H hq ht hb => RC_sub ht hb (h2 a H hq)
end
theorem RC_loopX {C : Cx} {k kx : List Item} {σ : St} {H : PH} {α : Type} {c : Code} (μ : α → Nat) (S : α → St) (Q E : α → PH → Prop) (a0 : α) (hs : subT (S a0).tm σ.tm) (hb : subB (S a0).bx σ.bx) (hq : Q a0 H)
    (h : ∀ a H, Q a H → (∀ a' σ1 H', μ a' < μ a → subT (S a').tm σ1.tm → subB (S a').bx σ1.bx → Q a' H' → RC C (.st (.inLoop c :: k)) σ1 H') → (∀ a' σ1 H', subT (S a').tm σ1.tm → subB (S a').bx σ1.bx → E a' H' → RC C (.st kx) σ1 H') → RC C (.st (.code c :: .inLoop c :: k)) (S a) H)
    (rest : ∀ a H, E a H → RC C (.st kx) (S a) H) : RC C (.st (.code (.loop c) :: k)) σ H :=
  RC_loopD μ S Q a0 hs hb hq fun a H hq hn => h a H hq hn fun a' σ1 H' h1 h2 h3 => RC_sub h1 h2 (rest a' H' h3)
end Go.Sx
end
section
namespace Dg
abbrev Cfg := Nat → Bool
def upd (c : Cfg) (j : Nat) (x : Bool) : Cfg := fun i => if i = j then x else c i
inductive T where
  | lf (b : Bool)
  | nd (v : Nat) (l h : T)
deriving DecidableEq
namespace T
def at' (c : Cfg) : T → Bool
  | lf b => b
  | nd v l h => if c v then h.at' c else l.at' c
def ok : Nat → T → Prop
  | _, lf _ => True
  | k, nd v l h => k ≤ v ∧ v < 24 ∧ l ≠ h ∧ ok (v+1) l ∧ ok (v+1) h
theorem ok.mono {t : T} {k j : Nat} (hj : j ≤ k) (h : t.ok k) : t.ok j := by
  cases t with
  | lf b => trivial
  | nd v l r => exact ⟨Nat.le_trans hj h.1, h.2⟩
theorem indep {t : T} : ∀ {k : Nat}, t.ok k → ∀ {j : Nat}, j < k → ∀ (c : Cfg) (x : Bool), t.at' (upd c j x) = t.at' c := by
  induction t with
  | lf b => intros; rfl
  | nd v l h ihl ihh =>
    intro k hk j hj c x
    have hv : upd c j x v = c v := by unfold upd; rw [if_neg]; have := hk.1; omega
    simp only [at', hv, ihl hk.2.2.2.1 (show j < v + 1 by have := hk.1; omega), ihh hk.2.2.2.2 (show j < v + 1 by have := hk.1; omega)]
theorem at_lo {v : Nat} {l h : T} {k : Nat} (hk : (nd v l h).ok k) (c : Cfg) : (nd v l h).at' (upd c v false) = l.at' c := by
  simp only [at', upd, if_true, Bool.false_eq_true, if_false]
  exact indep hk.2.2.2.1 (Nat.lt_succ_self v) c false
theorem at_hi {v : Nat} {l h : T} {k : Nat} (hk : (nd v l h).ok k) (c : Cfg) : (nd v l h).at' (upd c v true) = h.at' c := by
  simp only [at', upd, if_true]
  exact indep hk.2.2.2.2 (Nat.lt_succ_self v) c true
def sz : T → Nat
  | lf _ => 1
  | nd _ l h => l.sz + h.sz + 1
theorem canon : ∀ (n : Nat) (a b : T) (k j : Nat), a.sz + b.sz ≤ n → a.ok k → b.ok j → (∀ c, a.at' c = b.at' c) → a = b := by
  intro n
  induction n with
  | zero => intro a b k j hn; cases a <;> simp [sz] at hn
  | succ n ih =>
    intro a b k j hn ha hb he
    cases a with
    | lf x =>
      cases b with
      | lf y => have := he (fun _ => false); simp only [at'] at this; rw [this]
      | nd v l h =>
        exfalso
        simp only [sz] at hn
        have e1 : lf x = l := ih (lf x) l 0 _ (by simp only [sz]; omega) trivial hb.2.2.2.1 (fun c => by rw [← at_lo hb c, ← he]; rfl)
        have e2 : lf x = h := ih (lf x) h 0 _ (by simp only [sz]; omega) trivial hb.2.2.2.2 (fun c => by rw [← at_hi hb c, ← he]; rfl)
        exact hb.2.2.1 (e1.symm.trans e2)
    | nd v l h =>
      cases b with
      | lf y =>
        exfalso
        simp only [sz] at hn
        have e1 : l = lf y := ih l (lf y) _ 0 (by simp only [sz]; omega) ha.2.2.2.1 trivial (fun c => by rw [← at_lo ha c, he]; rfl)
        have e2 : h = lf y := ih h (lf y) _ 0 (by simp only [sz]; omega) ha.2.2.2.2 trivial (fun c => by rw [← at_hi ha c, he]; rfl)
        exact ha.2.2.1 (e1.trans e2.symm)
      | nd v' l' h' =>
        simp only [sz] at hn
        rcases Nat.lt_trichotomy v v' with hv | hv | hv
        · exfalso
          have hb' : (nd v' l' h').ok (v+1) := ⟨hv, hb.2⟩
          have e1 : l = nd v' l' h' := ih l _ _ _ (by simp only [sz]; omega) ha.2.2.2.1 hb' (fun c => by rw [← at_lo ha c, he, indep hb' (Nat.lt_succ_self v)])
          have e2 : h = nd v' l' h' := ih h _ _ _ (by simp only [sz]; omega) ha.2.2.2.2 hb' (fun c => by rw [← at_hi ha c, he, indep hb' (Nat.lt_succ_self v)])
          exact ha.2.2.1 (e1.trans e2.symm)
        · subst hv
          have e1 : l = l' := ih l l' _ _ (by omega) ha.2.2.2.1 hb.2.2.2.1 (fun c => by rw [← at_lo ha c, he, at_lo hb c])
          have e2 : h = h' := ih h h' _ _ (by omega) ha.2.2.2.2 hb.2.2.2.2 (fun c => by rw [← at_hi ha c, he, at_hi hb c])
          rw [e1, e2]
        · exfalso
          have ha' : (nd v l h).ok (v'+1) := ⟨hv, ha.2⟩
          have e1 : nd v l h = l' := ih _ l' _ _ (by simp only [sz]; omega) ha' hb.2.2.2.1 (fun c => by rw [← at_lo hb c, ← he, indep ha' (Nat.lt_succ_self v')])
          have e2 : nd v l h = h' := ih _ h' _ _ (by simp only [sz]; omega) ha' hb.2.2.2.2 (fun c => by rw [← at_hi hb c, ← he, indep ha' (Nat.lt_succ_self v')])
          exact hb.2.2.1 (e1.symm.trans e2)
theorem ext {a b : T} {k j : Nat} (ha : a.ok k) (hb : b.ok j) (h : ∀ c, a.at' c = b.at' c) : a = b := canon _ a b k j (Nat.le_refl _) ha hb h
def mk (v : Nat) (l h : T) : T := if l = h then l else nd v l h
theorem mk_ok {v k : Nat} {l h : T} (hk : k ≤ v) (hv : v < 24) (hl : l.ok (v+1)) (hh : h.ok (v+1)) : (mk v l h).ok k := by
  unfold mk; split
  · exact hl.mono (by omega)
  · exact ⟨hk, hv, by assumption, hl, hh⟩
theorem mk_at (v : Nat) (l h : T) (c : Cfg) : (mk v l h).at' c = if c v then h.at' c else l.at' c := by
  unfold mk; split
  · subst_vars; simp
  · rfl
def var : T → Nat
  | lf _ => 24
  | nd v _ _ => v
def lo (i : Nat) : T → T
  | nd v l h => if v = i then l else nd v l h
  | lf b => lf b
def hi (i : Nat) : T → T
  | nd v l h => if v = i then h else nd v l h
  | lf b => lf b
theorem var_ge {t : T} {k : Nat} (h : t.ok k) (hk : k ≤ 24) : k ≤ t.var := by
  cases t with
  | lf b => exact hk
  | nd v l r => exact h.1
theorem var_le {t : T} {k : Nat} (h : t.ok k) : t.var ≤ 24 := by
  cases t with
  | lf b => exact Nat.le_refl _
  | nd v l r => exact Nat.le_of_lt h.2.1
theorem lo_ok {t : T} {k i : Nat} (h : t.ok k) (hi : i ≤ t.var) : (lo i t).ok (i+1) := by
  cases t with
  | lf b => trivial
  | nd v l r =>
    simp only [lo, var] at *
    split
    · subst_vars; exact h.2.2.2.1
    · exact ⟨by omega, h.2⟩
theorem hi_ok {t : T} {k i : Nat} (h : t.ok k) (hi' : i ≤ t.var) : (hi i t).ok (i+1) := by
  cases t with
  | lf b => trivial
  | nd v l r =>
    simp only [hi, var] at *
    split
    · subst_vars; exact h.2.2.2.2
    · exact ⟨by omega, h.2⟩
theorem at_split (i : Nat) (t : T) (c : Cfg) : t.at' c = if c i then (hi i t).at' c else (lo i t).at' c := by
  cases t with
  | lf b => simp [lo, hi, at']
  | nd v l r =>
    simp only [lo, hi]
    by_cases e : v = i
    · subst e; simp [at']
    · simp [e]
def op (f : Bool → Bool → Bool) : Nat → T → T → T
  | 0, a, b => lf (f (a.at' fun _ => false) (b.at' fun _ => false))
  | n+1, a, b => match a, b with
    | lf x, lf y => lf (f x y)
    | a, b => mk (min a.var b.var) (op f n (lo (min a.var b.var) a) (lo (min a.var b.var) b)) (op f n (hi (min a.var b.var) a) (hi (min a.var b.var) b))
theorem is_lf {t : T} (h : t.ok 24) : ∃ b, t = lf b := by
  cases t with
  | lf b => exact ⟨b, rfl⟩
  | nd v l r => exact absurd h.1 (by have := h.2.1; omega)
theorem op_spec (f : Bool → Bool → Bool) : ∀ (n k : Nat) (a b : T), 24 ≤ n + k → k ≤ 24 → a.ok k → b.ok k → (op f n a b).ok k ∧ ∀ c, (op f n a b).at' c = f (a.at' c) (b.at' c) := by
  intro n
  induction n with
  | zero =>
    intro k a b hn hk ha hb
    have : k = 24 := by omega
    subst this
    obtain ⟨x, rfl⟩ := is_lf ha; obtain ⟨y, rfl⟩ := is_lf hb
    exact ⟨trivial, fun c => rfl⟩
  | succ n ih =>
    intro k a b hn hk ha hb
    have main : ∀ i, i = min a.var b.var → i < 24 → (mk i (op f n (lo i a) (lo i b)) (op f n (hi i a) (hi i b))).ok k ∧ ∀ c, (mk i (op f n (lo i a) (lo i b)) (op f n (hi i a) (hi i b))).at' c = f (a.at' c) (b.at' c) := by
      intro i hi' hlt
      have h1 := var_ge ha hk; have h2 := var_ge hb hk
      obtain ⟨l1, l2⟩ := ih (i+1) (lo i a) (lo i b) (by omega) (by omega) (lo_ok ha (by omega)) (lo_ok hb (by omega))
      obtain ⟨r1, r2⟩ := ih (i+1) (hi i a) (hi i b) (by omega) (by omega) (hi_ok ha (by omega)) (hi_ok hb (by omega))
      refine ⟨mk_ok (by omega) hlt l1 r1, fun c => ?_⟩
      rw [mk_at, l2, r2, at_split i a c, at_split i b c]
      split <;> rfl
    unfold op
    split
    · exact ⟨trivial, fun c => rfl⟩
    · rename_i hno
      refine main _ rfl ?_
      cases a with
      | nd v l r => have := ha.2.1; simp only [var]; omega
      | lf x =>
        cases b with
        | nd v l r => have := hb.2.1; simp only [var]; omega
        | lf y => exact (hno x y rfl rfl).elim
def and (a b : T) : T := op (· && ·) 24 a b
def or (a b : T) : T := op (· || ·) 24 a b
def not : T → T
  | lf b => lf (!b)
  | nd v l h => nd v l.not h.not
theorem or_ok {a b : T} (ha : a.ok 0) (hb : b.ok 0) : (or a b).ok 0 := (op_spec _ 24 0 a b (by omega) (by omega) ha hb).1
theorem or_at {a b : T} (ha : a.ok 0) (hb : b.ok 0) (c : Cfg) : (or a b).at' c = (a.at' c || b.at' c) := (op_spec _ 24 0 a b (by omega) (by omega) ha hb).2 c
theorem not_not (t : T) : t.not.not = t := by
  induction t with
  | lf b => simp [not]
  | nd v l h ihl ihh => simp [not, ihl, ihh]
theorem not_ok {t : T} : ∀ {k : Nat}, t.ok k → t.not.ok k := by
  induction t with
  | lf b => intros; trivial
  | nd v l h ihl ihh =>
    intro k hk
    refine ⟨hk.1, hk.2.1, fun e => hk.2.2.1 ?_, ihl hk.2.2.2.1, ihh hk.2.2.2.2⟩
    rw [← not_not l, e, not_not]
def vis : T → List T → List T
  | lf _, ts => ts
  | nd v l h, ts => if nd v l h ∈ ts then ts else h.vis (l.vis ts) ++ [nd v l h]
def plc (ts : List T) : T → Nat
  | lf b => if b then 1 else 0
  | nd v l h => ts.idxOf (nd v l h) + 2
def isIn (ts : List T) : T → Prop
  | lf _ => True
  | nd v l h => nd v l h ∈ ts
def Seq (ts : List T) : Prop := ts.Nodup ∧ ∀ (i : Nat) (t : T), ts[i]? = some t → ∃ v l h, t = nd v l h ∧ t.ok 0 ∧ isIn (ts.take i) l ∧ isIn (ts.take i) h
theorem isIn.mono {ts us : List T} {t : T} (h : isIn ts t) (hs : ∀ x ∈ ts, x ∈ us) : isIn us t := by
  cases t with
  | lf b => trivial
  | nd v l r => exact hs _ h
theorem isIn.app {ts us : List T} {t : T} (h : isIn ts t) : isIn (ts ++ us) t := h.mono fun x hx => List.mem_append_left _ hx
theorem plc_app {ts us : List T} {t : T} (h : isIn ts t) : plc (ts ++ us) t = plc ts t := by
  cases t with
  | lf b => rfl
  | nd v l r =>
    have hm : nd v l r ∈ ts := h
    simp only [plc]
    rw [List.idxOf_append, if_pos hm]
theorem plc_inj {ts : List T} {a b : T} (ha : isIn ts a) (hb : isIn ts b) (h : plc ts a = plc ts b) : a = b := by
  cases a with
  | lf x => cases b with
    | lf y => cases x <;> cases y <;> simp [plc] at h <;> rfl
    | nd v l r => simp only [plc] at h; split at h <;> omega
  | nd v l r => cases b with
    | lf y => simp only [plc] at h; split at h <;> omega
    | nd v' l' r' =>
      have h1 : nd v l r ∈ ts := ha
      have h2 : nd v' l' r' ∈ ts := hb
      simp only [plc] at h
      have e : ts.idxOf (nd v l r) = ts.idxOf (nd v' l' r') := by omega
      have g1 : ts[ts.idxOf (nd v l r)]? = some (nd v l r) := by
        rw [List.getElem?_eq_getElem (List.idxOf_lt_length_of_mem h1)]; simp
      have g2 : ts[ts.idxOf (nd v' l' r')]? = some (nd v' l' r') := by
        rw [List.getElem?_eq_getElem (List.idxOf_lt_length_of_mem h2)]; simp
      rw [e, g2] at g1; exact (Option.some.inj g1).symm
theorem plc_get {ts : List T} {v : Nat} {l r : T} (h : nd v l r ∈ ts) : ts[plc ts (nd v l r) - 2]? = some (nd v l r) := by
  simp only [plc, Nat.add_sub_cancel]
  rw [List.getElem?_eq_getElem (List.idxOf_lt_length_of_mem h)]; simp
theorem plc_lt {ts : List T} {t : T} (h : isIn ts t) : plc ts t < ts.length + 2 := by
  cases t with
  | lf b => simp only [plc]; split <;> omega
  | nd v l r => have := List.idxOf_lt_length_of_mem (show nd v l r ∈ ts from h); simp only [plc]; omega
theorem Seq.nil : Seq [] := ⟨List.nodup_nil, fun i t h => by simp at h⟩
theorem Seq.snoc {ts : List T} {v : Nat} {l h : T} (s : Seq ts) (hok : (nd v l h).ok 0) (hl : isIn ts l) (hh : isIn ts h) (hn : nd v l h ∉ ts) : Seq (ts ++ [nd v l h]) := by
  refine ⟨?_, fun i t hi => ?_⟩
  · rw [List.nodup_append]; refine ⟨s.1, by simp, fun a ha b hb => ?_⟩
    simp at hb; subst hb; intro e; subst e; exact hn ha
  · rcases Nat.lt_trichotomy i ts.length with hlt | rfl | hgt
    · rw [List.getElem?_append_left hlt] at hi
      obtain ⟨v', l', h', a, b, c, d⟩ := s.2 i t hi
      refine ⟨v', l', h', a, b, ?_, ?_⟩ <;> rw [List.take_append_of_le_length (Nat.le_of_lt hlt)] <;> assumption
    · rw [List.getElem?_append_right (Nat.le_refl _)] at hi
      simp at hi; subst hi
      refine ⟨v, l, h, rfl, hok, ?_, ?_⟩ <;> rw [List.take_append_of_le_length (Nat.le_refl _), List.take_length] <;> assumption
    · rw [List.getElem?_eq_none (by simp; omega)] at hi; cases hi
theorem vis_spec (t : T) : ∀ {k : Nat}, t.ok k → k ≤ 24 → ∀ (ts : List T), Seq ts → Seq (t.vis ts) ∧ isIn (t.vis ts) t ∧ (∃ us, t.vis ts = ts ++ us ∧ us.length + 1 ≤ 2 ^ (24 - k) ∧ ∀ x ∈ us, x.sz ≤ t.sz) := by
  induction t with
  | lf b =>
    intro k hk hk2 ts s
    exact ⟨s, trivial, [], by simp [vis], by simpa using Nat.one_le_two_pow, fun x hx => absurd hx List.not_mem_nil⟩
  | nd v l h ihl ihh =>
    intro k hk hk2 ts s
    unfold vis
    split
    · rename_i hm
      exact ⟨s, hm, [], by simp, by simpa using Nat.one_le_two_pow, fun x hx => absurd hx List.not_mem_nil⟩
    · rename_i hm
      obtain ⟨s1, i1, us1, e1, n1, z1⟩ := ihl hk.2.2.2.1 (by have := hk.2.1; omega) ts s
      obtain ⟨s2, i2, us2, e2, n2, z2⟩ := ihh hk.2.2.2.2 (by have := hk.2.1; omega) _ s1
      have hnot : nd v l h ∉ h.vis (l.vis ts) := by
        rw [e2, e1]
        simp only [List.mem_append]
        rintro ((hx | hx) | hx)
        · exact hm hx
        · have := z1 _ hx; simp only [sz] at this; omega
        · have := z2 _ hx; simp only [sz] at this; omega
      refine ⟨s2.snoc ⟨Nat.zero_le _, hk.2⟩ ?_ i2 hnot, ?_, us1 ++ us2 ++ [nd v l h], ?_, ?_, ?_⟩
      · rw [e2]; exact i1.app
      · show nd v l h ∈ _; simp
      · rw [e2, e1]; simp
      · have hp : 2 ^ (24 - (v + 1)) + 2 ^ (24 - (v + 1)) ≤ 2 ^ (24 - k) := by
          have h1 := hk.1; have h2 := hk.2.1
          have : 2 ^ (24 - (v+1)) + 2 ^ (24 - (v+1)) = 2 ^ (24 - v) := by rw [show 24 - v = (24 - (v+1)) + 1 by omega, Nat.pow_succ]; omega
          rw [this]; exact Nat.pow_le_pow_right (by omega) (by omega)
        simp; omega
      · intro x hx
        simp only [List.mem_append, List.mem_singleton] at hx
        rcases hx with (hx | hx) | rfl
        · have := z1 _ hx; simp only [sz]; omega
        · have := z2 _ hx; simp only [sz]; omega
        · exact Nat.le_refl _
def subs (t : T) : List T := t.vis []
theorem subs_seq {t : T} (h : t.ok 0) : Seq (subs t) := (vis_spec t h (by omega) [] Seq.nil).1
theorem subs_in {t : T} (h : t.ok 0) : isIn (subs t) t := (vis_spec t h (by omega) [] Seq.nil).2.1
theorem subs_len {t : T} (h : t.ok 0) : (subs t).length < 2 ^ 24 := by
  obtain ⟨us, e, n, _⟩ := (vis_spec t h (by omega) [] Seq.nil).2.2
  unfold subs; rw [e]; simp only [List.nil_append]; omega
def dec (ts : List T) : T → Nat × Nat × Nat
  | lf b => (24, if b then 1 else 0, if b then 1 else 0)
  | nd v l h => (v, plc ts l, plc ts h)
theorem dec_app {ts us : List T} (s : Seq ts) {t : T} (h : isIn ts t) : dec (ts ++ us) t = dec ts t := by
  cases t with
  | lf b => rfl
  | nd v l r =>
    have hm : nd v l r ∈ ts := h
    obtain ⟨i, hi⟩ := List.mem_iff_getElem?.1 hm
    obtain ⟨v', l', r', e, _, hl, hr⟩ := s.2 i _ hi
    cases e
    have sub : ∀ x ∈ ts.take i, x ∈ ts := fun x hx => List.mem_of_mem_take hx
    simp only [dec, plc_app (hl.mono sub), plc_app (hr.mono sub)]
theorem Seq.kids {ts : List T} (s : Seq ts) {v : Nat} {l h : T} (hm : nd v l h ∈ ts) : isIn ts l ∧ isIn ts h := by
  obtain ⟨i, hi⟩ := List.mem_iff_getElem?.1 hm
  obtain ⟨v', l', r', e, _, hl, hr⟩ := s.2 i _ hi
  cases e
  have sub : ∀ x ∈ ts.take i, x ∈ ts := fun x hx => List.mem_of_mem_take hx
  exact ⟨hl.mono sub, hr.mono sub⟩
theorem Seq.okk {ts : List T} (s : Seq ts) {t : T} (h : isIn ts t) : t.ok 0 := by
  cases t with
  | lf b => trivial
  | nd v l r =>
    obtain ⟨i, hi⟩ := List.mem_iff_getElem?.1 (show nd v l r ∈ ts from h)
    exact (s.2 i _ hi).choose_spec.choose_spec.choose_spec.2.1
end T
theorem T.at_cut {t : T} : ∀ {k : Nat}, t.ok k → ∀ {c d : Cfg}, (∀ i, i < 24 → c i = d i) → t.at' c = t.at' d := by
  induction t with
  | lf b => intros; rfl
  | nd v l h ihl ihh =>
    intro k hk c d hcd
    simp only [T.at', hcd v hk.2.1, ihl hk.2.2.2.1 hcd, ihh hk.2.2.2.2 hcd]
end Dg
end
