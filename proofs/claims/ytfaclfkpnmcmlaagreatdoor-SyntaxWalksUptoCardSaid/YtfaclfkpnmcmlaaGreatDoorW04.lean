import Derived.Test.YtfaclfkpnmcmlaaGreatDoorW03
import Derived.Laws.IdiomStrings
set_option maxHeartbeats 20000000
set_option linter.all false
section
namespace Go.Ke
open Go Go.Sx
 noncomputable def toVs : List LV → Option (List Value)
  | [] => some []
  | .v x :: l => (toVs l).map (x :: ·)
  | _ :: _ => none
 noncomputable def toV : LV → Option Value
  | .v x => some x
  | .ag cs => (toVs cs).map fun l => .agg l.toArray
  | _ => none
theorem toVs_VR {e : Env} : ∀ {xs : List LV} {ys zs : List Value}, VRs e xs ys → toVs xs = some zs → ys = zs
  | [], l, z, h, k => by simp only [VRs] at h; simp only [toVs, Option.some.injEq] at k; rw [h, k]
  | x :: xs, l, z, h, k => by
    simp only [VRs] at h; obtain ⟨y, ys, rfl, h1, h2⟩ := h
    cases x <;> simp only [toVs] at k <;> try (cases k; done)
    simp only [Option.map_eq_some_iff] at k
    obtain ⟨zs, k1, rfl⟩ := k
    simp only [VR] at h1; subst h1
    rw [toVs_VR h2 k1]
theorem toV_VR {e : Env} {x : LV} {y z : Value} (h : VR e x y) (k : toV x = some z) : y = z := by
  cases x <;> simp only [toV] at k <;> try (cases k; done)
  · cases k; simpa only [VR] using h
  · simp only [Option.map_eq_some_iff] at k
    obtain ⟨zs, k1, rfl⟩ := k
    simp only [VR] at h; obtain ⟨cs', rfl, h⟩ := h
    rw [toVs_VR h k1]
 noncomputable def key1 : Value → Value → Option Bool
  | .int k n, .int k' n' => some (k == k' && n == n')
  | .string a, .string b => some (a.data.toList == b.data.toList)
  | .bool a, .bool b => some (a == b)
  | _, _ => none
 noncomputable def keys1 : List Value → List Value → Option Bool
  | [], [] => some true
  | a :: l, b :: m => match key1 a b with
    | some true => keys1 l m
    | some false => some false
    | none => none
  | _, _ => none
 noncomputable def keyEq : Value → Value → Option Bool
  | .agg a, .agg b => keys1 a.toList b.toList
  | a, b => key1 a b
theorem bytes_ext {a b : ByteArray} (h : a.data.toList = b.data.toList) : a = b := by
  cases a; cases b; simp only at h; congr; exact Array.toList_inj.1 h
theorem key1_ok : ∀ {a b : Value} {r : Bool}, key1 a b = some r → (r = true ↔ a = b) := by
  intro a b r h
  unfold key1 at h
  split at h <;> cases h
  · rename_i k n k' n'
    simp only [Bool.and_eq_true, beq_iff_eq, Value.int.injEq]
  · rename_i a b
    simp only [beq_iff_eq, Value.string.injEq]
    exact ⟨bytes_ext, fun h => by rw [h]⟩
  · simp only [beq_iff_eq, Value.bool.injEq]
theorem keys1_ok : ∀ {l m : List Value} {r : Bool}, keys1 l m = some r → (r = true ↔ l = m)
  | [], [], r, h => by simp only [keys1, Option.some.injEq] at h; subst h; simp
  | [], b :: m, r, h => by cases h
  | a :: l, [], r, h => by cases h
  | a :: l, b :: m, r, h => by
    simp only [keys1] at h
    split at h
    · rename_i h1
      have e1 := (key1_ok h1).1 rfl
      subst e1
      rw [keys1_ok h]; simp
    · rename_i h1
      cases h
      have := key1_ok h1
      simp only [Bool.false_eq_true, false_iff] at this ⊢
      intro he; cases he; exact this rfl
    · cases h
theorem keyEq_ok {a b : Value} {r : Bool} (h : keyEq a b = some r) : r = true ↔ a = b := by
  unfold keyEq at h
  split at h
  · rename_i a b
    rw [keys1_ok h]
    constructor
    · intro h; congr; exact Array.toList_inj.1 h
    · intro h; cases h; rfl
  · exact key1_ok h
 noncomputable def findK (key : Value) : List (Value × LV) → Option (Option LV)
  | [] => some none
  | (k, v) :: l => match keyEq k key with
    | some true => some (some v)
    | some false => findK key l
    | none => none
 noncomputable def dropK (key : Value) : List (Value × LV) → Option (List (Value × LV))
  | [] => some []
  | (k, v) :: l => match keyEq k key with
    | some true => dropK key l
    | some false => (dropK key l).map ((k, v) :: ·)
    | none => none
theorem findK_some {key : Value} {v : LV} : ∀ {l : List (Value × LV)}, findK key l = some (some v) → (key, v) ∈ l
  | [], h => by cases h
  | (k, u) :: l, h => by
    simp only [findK] at h
    split at h
    · rename_i h1; cases h; rw [← (keyEq_ok h1).1 rfl]; exact .head _
    · exact .tail _ (findK_some h)
    · cases h
theorem findK_none {key : Value} : ∀ {l : List (Value × LV)}, findK key l = some none → ∀ k ∈ l, k.1 ≠ key
  | [], h, k, hk => by cases hk
  | (k', u) :: l, h, k, hk => by
    simp only [findK] at h
    split at h
    · cases h
    · rename_i h1
      rcases List.mem_cons.1 hk with rfl | hk
      · have := keyEq_ok h1; simp at this; exact this
      · exact findK_none h k hk
    · cases h
theorem dropK_mem {key : Value} : ∀ {l m : List (Value × LV)}, dropK key l = some m → ∀ k, k ∈ m ↔ k ∈ l ∧ k.1 ≠ key
  | [], m, h, k => by simp only [dropK, Option.some.injEq] at h; subst h; simp
  | (k', u) :: l, m, h, k => by
    simp only [dropK] at h
    split at h
    · rename_i h1
      have e1 := (keyEq_ok h1).1 rfl
      rw [dropK_mem h k]
      constructor
      · rintro ⟨a, b⟩; exact ⟨.tail _ a, b⟩
      · rintro ⟨a, b⟩
        rcases List.mem_cons.1 a with rfl | a
        · exact absurd e1 b
        · exact ⟨a, b⟩
    · rename_i h1
      simp only [Option.map_eq_some_iff] at h
      obtain ⟨m', h2, rfl⟩ := h
      have := keyEq_ok h1; simp at this
      rw [List.mem_cons, dropK_mem h2 k, List.mem_cons]
      constructor
      · rintro (rfl | ⟨a, b⟩)
        · exact ⟨.inl rfl, this⟩
        · exact ⟨.inr a, b⟩
      · rintro ⟨rfl | a, b⟩
        · exact .inl rfl
        · exact .inr ⟨a, b⟩
    · cases h
 noncomputable def mapOf (P : Program) (mt : TypeId) : Option (TypeId × TypeId) := match P.underlying mt with | some (.map k e) => some (k, e) | _ => none
 noncomputable def lookL (X : Ctx) (mt : TypeId) (x y : Option LV) (s : KS) : Option HR :=
  match mapOf X.P mt, x, y with
  | some (kt, et), some (.m id), some k => match toV k, zeroOf X.P et, s.L.get id with
    | some key, some z, some (.map es kt') => if X.keyed kt = true ∧ (keyOf X.P kt key).isSome = true ∧ kt' = kt then match findK key es with
      | some (some v) => some ⟨.tu [v, .v (.bool true)], s, [id], []⟩
      | some none => some ⟨.tu [.v z, .v (.bool false)], s, [id], []⟩
      | none => none else none
    | _, _, _ => none
  | _, _, _ => none
 noncomputable def updL (X : Ctx) (mt : TypeId) (x y z : Option LV) (s : KS) : Option HR :=
  match mapOf X.P mt, x, y, z with
  | some (kt, _), some (.m id), some k, some v => match toV k, s.L.get id with
    | some key, some (.map es kt') => if X.keyed kt = true ∧ (keyOf X.P kt key).isSome = true ∧ kt' = kt ∧ fixL v = true then match dropK key es with
      | some es' => setO s id (.map ((key, v) :: es') kt)
      | none => none else none
    | _, _ => none
  | _, _, _, _ => none
 noncomputable def mkMapL (P : Program) (mt : TypeId) (s : KS) : Option HR := match mapOf P mt with | some (kt, _) => newO s (.map [] kt) (fun c => .m c) | none => none
theorem mapOf_und {P : Program} {mt kt et : TypeId} (h : mapOf P mt = some (kt, et)) : P.underlying mt = some (.map kt et) := by
  unfold mapOf at h; split at h
  · cases h; assumption
  · cases h
section
variable {X : Ctx} {ol : List Oper} {o : Oper} {σ : St} {e : Env} {M : LM} {I H : PH} {ρ : Rho}
theorem look_sound {mt : TypeId} {x y : Operand} (hop : o.op = .lookup mt x y true) (hw : wantedS ol σ o = some true) (hO : OR e ρ σ) {s : KS} {r : HR} (h : lookL X mt (ρ x) (ρ y) s = some r) (hR : Rel X e M I H)
    (hfp : ∀ id ∈ r.fp, ∀ ob, s.L.get id = some ob → M id = some ob) : Good X ol o σ e M I H s r := by
  unfold lookL at h
  split at h
  case h_2 => cases h
  rename_i kt et id k hm hx hy
  split at h
  case h_2 => cases h
  rename_i key z es kt' hk hz hg
  split at h
  case isFalse => cases h
  rename_i hc
  obtain ⟨c1, c2, rfl⟩ := hc
  obtain ⟨vx, h1, h2⟩ := hO _ _ hx
  obtain ⟨vy, h3, h4⟩ := hO _ _ hy
  simp only [VR] at h2; obtain ⟨b, x', e1, rfl⟩ := h2
  have hkey := toV_VR h4 hk; subst hkey
  have hKV : KeyV X.P kt' vy := Option.isSome_iff_exists.1 c2
  have main : ∀ (v : LV) (is : Bool) (v' : Value), r = ⟨.tu [v, .v (.bool is)], s, [id], []⟩ → VR e v v' → (∀ S, MapAt X.P H b kt' S → (∀ y u, S y u ↔ ∃ k ∈ es, k.1 = y ∧ VR e k.2 u) → (is = true ∧ S vy v' ∨ is = false ∧ v' = z ∧ ∀ u, ¬ S vy u)) → M id = some (.map es kt') → Good X ol o σ e M I H s r := by
    intro v is v' hr hv hS hM
    subst hr
    obtain ⟨b2, f1, f2, f3, f4⟩ := hR.ob id _ hM
    rw [e1] at f1; cases f1
    obtain ⟨g1, g2⟩ := lookup_exec (X.keyedOk c1) (mapOf_und hm) hz hop h1 h3 f3 hKV (hS _ f3 (fun _ _ => Iff.rfl))
    refine Good.look rfl rfl (Eff.pure hw hR ⟨_, ?_, .inr ⟨_, rfl, g1, g2⟩⟩ _)
    simp only [VR]; exact ⟨[v', .bool is], rfl, by simp only [VRs, VR]; exact ⟨v', _, rfl, hv, _, _, rfl, rfl, rfl⟩⟩
  split at h
  · rename_i v hf
    have hr : r = _ := (Option.some.inj h).symm
    have hM := hfp id (by rw [hr]; exact .head _) _ hg
    obtain ⟨b2, f1, f2, f3, f4⟩ := hR.ob id _ hM
    obtain ⟨⟨u, hu⟩, _⟩ := f4 _ (findK_some hf)
    exact main v true u hr hu (fun S _ hS => .inl ⟨rfl, (hS _ _).2 ⟨_, findK_some hf, rfl, hu⟩⟩) hM
  · rename_i hf
    have hr : r = _ := (Option.some.inj h).symm
    have hM := hfp id (by rw [hr]; exact .head _) _ hg
    exact main (.v z) false z hr (by simp only [VR]) (fun S _ hS => .inr ⟨rfl, rfl, fun u hu => by
      obtain ⟨k, hk1, hk2, _⟩ := (hS _ _).1 hu
      exact findK_none hf k hk1 hk2⟩) hM
  · cases h
theorem upd_sound {mt : TypeId} {x y z : Operand} (hop : o.op = .mapUpdate mt x y z ∨ o.op = .insert mt x y z) (hd : o.dst = none) (hw : wantedS ol σ o = some true) (hO : OR e ρ σ) {s : KS} {r : HR} (h : updL X mt (ρ x) (ρ y) (ρ z) s = some r) (hR : Rel X e M I H)
    (hfp : ∀ id ∈ r.fp, ∀ ob, s.L.get id = some ob → M id = some ob) : Good X ol o σ e M I H s r := by
  unfold updL at h
  split at h
  case h_2 => cases h
  rename_i kt et id k v hm hx hy hz
  split at h
  case h_2 => cases h
  rename_i key es kt' hk hg
  split at h
  case isFalse => cases h
  rename_i hc
  obtain ⟨c1, c2, rfl, c3⟩ := hc
  split at h
  case h_2 => cases h
  rename_i es' hdr
  obtain ⟨vx, h1, h2⟩ := hO _ _ hx
  obtain ⟨vy, h3, h4⟩ := hO _ _ hy
  obtain ⟨vz, h5, h6⟩ := hO _ _ hz
  simp only [VR] at h2; obtain ⟨b, x', e1, rfl⟩ := h2
  have hkey := toV_VR h4 hk; subst hkey
  have hKV : KeyV X.P kt' vy := Option.isSome_iff_exists.1 c2
  obtain ⟨s1, s2, s3, s4, s5⟩ := setO_some h
  have hM := hfp id (by rw [s3]; exact .head _) _ hg
  obtain ⟨b2, f1, f2, f3, f4⟩ := hR.ob id _ hM
  rw [e1] at f1; cases f1
  obtain ⟨k1, k2⟩ := spec_update (X.keyedOk c1) (mapOf_und hm) hop h1 h3 h5 f3 hKV
  refine Good.set h ⟨_, hg⟩ (Eff.spec hw k1 (k2.mono fun sv H2 ⟨q1, ob, q2, q3⟩ => ?_))
  subst q2
  refine ⟨e, undef, .inr ⟨q1, hd⟩, Env.le_refl e, fun _ _ => rfl, by simp only [VR], hR.write e1 f2 hM rfl ?_⟩
  refine ⟨b, e1, f2, q3.congr fun y u => ?_, fun k hk => ?_⟩
  · constructor
    · rintro ⟨k, hk, rfl, hu⟩
      rcases List.mem_cons.1 hk with rfl | hk
      · exact .inl ⟨rfl, VR.func c3 hu h6⟩
      · obtain ⟨a, b⟩ := (dropK_mem hdr k).1 hk
        exact .inr ⟨b, k, a, rfl, hu⟩
    · rintro (⟨rfl, rfl⟩ | ⟨hne, k, hk, rfl, hu⟩)
      · exact ⟨_, .head _, rfl, h6⟩
      · exact ⟨k, .tail _ ((dropK_mem hdr k).2 ⟨hk, hne⟩), rfl, hu⟩
  · rcases List.mem_cons.1 hk with rfl | hk
    · exact ⟨⟨_, h6⟩, c3⟩
    · exact f4 k ((dropK_mem hdr k).1 hk).1
theorem mkMap_sound {mt : TypeId} (hop : o.op = .makeMap mt none) (hw : wantedS ol σ o = some true) {s : KS} {r : HR} (h : mkMapL X.P mt s = some r) (hR : Rel X e M I H) (hfr : M s.c = none ∧ e s.c = none) : Good X ol o σ e M I H s r := by
  unfold mkMapL at h
  split at h
  · rename_i kt et hm
    obtain ⟨k1, k2⟩ := spec_makeMap (P := X.P) (σ := σ) (H := H) hop
    refine Good.new h (Eff.spec hw k1 (k2.mono fun sv H2 ⟨b, hb, q1, q2⟩ => ?_))
    subst q2
    refine ⟨e.up s.c (.blk b 0), _, .inl q1, Env.le_up hfr.2, fun id hid => Env.up_other (by omega), by simp only [VR]; exact ⟨b, 0, Env.up_self _ _ _, rfl⟩, hR.fresh hfr.2 hfr.1 hb ?_⟩
    refine ⟨b, Env.up_self _ _ _, PH.le_none hR.le hb, (MapAt.empty (by simp [PH.put])).congr fun y u => by simp, fun k hk => by cases hk⟩
  · cases h
end
end Go.Ke
end
section
namespace Go.Ke
open Go Go.Sx
 noncomputable def convB (P : Program) (a d : TypeId) (x : Option LV) (s : KS) : Option HR :=
  match P.underlying a, P.underlying d, x with
  | some .string, some (.slice e), some (.v (.string b)) => match P.underlying e with
    | some (.int .u8) => newO s (.ro (b.data.toList.map fun c => .v (.int .u8 c.toNat))) (fun c => .sl c 0 b.size b.size false)
    | _ => none
  | _, _, _ => none
theorem conv_sound {X : Ctx} {ol : List Oper} {o : Oper} {σ : St} {e : Env} {M : LM} {I H : PH} {ρ : Rho} {a d : TypeId} {x : Operand} (hop : o.op = .convert a d x) (hw : wantedS ol σ o = some true) (hO : OR e ρ σ) {s : KS} {r : HR} (h : convB X.P a d (ρ x) s = some r) (hR : Rel X e M I H) (hfr : M s.c = none ∧ e s.c = none) : Good X ol o σ e M I H s r := by
  unfold convB at h
  split at h
  · rename_i el b ha hd hx
    split at h
    · rename_i he
      obtain ⟨z, h1, h2⟩ := hO _ _ hx
      simp only [VR] at h2; subst h2
      refine Good.new h (Eff.spec hw (knownS_of (by rw [hop]; rfl) (by rw [hop]; simp [Op.operands, h1])) fun w hw' => ?_)
      have hrun : (execOp (cenv σ) o).run X.P w = .ok (.value (.slice (some ⟨w.heap.size, 0, none⟩) b.size (grownCap w b.size 0 el))) (w.drew.alloc (.cells (bytesRow b (grownCap w b.size 0 el)) el ((bytesRow b (grownCap w b.size 0 el)).size, (bytesRow b (grownCap w b.size 0 el)).size + 1))) := by
        simp [execOp, hop, cenv_v h1, run_bytes_of_string w a d el b ha hd he, Result.andThen]
      rw [hrun]
      obtain ⟨n1, n2⟩ := Step.newD hw' (.cells (bytesRow b (grownCap w b.size 0 el)) el ((bytesRow b (grownCap w b.size 0 el)).size, (bytesRow b (grownCap w b.size 0 el)).size + 1))
      have hge := grownCap_ge w b.size 0 el
      refine ⟨_, n2, e.up s.c (.blk w.heap.size (grownCap w b.size 0 el - b.size)), _, .inl rfl, Env.le_up hfr.2, fun id hid => Env.up_other (by omega), ?_, hR.fresh hfr.2 hfr.1 n1 ?_⟩
      · simp only [VR]; exact ⟨_, _, Env.up_self _ _ _, by simp; omega⟩
      · refine ⟨w.heap.size, _, b.data.toList.map fun c => Value.int .u8 c.toNat, List.replicate (grownCap w b.size 0 el - b.size) (.int .u8 0), el, ((bytesRow b (grownCap w b.size 0 el)).size, (bytesRow b (grownCap w b.size 0 el)).size + 1), Env.up_self _ _ _, ?_, ?_⟩
        · simp only [PH.put, if_true]
          congr 2
          simp [bytesRow, ← Array.toList_inj]
        · have := VRs.map_v (e.up s.c (.blk w.heap.size (grownCap w b.size 0 el - b.size))) (b.data.toList.map fun c => Value.int .u8 c.toNat)
          simpa [Function.comp_def] using this
    · cases h
  · cases h
 noncomputable def clipL (P : Program) (T : TypeId) (x y z : Option LV) (s : KS) : Option HR :=
  match slOf P T, x, y, z with
  | some _, some (.sl id off _ cap _), some (.v (.int _ h)), some (.v (.int _ m)) => if 0 ≤ h ∧ h ≤ m ∧ m ≤ cap then some ⟨.sl id off h.toNat m.toNat true, s, [], []⟩ else none
  | some _, some (.v (.slice none 0 0)), some (.v (.int _ h)), some (.v (.int _ m)) => if h = 0 ∧ m = 0 then some ⟨.v (.slice none 0 0), s, [], []⟩ else none
  | _, _, _, _ => none
theorem clip_sound {X : Ctx} {ol : List Oper} {o : Oper} {σ : St} {e : Env} {M : LM} {I H : PH} {ρ : Rho} {T : TypeId} {x y z : Operand} (hop : o.op = .slice T x none (some y) (some z)) (hw : wantedS ol σ o = some true) (hO : OR e ρ σ) {s : KS} {r : HR} (h : clipL X.P T (ρ x) (ρ y) (ρ z) s = some r) (hR : Rel X e M I H) : Good X ol o σ e M I H s r := by
  unfold clipL at h
  split at h
  · rename_i es id off len cap ex k1 hh k2 m hs hx hy hz
    obtain ⟨el, size, bytes⟩ := es
    split at h
    · rename_i hc
      cases h
      obtain ⟨i, q, hu, hi, hz0, a4, a5, a6, a7⟩ := slOf_SlT hs
      obtain ⟨vx, h1, h2⟩ := hO _ _ hx
      obtain ⟨vy, h3, h4⟩ := hO _ _ hy
      obtain ⟨vz, h5, h6⟩ := hO _ _ hz
      simp only [VR] at h2 h4 h6; obtain ⟨b, x', e1, rfl⟩ := h2
      subst h4; subst h6
      obtain ⟨hn, rfl⟩ := Int.eq_ofNat_of_zero_le hc.1
      obtain ⟨mn, rfl⟩ := Int.eq_ofNat_of_zero_le (show 0 ≤ m by omega)
      obtain ⟨k1, k2⟩ := spec_slice3 (H := H) (h := hn) (m := mn) hop hu ⟨i, hi, a4⟩ h1 h3 h5 (by omega) (by split <;> omega)
      refine Good.look rfl rfl (Eff.spec hw k1 (k2.mono fun sv H2 ⟨q1, q2⟩ => ?_))
      subst q2
      refine ⟨e, _, .inl q1, Env.le_refl e, fun _ _ => rfl, ?_, hR⟩
      simp only [VR]
      refine ⟨b, x', e1, ?_⟩
      simp [slA, Addr.add]
    · cases h
  · rename_i es k1 hh k2 m hs hx hy hz
    obtain ⟨el, size, bytes⟩ := es
    split at h
    · rename_i hc
      obtain ⟨rfl, rfl⟩ := hc
      cases h
      obtain ⟨i, q, hu, hi, hz0, a4, a5, a6, a7⟩ := slOf_SlT hs
      obtain ⟨vx, h1, h2⟩ := hO _ _ hx
      obtain ⟨vy, h3, h4⟩ := hO _ _ hy
      obtain ⟨vz, h5, h6⟩ := hO _ _ hz
      simp only [VR] at h2 h4 h6
      subst h2; subst h4; subst h6
      obtain ⟨k1, k2⟩ := spec_slice3 (H := H) (h := 0) (m := 0) hop hu ⟨i, hi, a4⟩ h1 h3 h5 (by omega) (by omega)
      refine Good.look rfl rfl (Eff.spec hw k1 (k2.mono fun sv H2 ⟨q1, q2⟩ => ?_))
      subst q2
      refine ⟨e, _, .inl q1, Env.le_refl e, fun _ _ => rfl, ?_, hR⟩
      simp [VR, slA]
    · cases h
  · cases h
 noncomputable def opE (X : Ctx) (ρ : Rho) (o : Oper) (s : KS) : Option HR :=
  match opP X.P ρ o.op with
  | some v => some ⟨v, s, [], []⟩
  | none => match o.op with
    | .load T x => loadL X.P T (ρ x) s
    | .alloc T => allocL X.P T s
    | .box T x => boxL X.P T (ρ x) s
    | .store T x y => if o.dst = none then storeL X.P T (ρ x) (ρ y) s else none
    | .buildSlice t len parts => bslL X.P t len (allPL ρ parts.toList) s
    | .makeMap mt none => mkMapL X.P mt s
    | .lookup mt x y true => lookL X mt (ρ x) (ρ y) s
    | .convert a d x => convB X.P a d (ρ x) s
    | .slice T x none (some y) (some z) => clipL X.P T (ρ x) (ρ y) (ρ z) s
    | .mapUpdate mt x y z => if o.dst = none then updL X mt (ρ x) (ρ y) (ρ z) s else none
    | .insert mt x y z => if o.dst = none then updL X mt (ρ x) (ρ y) (ρ z) s else none
    | .call ⟨.builtin .append, args, tys⟩ => match args.toList, tys.toList with
      | [x, y], [t, t'] => appL X.P t t' (ρ x) (ρ y) s
      | _, _ => none
    | _ => none
theorem opE_sound {X : Ctx} {ol : List Oper} {o : Oper} {σ : St} {e : Env} {M : LM} {I H : PH} {ρ : Rho} (hw : wantedS ol σ o = some true) (hO : OR e ρ σ) {s : KS} {r : HR} (h : opE X ρ o s = some r) (hR : Rel X e M I H)
    (hfp : ∀ id ∈ r.fp, ∀ ob, s.L.get id = some ob → M id = some ob) (hfr : ∀ id, s.c ≤ id → id < r.s.c → M id = none ∧ e id = none) : Good X ol o σ e M I H s r := by
  unfold opE at h
  split at h
  · rename_i v hv
    cases h
    exact Good.look rfl rfl (Eff.pure hw hR (opP_sound hO hv) _)
  · split at h
    · rename_i T x hop
      obtain ⟨a, b, c⟩ := load_sound hop hw hO h hR hfp
      exact Good.look a b (c _)
    · rename_i T hop
      have hc : r.s.c = s.c + 1 := by
        have h' := h
        unfold allocL at h'; split at h'
        · exact (newO_some h').2.1
        · cases h'
      exact alloc_sound hop hw h hR (hfr s.c (Nat.le_refl _) (by omega))
    · rename_i T x hop
      have hc : r.s.c = s.c + 1 := by
        have h' := h
        unfold boxL at h'; split at h'
        · exact (newO_some h').2.1
        · cases h'
      exact box_sound hop hw hO h hR (hfr s.c (Nat.le_refl _) (by omega))
    · rename_i T x y hop
      split at h
      · rename_i hd; exact store_sound hop hd hw hO h hR hfp
      · cases h
    · rename_i t len parts hop
      have hc : r.s.c = s.c + 1 := by
        have h' := h
        unfold bslL at h'; split at h'
        · split at h'
          · exact (newO_some h').2.1
          · cases h'
        · cases h'
      exact bsl_sound hop hw hO h hR (hfr s.c (Nat.le_refl _) (by omega))
    · rename_i mt hop
      have hc : r.s.c = s.c + 1 := by
        have h' := h
        unfold mkMapL at h'; split at h'
        · exact (newO_some h').2.1
        · cases h'
      exact mkMap_sound hop hw h hR (hfr s.c (Nat.le_refl _) (by omega))
    · rename_i mt x y hop
      exact look_sound hop hw hO h hR hfp
    · rename_i a d x hop
      have hc : r.s.c = s.c + 1 := by
        have h' := h
        unfold convB at h'; split at h'
        · split at h'
          · exact (newO_some h').2.1
          · cases h'
        · cases h'
      exact conv_sound hop hw hO h hR (hfr s.c (Nat.le_refl _) (by omega))
    · rename_i T x y z hop
      exact clip_sound hop hw hO h hR
    · rename_i mt x y z hop
      split at h
      · rename_i hd; exact upd_sound (.inl hop) hd hw hO h hR hfp
      · cases h
    · rename_i mt x y z hop
      split at h
      · rename_i hd; exact upd_sound (.inr hop) hd hw hO h hR hfp
      · cases h
    · rename_i args tys hop
      split at h
      · rename_i x y t t' ha ht
        have e1 : args = #[x, y] := by rw [← Array.toList_inj]; simpa using ha
        have e2 : tys = #[t, t'] := by rw [← Array.toList_inj]; simpa using ht
        subst e1; subst e2
        exact app_sound hop hw hO h hR hfp hfr
      · cases h
    · cases h
end Go.Ke
end
section
namespace Go.Ke
open Go Go.Sx
 noncomputable def evR (τ : Tr LV) (G : Nat) : Rho
  | .tmp t => τ.get t
  | .const v => some (.v v)
  | .global g => if g < G then some (.p g 0) else none
  | .func f => some (.f (.func f) [] [])
 noncomputable def GE (G : Nat) (e : Env) : Prop := ∀ g, g < G → e g = some (.blk g 0)
structure SR (e : Env) (τ : Tr LV) (N : Nat) (σ : St) : Prop where
  bx : σ.bx = []
  len : σ.tm.length = N
  tm : ∀ t v, τ.get t = some v → ∃ y, getT σ.tm t = .v y ∧ VR e v y
theorem SR.mono {e e' : Env} {τ : Tr LV} {N : Nat} {σ : St} (h : SR e τ N σ) (k : e.le e') : SR e' τ N σ := ⟨h.bx, h.len, fun t v ht => let ⟨y, a, b⟩ := h.tm t v ht; ⟨y, a, b.mono k⟩⟩
theorem SR.or {e : Env} {τ : Tr LV} {N : Nat} {σ : St} (h : SR e τ N σ) {G : Nat} (g : GE G e) : OR e (evR τ G) σ := by
  intro x v hx
  cases x with
  | tmp t => exact h.tm t v hx
  | const c => simp only [evR, Option.some.injEq] at hx; subst hx; exact ⟨c, rfl, by simp only [VR]⟩
  | global n =>
    simp only [evR] at hx
    split at hx
    · rename_i hn; cases hx; exact ⟨_, rfl, by simp only [VR]; exact ⟨n, 0, g n hn, rfl⟩⟩
    · cases hx
  | func f => simp only [evR, Option.some.injEq] at hx; subst hx; exact ⟨_, rfl, by simp only [VR]; exact ⟨[], [], rfl, by simp [VRs], by simp [VRs]⟩⟩
 noncomputable def putT (τ : Tr LV) (N : Nat) (d : Option Tmp) (v : LV) : Option (Tr LV) :=
  match d with
  | none => some τ
  | some d => if d < N then τ.put d v else none
theorem getT_setT (l : List SV) (n m : Nat) (y : SV) : getT (setT l n y) m = if n = m ∧ n < l.length then y else getT l m := by
  rw [getT_getElem?, setT_getElem?, getT_getElem?]
  by_cases e : n = m
  · subst e
    by_cases h : n < l.length
    · simp [h]
    · simp [h, List.getElem?_eq_none (Nat.le_of_not_lt h)]
  · simp [e]
theorem SR.put {e : Env} {τ τ' : Tr LV} {N : Nat} {σ : St} (h : SR e τ N σ) {d : Option Tmp} {v : LV} {y : Value} (hp : putT τ N d v = some τ') (hv : VR e v y) : SR e τ' N (σ.put d (.v y)) := by
  cases d with
  | none => simp only [putT, Option.some.injEq] at hp; subst hp; exact h
  | some d =>
    simp only [putT] at hp
    split at hp
    · rename_i hd
      refine ⟨h.bx, by simp [St.put, setT_length, h.len], fun t w ht => ?_⟩
      rw [Tr.get_put hp] at ht
      simp only [St.put, getT_setT]
      by_cases e1 : t = d
      · subst e1
        rw [if_pos rfl] at ht; cases ht
        rw [if_pos ⟨rfl, by rw [h.len]; exact hd⟩]
        exact ⟨y, rfl, hv⟩
      · rw [if_neg e1] at ht
        rw [if_neg (fun h => e1 h.1.symm)]
        exact h.tm t w ht
    · cases hp
 noncomputable def wantedL (ol : List Oper) (τ : Tr LV) (o : Oper) : Option Bool :=
  match o.guard with
  | none => some true
  | some (j, want) => match ol[j]? with
    | some o' => match o'.dst with
      | some t => match τ.get t with
        | some (.v (.bool b)) => some (b == want)
        | some (.v (.tuple _)) => some false
        | some (.tu _) => some false
        | _ => none
      | none => none
    | none => none
 noncomputable def guardT (ol : List Oper) (o : Oper) : Option Tmp := match o.guard with | none => none | some (j, _) => (ol[j]?).bind (·.dst)
theorem wantedL_ok {ol : List Oper} {τ : Tr LV} {o : Oper} {r : Bool} (h : wantedL ol τ o = some r) {e : Env} {σ : St} (k : ∀ t, guardT ol o = some t → ∀ v, τ.get t = some v → ∃ y, getT σ.tm t = .v y ∧ VR e v y) : wantedS ol σ o = some r := by
  unfold wantedL at h; unfold wantedS
  unfold guardT at k
  cases hg : o.guard with
  | none => rw [hg] at h; exact h
  | some p =>
    obtain ⟨j, want⟩ := p
    rw [hg] at h k
    simp only at h k ⊢
    cases ho : ol[j]? with
    | none => rw [ho] at h; cases h
    | some o' =>
      rw [ho] at h k
      simp only [Option.bind_some] at h k ⊢
      cases hd : o'.dst with
      | none => rw [hd] at h; cases h
      | some t =>
        rw [hd] at h k
        simp only at h ⊢
        have k' := k t rfl
        split at h
        · rename_i b hb
          obtain ⟨y, h1, h2⟩ := k' _ hb
          simp only [VR] at h2; subst h2
          rw [h1]; exact h
        · rename_i b hb
          obtain ⟨y, h1, h2⟩ := k' _ hb
          simp only [VR] at h2; subst h2
          rw [h1]; exact h
        · rename_i b hb
          obtain ⟨y, h1, h2⟩ := k' _ hb
          simp only [VR] at h2; obtain ⟨cs', rfl, _⟩ := h2
          rw [h1]; exact h
        · cases h
abbrev CallF := FuncId → List LV → KS → Option (LV × KS × List Nat)
 noncomputable def Fresh (M : LM) (e : Env) (lo hi : Nat) : Prop := ∀ id, lo ≤ id → id < hi → M id = none ∧ e id = none
 noncomputable def Has (M : LM) (L : Tr LO) : Prop := ∀ id ob, L.get id = some ob → M id = some ob
 noncomputable def HasX (hd : List Nat) (M : LM) (L : Tr LO) : Prop := ∀ id ob, L.get id = some ob → id ∉ hd → M id = some ob
theorem Has.x {M : LM} {L : Tr LO} {hd : List Nat} (h : Has M L) : HasX hd M L := fun id ob k _ => h id ob k
theorem HasX.nil {M : LM} {L : Tr LO} (h : HasX [] M L) : Has M L := fun id ob k => h id ob k List.not_mem_nil
structure CallOkH (X : Ctx) (G : Nat) (hd : List Nat) (call : CallF) : Prop where
  goes : ∀ {f args s r}, call f args s = some r → Goes X.P f
  cle : ∀ {f args s v s' ws}, call f args s = some (v, s', ws) → s.c ≤ s'.c
  keep : ∀ {f args s v s' ws}, call f args s = some (v, s', ws) → ∀ id, id ∉ ws → ¬ (s.c ≤ id ∧ id < s'.c) → s'.L.get id = s.L.get id
  sub : ∀ {f args s v s' ws}, call f args s = some (v, s', ws) → ∀ id ∈ ws, ∃ ob, s.L.get id = some ob
  does : ∀ {f args s v s' ws}, call f args s = some (v, s', ws) → ∀ {M e I H args'}, HasX hd M s.L → (∀ id, s.c ≤ id → s.L.get id = none) → Fresh M e s.c s'.c → GE G e → Rel X e M I H → VRs e args args' →
    Does X.P f args'.toArray H fun y H2 => ∃ e2 I2, e.le e2 ∧ (∀ id, ¬ (s.c ≤ id ∧ id < s'.c) → e2 id = e id) ∧ VR e2 v y ∧ Rel X e2 (ovl M ws s.c s'.c s'.L) I2 H2 ∧ I.le I2
 noncomputable def CallOk (X : Ctx) (G : Nat) (call : CallF) : Prop := CallOkH X G [] call
 noncomputable def delL : List Nat → Tr LO → Tr LO
  | [], L => L
  | id :: l, L => delL l (L.del id)
 noncomputable def addL (L0 : Tr LO) : List Nat → Tr LO → Tr LO
  | [], L => L
  | id :: l, L => addL L0 l (match L0.get id with | some ob => Tr.set L id ob | none => L)
theorem get_delL : ∀ (hd : List Nat) (L : Tr LO) (id : Nat), (delL hd L).get id = if id ∈ hd then none else L.get id
  | [], L, id => by simp [delL]
  | j :: l, L, id => by
    simp only [delL]; rw [get_delL l, Tr.get_del]
    by_cases h : id ∈ l
    · simp [h]
    · by_cases e : id = j <;> simp [h, e]
theorem get_addL {L0 : Tr LO} : ∀ (hd : List Nat) (L : Tr LO) (id : Nat), (∀ j ∈ hd, j < 2147483647) → (addL L0 hd L).get id = if id ∈ hd ∧ (L0.get id).isSome = true then L0.get id else L.get id
  | [], L, id, _ => by simp [addL]
  | j :: l, L, id, h => by
    simp only [addL]; rw [get_addL l _ id (fun k hk => h k (.tail _ hk))]
    have hj := h j (.head _)
    by_cases hl : id ∈ l ∧ (L0.get id).isSome = true
    · rw [if_pos hl, if_pos ⟨.tail _ hl.1, hl.2⟩]
    · rw [if_neg hl]
      by_cases e : id = j
      · subst e
        cases hg : L0.get id with
        | none => simp
        | some ob => simp only []; rw [Tr.get_set _ _ _ _ (by omega)]; simp
      · rw [if_neg (fun k => hl ⟨(List.mem_cons.1 k.1).resolve_left e, k.2⟩)]
        split
        · rw [Tr.get_set _ _ _ _ (by omega), if_neg e]
        · rfl
 noncomputable def hideC (hd : List Nat) (call : CallF) : CallF := fun f args s => match hd with
  | [] => call f args s
  | hd => if hd.all (fun id => decide (id < s.c ∧ id < 2147483647)) = true then match call f args ⟨delL hd s.L, s.c⟩ with
    | some (v, s1, ws) => some (v, ⟨addL s.L hd s1.L, s1.c⟩, ws)
    | none => none
    else none
theorem hideC_s {hd : List Nat} {call : CallF} {f : FuncId} {args : List LV} {s s' : KS} {v : LV} {ws : List Nat} (h : hideC hd call f args s = some (v, s', ws)) :
    (hd = [] ∧ call f args s = some (v, s', ws)) ∨ ((∀ id ∈ hd, id < s.c ∧ id < 2147483647) ∧ ∃ s1, call f args ⟨delL hd s.L, s.c⟩ = some (v, s1, ws) ∧ s' = ⟨addL s.L hd s1.L, s1.c⟩) := by
  unfold hideC at h
  split at h
  · exact .inl ⟨rfl, h⟩
  · split at h
    · rename_i hh
      split at h
      · rename_i v1 s1 ws1 hc
        cases h
        exact .inr ⟨fun id hid => of_decide_eq_true (List.all_eq_true.1 hh id hid), s1, hc, rfl⟩
      · cases h
    · cases h
theorem hideC_ok {X : Ctx} {G : Nat} {call : CallF} (hC : CallOk X G call) (hd : List Nat) : CallOkH X G hd (hideC hd call) where
  goes := by
    intro f args s r h
    obtain ⟨v, s', ws⟩ := r
    rcases hideC_s h with ⟨_, h⟩ | ⟨_, s1, h, _⟩ <;> exact hC.goes h
  cle := by
    intro f args s v s' ws h
    rcases hideC_s h with ⟨_, h'⟩ | ⟨_, s1, h', rfl⟩
    · exact hC.cle h'
    · have := hC.cle h'; exact this
  keep := by
    intro f args s v s' ws h id h1 h2
    rcases hideC_s h with ⟨_, h'⟩ | ⟨hb, s1, h', rfl⟩
    · exact hC.keep h' id h1 h2
    · have := hC.keep h' id h1 h2
      simp only at this ⊢
      rw [get_addL hd _ id fun j hj => (hb j hj).2]
      split
      · rfl
      · rename_i hn
        rw [this, get_delL]
        split
        · rename_i hm
          cases hg : s.L.get id with
          | none => rfl
          | some ob => exact absurd ⟨hm, by rw [hg]; rfl⟩ hn
        · rfl
  sub := by
    intro f args s v s' ws h id hid
    rcases hideC_s h with ⟨_, h'⟩ | ⟨hb, s1, h', rfl⟩
    · exact hC.sub h' id hid
    · obtain ⟨ob, h1⟩ := hC.sub h' id hid
      simp only at h1
      rw [get_delL] at h1
      split at h1
      · cases h1
      · exact ⟨ob, h1⟩
  does := by
    intro f args s v s' ws h M e I H args' hM hbd hf hG hR ha
    rcases hideC_s h with ⟨rfl, h'⟩ | ⟨hb, s1, h', rfl⟩
    · exact hC.does h' hM hbd hf hG hR ha
    · have hM2 : HasX [] M (delL hd s.L) := by
        intro id ob h1 _
        rw [get_delL] at h1
        split at h1
        · cases h1
        · rename_i hn; exact hM id ob h1 hn
      have := hC.does h' (M := M) (e := e) hM2 (fun id hid => by rw [get_delL]; split; rfl; exact hbd id hid) hf hG hR ha
      have e1 : ovl M ws s.c s1.c (addL s.L hd s1.L) = ovl M ws s.c s1.c s1.L := by
        funext id
        unfold ovl
        by_cases hc : id ∈ ws ∨ (s.c ≤ id ∧ id < s1.c)
        · rw [if_pos hc, if_pos hc, get_addL hd _ id fun j hj => (hb j hj).2, if_neg]
          rintro ⟨k1, _⟩
          rcases hc with hc | hc
          · obtain ⟨ob, h1⟩ := hC.sub h' id hc
            simp only at h1
            rw [get_delL, if_pos k1] at h1; cases h1
          · have := (hb id k1).1; omega
        · rw [if_neg hc, if_neg hc]
      simp only
      rw [e1]
      exact this
end Go.Ke
end
section
namespace Go.Ke
open Go Go.Sx
theorem allL_congr {ρ ρ' : Rho} : ∀ {l : List Operand}, (∀ x ∈ l, ρ x = ρ' x) → allL ρ l = allL ρ' l
  | [], _ => rfl
  | x :: l, h => by simp only [allL]; rw [h x (.head _), allL_congr fun y hy => h y (.tail _ hy)]
theorem allPL_congr {ρ ρ' : Rho} : ∀ {l : List (Nat × Operand)}, (∀ x ∈ l, ρ x.2 = ρ' x.2) → allPL ρ l = allPL ρ' l
  | [], _ => rfl
  | (i, x) :: l, h => by simp only [allPL]; rw [h (i, x) (.head _), allPL_congr fun y hy => h y (.tail _ hy)]
theorem callL_congr {P : Program} {ρ ρ' : Rho} {c : Call} (h : ∀ x ∈ c.args.toList, ρ x = ρ' x) : callL P ρ c = callL P ρ' c := by
  unfold callL
  split
  · rename_i x t hc ha ht; rw [ha] at h; rw [h _ (.head _)]
  · rename_i x t hc ha ht; rw [ha] at h; rw [h _ (.head _)]
  · rename_i x y hc ha; rw [ha] at h; rw [h _ (.head _), h _ (.tail _ (.head _))]
  · rename_i x y hc ha; rw [ha] at h; rw [h _ (.head _), h _ (.tail _ (.head _))]
  · rfl
theorem opP_congr {P : Program} {ρ ρ' : Rho} {op : Op} (h : ∀ x ∈ op.operands, ρ x = ρ' x) : opP P ρ op = opP P ρ' op := by
  cases op <;> simp only [opP] <;> simp only [Op.operands] at h
  case build T ps =>
    rw [allPL_congr (l := ps.toList) fun x hx => h x.2 (by simpa using ⟨x.1, by simpa using hx⟩)]
  case slice T x lo hi mx =>
    have hx := h x (by simp)
    have hl : lo.map ρ = lo.map ρ' := by
      cases lo with
      | none => rfl
      | some z => simp only [Option.map_some]; rw [h z (by simp)]
    have hh : hi.map ρ = hi.map ρ' := by
      cases hi with
      | none => rfl
      | some z => simp only [Option.map_some]; rw [h z (by simp)]
    cases mx with
    | none => simp only []; rw [hx, hl, hh]
    | some _ => rfl
  case makeFunc fn f c =>
    rw [allL_congr (l := f.toList) fun x hx => h x (by simp; exact .inl (by simpa using hx)), allL_congr (l := c.toList) fun x hx => h x (by simp; exact .inr (by simpa using hx))]
  case call c =>
    exact callL_congr fun x hx => h x (by simp only [Call.operands]; simp; exact .inr (by simpa using hx))
  case move x => rw [h x (by simp)]
  case assign x => rw [h x (by simp)]
  case pick c x y => rw [h c (by simp), h x (by simp), h y (by simp)]
  case fieldAddr T x f => rw [h x (by simp)]
  case nilCheck x => rw [h x (by simp)]
  case indexAddr T x i => rw [h x (by simp), h i (by simp)]
  case index T x i => rw [h x (by simp), h i (by simp)]
  case field T x f => rw [h x (by simp)]
  case extract x n => rw [h x (by simp)]
  case binOp bo T x y T2 => rw [h x (by simp), h y (by simp)]
  case unOp u T x => rw [h x (by simp)]
  case convert s d x => rw [h x (by simp)]
  case makeInterface T x => rw [h x (by simp)]
theorem opE_congr {X : Ctx} {ρ ρ' : Rho} {o : Oper} {s : KS} (h : ∀ x ∈ o.op.operands, ρ x = ρ' x) : opE X ρ o s = opE X ρ' o s := by
  unfold opE
  rw [opP_congr h]
  split
  · rfl
  · split
    · rename_i T x hop; rw [hop] at h; simp only [Op.operands] at h; rw [h x (by simp)]
    · rfl
    · rename_i T x hop; rw [hop] at h; simp only [Op.operands] at h; rw [h x (by simp)]
    · rename_i T x y hop; rw [hop] at h; simp only [Op.operands] at h; rw [h x (by simp), h y (by simp)]
    · rename_i t len parts hop; rw [hop] at h; simp only [Op.operands] at h
      rw [allPL_congr (l := parts.toList) fun x hx => h x.2 (by simpa using ⟨x.1, by simpa using hx⟩)]
    · rfl
    · rename_i mt x y hop; rw [hop] at h; simp only [Op.operands] at h; rw [h x (by simp), h y (by simp)]
    · rename_i a d x hop; rw [hop] at h; simp only [Op.operands] at h; rw [h x (by simp)]
    · rename_i T x y z hop; rw [hop] at h; simp only [Op.operands] at h; rw [h x (by simp), h y (by simp), h z (by simp)]
    · rename_i mt x y z hop; rw [hop] at h; simp only [Op.operands] at h; rw [h x (by simp), h y (by simp), h z (by simp)]
    · rename_i mt x y z hop; rw [hop] at h; simp only [Op.operands] at h; rw [h x (by simp), h y (by simp), h z (by simp)]
    · rename_i args tys hop; rw [hop] at h
      simp only [Op.operands, Call.operands] at h
      split
      · rename_i x y t t' ha ht
        have e1 : args = #[x, y] := by rw [← Array.toList_inj]; simpa using ha
        subst e1
        rw [h x (by simp), h y (by simp)]
      · rfl
    · rfl
 noncomputable def callOf (ρ : Rho) (op : Op) : Option (FuncId × List LV) :=
  match op with
  | .call ⟨.value x, aq, _⟩ => match ρ x, allL ρ aq.toList with
    | some (.f (.func f) l c), some as => some (f, l ++ as ++ c)
    | _, _ => none
  | _ => none
theorem callOf_congr {ρ ρ' : Rho} {op : Op} (h : ∀ x ∈ op.operands, ρ x = ρ' x) : callOf ρ op = callOf ρ' op := by
  unfold callOf
  split
  · rename_i x aq ts
    simp only [Op.operands, Call.operands] at h
    rw [h x (by simp), allL_congr (l := aq.toList) fun y hy => h y (by simp; exact .inr (by simpa using hy))]
  · rfl
end Go.Ke
end
section
namespace Go.Ke
open Go Go.Sx
structure SR1 where
  v : LV
  s : KS
  fp : List Nat
  ws : List Nat
  cl : Bool
 noncomputable def stepV0 (X : Ctx) (G : Nat) (call : CallF) (ol : List Oper) (o : Oper) (τ : Tr LV) (s : KS) : Option SR1 :=
  match wantedL ol τ o with
  | none => none
  | some false => some ⟨.v undef, s, [], [], false⟩
  | some true => match callOf (evR τ G) o.op with
    | some (f, args) => match call f args s with
      | some (v, s', ws) => some ⟨v, s', [], ws, true⟩
      | none => none
    | none => match opE X (evR τ G) o s with
      | some r => some ⟨r.res, r.s, r.fp, r.ws, false⟩
      | none => none
inductive Dsp where
  | call (x : Operand) (aq : List Operand)
  | fn (g : Rho → KS → Option HR)
 noncomputable def orE (v : Option LV) (s : KS) (r : Option HR) : Option HR := match v with | some v => some ⟨v, s, [], []⟩ | none => r
 noncomputable def callV (ρ : Rho) (x : Operand) (aq : List Operand) : Option (FuncId × List LV) :=
  match ρ x, allL ρ aq with
  | some (.f (.func f) l c), some as => some (f, l ++ as ++ c)
  | _, _ => none
 noncomputable def disp (X : Ctx) (o : Oper) : Dsp :=
  match o.op with
  | .call ⟨.value x, aq, _⟩ => .call x aq.toList
  | .move x => .fn fun ρ s => orE (ρ x) s none
  | .assign x => .fn fun ρ s => orE (ρ x) s none
  | .pick c x y => .fn fun ρ s => orE (pickL (ρ c) (ρ x) (ρ y)) s none
  | .nilCheck x => .fn fun ρ s => orE (atL 0 (ρ x)) s none
  | .indexAddr T x i => .fn fun ρ s => orE (ixL (elOf X.P T) (ρ x) (ρ i)) s none
  | .fieldAddr T x f => match fieldOf X.P T f with | some (n, _) => .fn fun ρ s => orE (atL n (ρ x)) s none | none => .fn fun _ _ => none
  | .binOp op T x y _ => .fn fun ρ s => orE (binL X.P op T (isC x || isC y) (ρ x) (ρ y)) s none
  | .load T x => .fn fun ρ s => loadL X.P T (ρ x) s
  | .alloc T => .fn fun _ s => allocL X.P T s
  | .box T x => .fn fun ρ s => boxL X.P T (ρ x) s
  | .store T x y => if o.dst = none then .fn fun ρ s => storeL X.P T (ρ x) (ρ y) s else .fn fun _ _ => none
  | .buildSlice t len parts => .fn fun ρ s => bslL X.P t len (allPL ρ parts.toList) s
  | .extract x n => .fn fun ρ s => orE (match ρ x with | some (.tu l) => l[n]? | some (.v (.tuple l)) => (l.toList[n]?).map .v | _ => none) s none
  | .build T ps => .fn fun ρ s => orE (match allPL ρ ps.toList with | some l => buildL X.P T l | none => none) s none
  | _ => .fn fun ρ s => opE X ρ o s
theorem disp_call {X : Ctx} {o : Oper} {x : Operand} {aq : List Operand} (h : disp X o = .call x aq) (ρ : Rho) : callOf ρ o.op = callV ρ x aq := by
  unfold disp at h
  split at h
  case h_1 y as ts hop => cases h; rw [hop]; rfl
  case h_7 T y f hop => split at h <;> cases h
  case h_12 T y z hop => split at h <;> cases h
  all_goals cases h
theorem disp_fn {X : Ctx} {o : Oper} {g : Rho → KS → Option HR} (h : disp X o = .fn g) (ρ : Rho) (s : KS) : callOf ρ o.op = none ∧ opE X ρ o s = g ρ s := by
  unfold disp at h
  split at h
  case h_1 => cases h
  case h_7 T y f hop =>
    split at h
    · rename_i n t hf; cases h; exact ⟨by rw [hop]; rfl, by unfold opE; rw [hop]; simp only [opP, hf]; rfl⟩
    · rename_i hf; cases h; exact ⟨by rw [hop]; rfl, by unfold opE; rw [hop]; simp only [opP, hf]⟩
  case h_12 T y z hop =>
    split at h
    · rename_i hd; cases h; exact ⟨by rw [hop]; rfl, by unfold opE; rw [hop]; simp only [opP, hd, if_true]⟩
    · rename_i hd; cases h; exact ⟨by rw [hop]; rfl, by unfold opE; rw [hop]; simp only [opP, if_neg hd]⟩
  case h_16 =>
    cases h
    refine ⟨?_, rfl⟩
    unfold callOf
    split
    · rename_i y as ts hop; exact (‹∀ x aq argTypes, o.op = Op.call ⟨.value x, aq, argTypes⟩ → False› y as ts hop).elim
    · rfl
  all_goals (rename_i hop; cases h; exact ⟨by rw [hop]; rfl, by unfold opE; rw [hop]; rfl⟩)
 noncomputable def stepV (X : Ctx) (G : Nat) (call : CallF) (ol : List Oper) (o : Oper) (τ : Tr LV) (s : KS) : Option SR1 :=
  match wantedL ol τ o with
  | none => none
  | some false => some ⟨.v undef, s, [], [], false⟩
  | some true => match disp X o with
    | .call x aq => (match callV (evR τ G) x aq with
      | some (f, args) => match call f args s with
        | some (v, s', ws) => some ⟨v, s', [], ws, true⟩
        | none => none
      | none => none)
    | .fn g => match g (evR τ G) s with
      | some ⟨v, s', fp, ws⟩ => some ⟨v, s', fp, ws, false⟩
      | none => none
theorem stepV_old {X : Ctx} {G : Nat} {call : CallF} {ol : List Oper} {o : Oper} {τ : Tr LV} {s : KS} {r : SR1} (h : stepV X G call ol o τ s = some r) : stepV0 X G call ol o τ s = some r := by
  unfold stepV at h; unfold stepV0
  split at h
  · cases h
  · exact h
  · split at h
    · rename_i x aq hd
      rw [disp_call hd]
      split at h
      · exact h
      · cases h
    · rename_i g hd
      obtain ⟨h1, h2⟩ := disp_fn hd (evR τ G) s
      rw [h1, h2]; simp only
      split at h
      · rename_i hg; rw [hg]; exact h
      · cases h
 noncomputable def looksT (ol : List Oper) (o : Oper) : List Tmp := (match guardT ol o with | some t => [t] | none => []) ++ o.op.operands.toList.filterMap fun | .tmp t => some t | _ => none
theorem looksT_op {ol : List Oper} {o : Oper} {t : Tmp} (h : .tmp t ∈ o.op.operands) : t ∈ looksT ol o := by
  unfold looksT
  refine List.mem_append_right _ (List.mem_filterMap.2 ⟨.tmp t, by simpa using h, rfl⟩)
theorem looksT_guard {ol : List Oper} {o : Oper} {t : Tmp} (h : guardT ol o = some t) : t ∈ looksT ol o := by
  unfold looksT; rw [h]; exact List.mem_append_left _ (.head _)
 noncomputable def StepOk (X : Ctx) (G : Nat) (hd : List Nat) (ol : List Oper) (o : Oper) (τ : Tr LV) (s : KS) (r : SR1) : Prop :=
  ∀ {M : LM} {e : Env} {I H : PH} {σ : St}, GE G e → Rel X e M I H → (∀ t ∈ looksT ol o, ∀ v, τ.get t = some v → ∃ y, getT σ.tm t = .v y ∧ VR e v y) → Fresh M e s.c r.s.c →
    (r.cl = true → HasX hd M s.L ∧ ∀ id, s.c ≤ id → s.L.get id = none) → (r.cl = false → ∀ id ∈ r.fp, ∀ ob, s.L.get id = some ob → M id = some ob) → Eff X ol o σ e I H r.v (ovl M r.ws s.c r.s.c r.s.L) s.c r.s.c
structure Step1 (X : Ctx) (G : Nat) (hd : List Nat) (ol : List Oper) (o : Oper) (τ : Tr LV) (s : KS) (r : SR1) : Prop where
  cle : s.c ≤ r.s.c
  keep : ∀ id, id ∉ r.ws → ¬ (s.c ≤ id ∧ id < r.s.c) → r.s.L.get id = s.L.get id
  sub : ∀ id ∈ r.ws, (∃ ob, s.L.get id = some ob) ∧ (r.cl = false → id ∈ r.fp)
  ok : StepOk X G hd ol o τ s r
theorem opE_static {X : Ctx} {ρ : Rho} {o : Oper} {s : KS} {r : HR} (h : opE X ρ o s = some r) : s.c ≤ r.s.c ∧ (∀ id, id ∉ r.ws → ¬ (s.c ≤ id ∧ id < r.s.c) → r.s.L.get id = s.L.get id) ∧ (∀ id ∈ r.ws, (∃ ob, s.L.get id = some ob) ∧ id ∈ r.fp) := by
  have look : ∀ {v : LV} {fp : List Nat}, r = ⟨v, s, fp, []⟩ → s.c ≤ r.s.c ∧ (∀ id, id ∉ r.ws → ¬ (s.c ≤ id ∧ id < r.s.c) → r.s.L.get id = s.L.get id) ∧ (∀ id ∈ r.ws, (∃ ob, s.L.get id = some ob) ∧ id ∈ r.fp) := by
    intro v fp hr; subst hr; exact ⟨Nat.le_refl _, fun _ _ _ => rfl, fun id hid => by cases hid⟩
  have new : ∀ {ob : LO} {v : Nat → LV}, newO s ob v = some r → s.c ≤ r.s.c ∧ (∀ id, id ∉ r.ws → ¬ (s.c ≤ id ∧ id < r.s.c) → r.s.L.get id = s.L.get id) ∧ (∀ id ∈ r.ws, (∃ ob, s.L.get id = some ob) ∧ id ∈ r.fp) := by
    intro ob v hn
    obtain ⟨h1, h2, h3, h4, h5⟩ := newO_some hn
    exact ⟨by omega, fun id _ h => by rw [h5, if_neg (by omega)], fun id hid => by rw [h4] at hid; cases hid⟩
  have set : ∀ {id : Nat} {ob : LO}, (∃ ob, s.L.get id = some ob) → setO s id ob = some r → s.c ≤ r.s.c ∧ (∀ id, id ∉ r.ws → ¬ (s.c ≤ id ∧ id < r.s.c) → r.s.L.get id = s.L.get id) ∧ (∀ id ∈ r.ws, (∃ ob, s.L.get id = some ob) ∧ id ∈ r.fp) := by
    intro id ob hg hn
    obtain ⟨h1, h2, h3, h4, h5⟩ := setO_some hn
    exact ⟨by omega, fun j hj _ => by rw [h5, if_neg (by rw [h4] at hj; simpa using hj)], fun j hj => by rw [h4] at hj; rw [h3]; rw [List.mem_singleton] at hj; subst hj; exact ⟨hg, .head _⟩⟩
  have app1 : ∀ {fp : List Nat} {el n : Nat} {cs : List LV}, appNew s fp [] (some s.L) el n cs = some r → s.c ≤ r.s.c ∧ (∀ id, id ∉ r.ws → ¬ (s.c ≤ id ∧ id < r.s.c) → r.s.L.get id = s.L.get id) ∧ (∀ id ∈ r.ws, (∃ ob, s.L.get id = some ob) ∧ id ∈ r.fp) := by
    intro fp el n cs hn
    obtain ⟨L0, h0, h1, h2, h3, h4, h5⟩ := appNew_some hn
    cases h0
    exact ⟨by omega, fun id _ h => by rw [h5, if_neg (by omega)], fun id hid => by rw [h4] at hid; cases hid⟩
  unfold opE at h
  split at h
  · cases h; exact look rfl
  · split at h
    · unfold loadL at h
      split at h
      · split at h
        · split at h
          · cases h; exact look rfl
          · cases h
        · split at h
          · cases h; exact look rfl
          · cases h
        · cases h
      · cases h
    · unfold allocL at h; split at h
      · exact new h
      · cases h
    · unfold boxL at h; split at h
      · exact new h
      · cases h
    · split at h
      · unfold storeL at h
        split at h
        · split at h
          · split at h
            · exact set ⟨_, by assumption⟩ h
            · cases h
          · cases h
        · cases h
      · cases h
    · unfold bslL at h; split at h
      · split at h
        · exact new h
        · cases h
      · cases h
    · unfold mkMapL at h; split at h
      · exact new h
      · cases h
    · unfold lookL at h
      split at h
      · split at h
        · split at h
          · split at h
            · cases h; exact look rfl
            · cases h; exact look rfl
            · cases h
          · cases h
        · cases h
      · cases h
    · unfold convB at h; split at h
      · split at h
        · exact new h
        · cases h
      · cases h
    · unfold clipL at h; split at h
      · split at h
        · cases h; exact look rfl
        · cases h
      · split at h
        · cases h; exact look rfl
        · cases h
      · cases h
    · split at h
      · unfold updL at h
        split at h
        · split at h
          · split at h
            · split at h
              · exact set ⟨_, by assumption⟩ h
              · cases h
            · cases h
          · cases h
        · cases h
      · cases h
    · split at h
      · unfold updL at h
        split at h
        · split at h
          · split at h
            · split at h
              · exact set ⟨_, by assumption⟩ h
              · cases h
            · cases h
          · cases h
        · cases h
      · cases h
    · split at h
      · unfold appL at h
        split at h
        · split at h
          · split at h
            · cases h; exact look rfl
            · split at h
              · cases h; exact look rfl
              · cases h
            · cases h
          · split at h
            · split at h
              · split at h
                · exact app1 h
                · cases h
              · split at h
                · split at h
                  · split at h
                    · split at h
                      · exact app1 h
                      · cases h
                    · split at h
                      · rename_i id _ _ _ _ _ _ _ _ _ _ _ hcc
                        obtain ⟨L0, h0, h1, h2, h3, h4, h5⟩ := appNew_some h
                        have hL0 := fun k => Tr.get_put h0 k
                        refine ⟨by omega, fun j hj hj2 => by rw [h5, if_neg (by omega), hL0, if_neg (by rw [h4] at hj; simpa using hj)], fun j hj => by rw [h4] at hj; rw [h3]; rw [List.mem_singleton] at hj; subst hj; exact ⟨⟨_, by assumption⟩, .head _⟩⟩
                      · cases h
                  · cases h
                · cases h
              · cases h
            · cases h
          · cases h
        · cases h
      · cases h
    · cases h
theorem stepV_sound {X : Ctx} {G : Nat} {hd : List Nat} {call : CallF} (hC : CallOkH X G hd call) {ol : List Oper} {o : Oper} {τ : Tr LV} {s : KS} {r : SR1} (h : stepV X G call ol o τ s = some r) : Step1 X G hd ol o τ s r ∨ (wantedL ol τ o = some false ∧ r = ⟨.v undef, s, [], [], false⟩) := by
  replace h := stepV_old h
  unfold stepV0 at h
  split at h
  · cases h
  · rename_i hw; cases h; exact .inr ⟨hw, rfl⟩
  · rename_i hw
    left
    have ors : ∀ {e : Env} {σ : St}, GE G e → (∀ t ∈ looksT ol o, ∀ v, τ.get t = some v → ∃ y, getT σ.tm t = .v y ∧ VR e v y) → ∃ ρ', OR e ρ' σ ∧ ∀ x ∈ o.op.operands, evR τ G x = ρ' x := by
      intro e σ hG hT
      refine ⟨fun x => match x with | .tmp t => if t ∈ looksT ol o then τ.get t else none | y => evR τ G y, ?_, ?_⟩
      · intro x v hx
        cases x with
        | tmp t =>
          simp only at hx
          split at hx
          · rename_i ht; exact hT t ht v hx
          · cases hx
        | const c => simp only [evR, Option.some.injEq] at hx; subst hx; exact ⟨c, rfl, by simp only [VR]⟩
        | global n =>
          simp only [evR] at hx
          split at hx
          · rename_i hn; cases hx; exact ⟨_, rfl, by simp only [VR]; exact ⟨n, 0, hG n hn, rfl⟩⟩
          · cases hx
        | func f => simp only [evR, Option.some.injEq] at hx; subst hx; exact ⟨_, rfl, by simp only [VR]; exact ⟨[], [], rfl, by simp [VRs], by simp [VRs]⟩⟩
      · intro x hx
        cases x with
        | tmp t => simp only [evR]; rw [if_pos (looksT_op hx)]
        | _ => rfl
    split at h
    · rename_i f args hco
      split at h
      · rename_i v s' ws hcall
        cases h
        refine ⟨hC.cle hcall, hC.keep hcall, fun id hid => ⟨hC.sub hcall id hid, fun h => by cases h⟩, ?_⟩
        intro M e I H σ hG hR hT hfr hhas _
        obtain ⟨ρ', hO, hcong⟩ := ors hG hT
        rw [callOf_congr hcong] at hco
        have hws := wantedL_ok hw (e := e) (σ := σ) fun t ht => hT t (looksT_guard ht)
        unfold callOf at hco
        split at hco
        · rename_i x aq ts hop
          split at hco
          · rename_i f' l c as hx ha
            cases hco
            obtain ⟨z, h1, h2⟩ := hO _ _ hx
            obtain ⟨as', h3, h4⟩ := hO.allL _ ha
            simp only [VR] at h2; obtain ⟨l', c', rfl, h5, h6⟩ := h2
            have hd := hC.does hcall (hhas rfl).1 (hhas rfl).2 hfr hG hR ((h5.append h4).append h6)
            have harr : (l' ++ as' ++ c').toArray = l'.toArray ++ as'.toArray ++ c'.toArray := by simp
            rw [harr] at hd
            obtain ⟨k1, k2⟩ := spec_call (σ := σ) hop h1 h3 (hC.goes hcall) hd
            intro K hK
            refine .inr ⟨hws, .inr (.inr (.inr ⟨k1, k2.mono fun sv H2 ⟨y, q1, e2, I2, q2, q3, q4, q5, q6⟩ => ?_⟩))⟩
            subst q1
            exact hK e2 y I2 H2 q2 q3 q4 q5 q6
          · cases hco
        · cases hco
      · cases h
    · split at h
      · rename_i r' hop
        cases h
        obtain ⟨g1, g2, g3⟩ := opE_static hop
        refine ⟨g1, g2, fun id hid => ⟨(g3 id hid).1, fun _ => (g3 id hid).2⟩, ?_⟩
        intro M e I H σ hG hR hT hfr _ hfp
        obtain ⟨ρ', hO, hcong⟩ := ors hG hT
        rw [opE_congr hcong] at hop
        have hws := wantedL_ok hw (e := e) (σ := σ) fun t ht => hT t (looksT_guard ht)
        exact (opE_sound hws hO hop hR (hfp rfl) hfr).eff
      · cases h
end Go.Ke
end
section
namespace Go.Ke
open Go Go.Sx
structure Base where
  M : LM
  e : Env
  I : PH
  L : Tr LO
  c : Nat
 noncomputable def addW (c hi : Nat) : List Nat → List Nat → List Nat
  | [], acc => acc
  | id :: l, acc => addW c hi l (if (id < c ∨ hi ≤ id) ∧ acc.contains id = false then id :: acc else acc)
theorem addW_mem {c hi : Nat} : ∀ {l acc : List Nat} {id : Nat}, id ∈ addW c hi l acc ↔ id ∈ acc ∨ (id ∈ l ∧ (id < c ∨ hi ≤ id))
  | [], acc, id => by simp [addW]
  | j :: l, acc, id => by
    simp only [addW]
    rw [addW_mem]
    by_cases h : (j < c ∨ hi ≤ j) ∧ acc.contains j = false
    · rw [if_pos h]
      simp only [List.mem_cons]
      constructor
      · rintro ((rfl | h1) | h1)
        · exact .inr ⟨.inl rfl, h.1⟩
        · exact .inl h1
        · exact .inr ⟨.inr h1.1, h1.2⟩
      · rintro (h1 | ⟨rfl | h1, h2⟩)
        · exact .inl (.inr h1)
        · exact .inl (.inl rfl)
        · exact .inr ⟨h1, h2⟩
    · rw [if_neg h]
      simp only [List.mem_cons]
      constructor
      · rintro (h1 | h1)
        · exact .inl h1
        · exact .inr ⟨.inr h1.1, h1.2⟩
      · rintro (h1 | ⟨rfl | h1, h2⟩)
        · exact .inl h1
        · left
          cases hc : acc.contains id with
          | true => simpa using hc
          | false => exact absurd ⟨h2, hc⟩ h
        · exact .inr ⟨h1, h2⟩
structure StaW (L : Tr LO) (c : Nat) (s : KS) (ws : List Nat) : Prop where
  cle : c ≤ s.c
  keep : ∀ id, id ∉ ws → ¬ (c ≤ id ∧ id < s.c) → s.L.get id = L.get id
  sub : ∀ id ∈ ws, ∃ ob, L.get id = some ob
theorem StaW.step {L : Tr LO} {c : Nat} {s s' : KS} {ws w1 : List Nat} (h : StaW L c s ws) (k : s.c ≤ s'.c ∧ (∀ id, id ∉ w1 → ¬ (s.c ≤ id ∧ id < s'.c) → s'.L.get id = s.L.get id) ∧ ∀ id ∈ w1, ∃ ob, s.L.get id = some ob) : StaW L c s' (addW c s'.c w1 ws) := by
  obtain ⟨k1, k2, k3⟩ := k
  have hc := h.cle
  refine ⟨by omega, fun id hid hr => ?_, fun id hid => ?_⟩
  · rw [addW_mem] at hid
    have a : id ∉ ws := fun k => hid (.inl k)
    have b : id ∉ w1 := fun k => hid (.inr ⟨k, by omega⟩)
    rw [k2 id b (by omega)]; exact h.keep id a (by omega)
  · rw [addW_mem] at hid
    rcases hid with hid | ⟨hid, h2⟩
    · exact h.sub id hid
    · by_cases hw : id ∈ ws
      · exact h.sub id hw
      · obtain ⟨ob, h1⟩ := k3 id hid
        exact ⟨ob, by rw [← h.keep id hw (by omega)]; exact h1⟩
structure Sta (B : Base) (s : KS) (ws : List Nat) : Prop where
  cle : B.c ≤ s.c
  bd : ∀ id, s.c ≤ id → s.L.get id = none
  keep : ∀ id, id ∉ ws → id < B.c → s.L.get id = B.L.get id
  sub : ∀ id ∈ ws, id < B.c ∧ ∃ ob, B.L.get id = some ob
  has : Has B.M B.L
structure Cur (X : Ctx) (G N : Nat) (B : Base) (τ : Tr LV) (s : KS) (ws : List Nat) (e : Env) (I H : PH) (σ : St) : Prop where
  ge : GE G e
  le : B.e.le e
  out : ∀ id, ¬ (B.c ≤ id ∧ id < s.c) → e id = B.e id
  rel : Rel X e (ovl B.M ws B.c s.c s.L) I H
  ile : B.I.le I
  sr : SR e τ N σ
theorem Sta.hasM {B : Base} {s : KS} {ws : List Nat} (h : Sta B s ws) : Has (ovl B.M ws B.c s.c s.L) s.L := by
  intro id ob hid
  unfold ovl
  split
  · exact hid
  · rename_i hn
    have h1 : id ∉ ws := fun k => hn (.inl k)
    have h2 : id < B.c := by
      rcases Nat.lt_or_ge id B.c with k | k
      · exact k
      · exfalso
        rcases Nat.lt_or_ge id s.c with k2 | k2
        · exact hn (.inr ⟨k, k2⟩)
        · rw [h.bd id k2] at hid; cases hid
    exact h.has id ob (by rw [← h.keep id h1 h2]; exact hid)
theorem Sta.fresh {B : Base} {s : KS} {ws : List Nat} (h : Sta B s ws) {e : Env} (ho : ∀ id, ¬ (B.c ≤ id ∧ id < s.c) → e id = B.e id) {hi : Nat} (hf : Fresh B.M B.e B.c hi) : Fresh (ovl B.M ws B.c s.c s.L) e s.c hi := by
  intro id h1 h2
  have hc := h.cle
  obtain ⟨f1, f2⟩ := hf id (by omega) h2
  refine ⟨?_, by rw [ho id (by omega)]; exact f2⟩
  unfold ovl
  rw [if_neg, f1]
  rintro (k | k)
  · have := (h.sub id k).1; omega
  · omega
theorem Sta.step {X : Ctx} {G : Nat} {ol : List Oper} {o : Oper} {τ : Tr LV} {r : SR1} {B : Base} {s : KS} {ws : List Nat} (h : Sta B s ws) (k : s.c ≤ r.s.c ∧ (∀ id, id ∉ r.ws → ¬ (s.c ≤ id ∧ id < r.s.c) → r.s.L.get id = s.L.get id) ∧ ∀ id ∈ r.ws, ∃ ob, s.L.get id = some ob) :
    Sta B r.s (addW B.c r.s.c r.ws ws) ∧ ovl (ovl B.M ws B.c s.c s.L) r.ws s.c r.s.c r.s.L = ovl B.M (addW B.c r.s.c r.ws ws) B.c r.s.c r.s.L := by
  obtain ⟨k1, k2, k3⟩ := k
  have hc := h.cle
  have hlt : ∀ id ∈ r.ws, id < s.c := by
    intro id hid
    obtain ⟨ob, h1⟩ := k3 id hid
    rcases Nat.lt_or_ge id s.c with h2 | h2
    · exact h2
    · rw [h.bd id h2] at h1; cases h1
  refine ⟨⟨by omega, fun id hid => ?_, fun id hid hlt2 => ?_, fun id hid => ?_, h.has⟩, ?_⟩
  · rw [k2 id (fun hm => by have := hlt id hm; omega) (by omega)]
    exact h.bd id (by omega)
  · rw [addW_mem] at hid
    have a : id ∉ ws := fun k => hid (.inl k)
    have b : id ∉ r.ws := fun k => hid (.inr ⟨k, .inl hlt2⟩)
    rw [k2 id b (by omega)]; exact h.keep id a hlt2
  · rw [addW_mem] at hid
    rcases hid with hid | ⟨hid, h2⟩
    · exact h.sub id hid
    · by_cases hw : id ∈ ws
      · exact h.sub id hw
      · obtain ⟨ob, h1⟩ := k3 id hid
        have h2 : id < B.c := by have := hlt id hid; omega
        exact ⟨h2, ob, by rw [← h.keep id hw h2]; exact h1⟩
  · funext id
    unfold ovl
    by_cases h1 : id ∈ r.ws ∨ (s.c ≤ id ∧ id < r.s.c)
    · rw [if_pos h1, if_pos]
      rw [addW_mem]
      rcases h1 with h1 | h1
      · rcases Nat.lt_or_ge id B.c with h2 | h2
        · exact .inl (.inr ⟨h1, .inl h2⟩)
        · have := hlt id h1; exact .inr ⟨h2, by omega⟩
      · exact .inr ⟨by omega, h1.2⟩
    · rw [if_neg h1]
      have n1 : id ∉ r.ws := fun k => h1 (.inl k)
      have n2 : ¬ (s.c ≤ id ∧ id < r.s.c) := fun k => h1 (.inr k)
      by_cases h2 : id ∈ ws ∨ (B.c ≤ id ∧ id < s.c)
      · rw [if_pos h2, if_pos, k2 id n1 n2]
        rw [addW_mem]
        rcases h2 with h2 | h2
        · exact .inl (.inl h2)
        · exact .inr ⟨h2.1, by omega⟩
      · rw [if_neg h2, if_neg]
        rw [addW_mem]
        rintro ((k | k) | k)
        · exact h2 (.inl k)
        · exact n1 k.1
        · rcases Nat.lt_or_ge id s.c with h3 | h3
          · exact h2 (.inr ⟨k.1, h3⟩)
          · exact n2 ⟨h3, k.2⟩
theorem Cur.step {X : Ctx} {G N : Nat} {call : CallF} (hC : CallOk X G call) {ol : List Oper} {o : Oper} {τ τ' : Tr LV} {s : KS} {ws : List Nat} {B : Base} {e : Env} {I H : PH} {σ : St} {r : SR1} (h : stepV X G call ol o τ s = some r) (hp : putT τ N o.dst r.v = some τ') (hS : Sta B s ws) (hU : Cur X G N B τ s ws e I H σ) (hf : Fresh B.M B.e B.c r.s.c)
    {K : St → PH → Prop} (hK : ∀ e' I' H' σ', Cur X G N B τ' r.s (addW B.c r.s.c r.ws ws) e' I' H' σ' → K σ' H') : Vstep X.P ol o K σ H := by
  rcases stepV_sound hC h with h1 | ⟨h1, rfl⟩
  · have hst := hS.step (X := X) (G := G) (ol := ol) (o := o) (τ := τ) (r := r) ⟨h1.cle, h1.keep, fun id hid => (h1.sub id hid).1⟩
    have := h1.ok (M := ovl B.M ws B.c s.c s.L) hU.ge hU.rel (fun t _ v hv => hU.sr.tm t v hv) (hS.fresh hU.out hf) (fun _ => ⟨hS.hasM.x, hS.bd⟩) (fun _ id _ ob hob => hS.hasM id ob hob)
    refine this K fun e2 y I2 H2 q1 q2 q3 q4 q5 => hK e2 I2 H2 _ ⟨fun g hg => q1 _ _ (hU.ge g hg), Env.le_trans hU.le q1, fun id hid => ?_, by rw [← hst.2]; exact q4, PH.le_trans hU.ile q5, (hU.sr.mono q1).put hp q3⟩
    have hc := hS.cle; have hc2 := h1.cle
    rw [q2 id (by omega), hU.out id (by omega)]
  · have hws := wantedL_ok h1 (e := e) (σ := σ) fun t _ v hv => hU.sr.tm t v hv
    refine .inl ⟨hws, hK e I H _ ⟨hU.ge, hU.le, hU.out, ?_, hU.ile, hU.sr.put hp (by simp only [VR])⟩⟩
    simpa only [addW] using hU.rel
 noncomputable def evSeq (X : Ctx) (G N : Nat) (call : CallF) (c0 : Nat) (ol : List Oper) : List Oper → Tr LV → KS → List Nat → Option (Tr LV × KS × List Nat)
  | [], τ, s, ws => some (τ, s, ws)
  | o :: rem, τ, s, ws => match stepV X G call ol o τ s with
    | none => none
    | some r => match putT τ N o.dst r.v with
      | none => none
      | some τ' => evSeq X G N call c0 ol rem τ' r.s (addW c0 r.s.c r.ws ws)
theorem stepV_inf {X : Ctx} {G : Nat} {hd : List Nat} {call : CallF} (hC : CallOkH X G hd call) {ol : List Oper} {o : Oper} {τ : Tr LV} {s : KS} {r : SR1} (h : stepV X G call ol o τ s = some r) : s.c ≤ r.s.c ∧ (∀ id, id ∉ r.ws → ¬ (s.c ≤ id ∧ id < r.s.c) → r.s.L.get id = s.L.get id) ∧ ∀ id ∈ r.ws, ∃ ob, s.L.get id = some ob := by
  rcases stepV_sound hC h with g | ⟨_, g⟩
  · exact ⟨g.cle, g.keep, fun id hid => (g.sub id hid).1⟩
  · subst g; exact ⟨Nat.le_refl _, fun _ _ _ => rfl, fun id hid => by cases hid⟩
theorem evSeq_staW {X : Ctx} {G N : Nat} {call : CallF} (hC : CallOk X G call) {L : Tr LO} {c : Nat} {ol : List Oper} : ∀ {rem : List Oper} {τ τ' : Tr LV} {s s' : KS} {ws ws' : List Nat}, evSeq X G N call c ol rem τ s ws = some (τ', s', ws') → StaW L c s ws → StaW L c s' ws' ∧ s.c ≤ s'.c
  | [], τ, τ', s, s', ws, ws', h, hS => by simp only [evSeq, Option.some.injEq, Prod.mk.injEq] at h; obtain ⟨_, rfl, rfl⟩ := h; exact ⟨hS, Nat.le_refl _⟩
  | o :: rem, τ, τ', s, s', ws, ws', h, hS => by
    simp only [evSeq] at h
    split at h
    · cases h
    · rename_i r hr
      split at h
      · cases h
      · have inf := stepV_inf hC hr
        obtain ⟨a, b⟩ := evSeq_staW hC h (hS.step inf)
        exact ⟨a, Nat.le_trans inf.1 b⟩
theorem evSeq_sta {X : Ctx} {G N : Nat} {call : CallF} (hC : CallOk X G call) {B : Base} {ol : List Oper} : ∀ {rem : List Oper} {τ τ' : Tr LV} {s s' : KS} {ws ws' : List Nat}, evSeq X G N call B.c ol rem τ s ws = some (τ', s', ws') → Sta B s ws → Sta B s' ws' ∧ s.c ≤ s'.c
  | [], τ, τ', s, s', ws, ws', h, hS => by simp only [evSeq, Option.some.injEq, Prod.mk.injEq] at h; obtain ⟨_, rfl, rfl⟩ := h; exact ⟨hS, Nat.le_refl _⟩
  | o :: rem, τ, τ', s, s', ws, ws', h, hS => by
    simp only [evSeq] at h
    split at h
    · cases h
    · rename_i r hr
      split at h
      · cases h
      · rename_i τ1 hp
        rcases stepV_sound hC hr with h1 | ⟨h1, rfl⟩
        · have hst := hS.step (X := X) (G := G) (ol := ol) (o := o) (τ := τ) (r := r) ⟨h1.cle, h1.keep, fun id hid => (h1.sub id hid).1⟩
          obtain ⟨a, b⟩ := evSeq_sta hC h hst.1
          exact ⟨a, Nat.le_trans h1.cle b⟩
        · exact evSeq_sta hC h (by simpa only [addW] using hS)
theorem evSeq_sound {X : Ctx} {G N : Nat} {call : CallF} (hC : CallOk X G call) {B : Base} {ol : List Oper} {K : St → PH → Prop} : ∀ {rem : List Oper} {τ τ' : Tr LV} {s s' : KS} {ws ws' : List Nat}, evSeq X G N call B.c ol rem τ s ws = some (τ', s', ws') → Sta B s ws → Fresh B.M B.e B.c s'.c →
    (∀ e I H σ, Cur X G N B τ' s' ws' e I H σ → K σ H) → ∀ {e : Env} {I H : PH} {σ : St}, Cur X G N B τ s ws e I H σ → V2 X.P ol K rem σ H
  | [], τ, τ', s, s', ws, ws', h, hS, hf, hK, e, I, H, σ, hU => by
    simp only [evSeq, Option.some.injEq, Prod.mk.injEq] at h; obtain ⟨rfl, rfl, rfl⟩ := h
    exact hK _ _ _ _ hU
  | o :: rem, τ, τ', s, s', ws, ws', h, hS, hf, hK, e, I, H, σ, hU => by
    simp only [evSeq] at h
    split at h
    · cases h
    · rename_i r hr
      split at h
      · cases h
      · rename_i τ1 hp
        have key : Sta B r.s (addW B.c r.s.c r.ws ws) := by
          rcases stepV_sound hC hr with h1 | ⟨h1, rfl⟩
          · exact (hS.step (X := X) (G := G) (ol := ol) (o := o) (τ := τ) (r := r) ⟨h1.cle, h1.keep, fun id hid => (h1.sub id hid).1⟩).1
          · simpa only [addW] using hS
        have hle := (evSeq_sta hC h key).2
        exact Cur.step hC hr hp hS hU (fun id a b => hf id a (by omega)) fun e' I' H' σ' hU' => evSeq_sound hC h key hf hK hU'
end Go.Ke
end
section
namespace Go.Ke
open Go Go.Sx
 noncomputable def bit (m x : Nat) : Bool := Nat.beq (Nat.land (Nat.shiftRight m x) 1) 1
theorem bit_eq (m x : Nat) : bit m x = m.testBit x := by
  have h1 : Nat.land (Nat.shiftRight m x) 1 = (m >>> x) &&& 1 := rfl
  have h2 : (m >>> x) &&& 1 = (m >>> x) % 2 := Nat.and_one_is_mod _
  have h3 : m.testBit x = decide ((m >>> x) % 2 = 1) := by
    rw [Nat.testBit_eq_decide_div_mod_eq, Nat.shiftRight_eq_div_pow]
  rw [bit, h1, h2, h3]
  by_cases h : (m >>> x) % 2 = 1
  · rw [h]; rfl
  · rw [decide_eq_false h]
    cases hb : Nat.beq (m >>> x % 2) 1 with
    | false => rfl
    | true => exact absurd (Nat.eq_of_beq_eq_true hb) h
 noncomputable def maskD (M : Tr Nat) : List Nat → Nat
  | [] => 0
  | d :: l => Nat.lor (Nat.lor (Nat.shiftLeft 1 d) ((M.get d).getD 0)) (maskD M l)
 noncomputable def masks : Nat → List Oper → Tr Nat → Tr Nat
  | _, [], M => M
  | i, o :: l, M => masks (i + 1) l (M.set i (maskD M (dirOf o)))
 noncomputable def ltAll : Nat → List Oper → Bool
  | i, [] => Nat.blt i 2147483647
  | i, o :: l => (dirOf o).all (fun z => Nat.blt z i) && ltAll (i + 1) l
 noncomputable def ancM (M : Tr Nat) (y x : Nat) : Bool := bit ((M.get y).getD 0) x
structure AncOk (ol : List Oper) (A : Nat → Nat → Bool) : Prop where
  lt : ∀ y o, ol[y]? = some o → ∀ z ∈ dirOf o, z < y
  up : ∀ y o, ol[y]? = some o → ∀ x, A y x = true → x ∈ dirOf o ∨ ∃ z ∈ dirOf o, A z x = true
theorem maskD_bit {M : Tr Nat} : ∀ {l : List Nat} {x : Nat}, bit (maskD M l) x = true → x ∈ l ∨ ∃ z ∈ l, ancM M z x = true
  | [], x, h => by
    rw [bit_eq] at h; simp [maskD] at h
  | d :: l, x, h => by
    rw [bit_eq] at h
    have e : maskD M (d :: l) = ((1 <<< d) ||| ((M.get d).getD 0)) ||| maskD M l := rfl
    rw [e, Nat.testBit_or, Nat.testBit_or, Bool.or_eq_true, Bool.or_eq_true] at h
    rcases h with (h | h) | h
    · rw [Nat.testBit_shiftLeft] at h
      simp only [Bool.and_eq_true, decide_eq_true_eq] at h
      have h2 : x - d = 0 := by
        rcases Nat.eq_zero_or_pos (x - d) with h0 | h0
        · exact h0
        · have h3 := h.2
          rw [Nat.testBit_one_eq_true_iff_self_eq_zero] at h3
          exact h3
      left; have : x = d := by omega
      subst this; exact .head _
    · exact .inr ⟨d, .head _, by rw [ancM, bit_eq]; exact h⟩
    · rcases maskD_bit (M := M) (l := l) (by rw [bit_eq]; exact h) with h | ⟨z, h1, h2⟩
      · exact .inl (.tail _ h)
      · exact .inr ⟨z, .tail _ h1, h2⟩
theorem ltAll_lt : ∀ {l : List Oper} {i y : Nat} {o : Oper}, ltAll i l = true → l[y]? = some o → ∀ z ∈ dirOf o, z < i + y
  | [], i, y, o, _, h => by simp at h
  | o' :: l, i, y, o, h, ho => by
    simp only [ltAll, Bool.and_eq_true] at h
    intro z hz
    cases y with
    | zero =>
      simp only [List.getElem?_cons_zero, Option.some.injEq] at ho; subst ho
      have := List.all_eq_true.1 h.1 z hz
      have : z + 1 ≤ i := Nat.le_of_ble_eq_true this
      omega
    | succ y => have := ltAll_lt h.2 (by simpa using ho) z hz; omega
theorem masks_get : ∀ {l : List Oper} {i : Nat} {M : Tr Nat}, i + l.length < 2147483647 → (∀ j, j < i → (masks i l M).get j = M.get j) ∧ (ltAll i l = true → ∀ y o, l[y]? = some o → (masks i l M).get (i + y) = some (maskD (masks i l M) (dirOf o)))
  | [], i, M, _ => ⟨fun _ _ => rfl, fun _ y o h => by simp at h⟩
  | o' :: l, i, M, hb => by
    simp only [List.length_cons] at hb
    obtain ⟨h1, h2⟩ := masks_get (l := l) (i := i + 1) (M := M.set i (maskD M (dirOf o'))) (by omega)
    have below : ∀ j, j < i → (masks i (o' :: l) M).get j = M.get j := by
      intro j hj
      simp only [masks]
      rw [h1 j (by omega), Tr.get_set _ _ _ _ (by omega), if_neg (by omega)]
    refine ⟨below, fun hl y o ho => ?_⟩
    have hl' := hl
    simp only [ltAll, Bool.and_eq_true] at hl'
    cases y with
    | zero =>
      simp only [List.getElem?_cons_zero, Option.some.injEq] at ho; subst ho
      have e : (masks i (o' :: l) M).get i = some (maskD M (dirOf o')) := by
        simp only [masks]
        rw [h1 i (by omega), Tr.get_set _ _ _ _ (by omega), if_pos rfl]
      rw [Nat.add_zero, e]
      have cong : ∀ ds : List Nat, (∀ z ∈ ds, z < i) → maskD M ds = maskD (masks i (o' :: l) M) ds := by
        intro ds
        induction ds with
        | nil => intro _; rfl
        | cons d ds ih =>
          intro hd
          simp only [maskD]
          rw [below d (hd d (.head _)), ih fun z hz => hd z (.tail _ hz)]
      rw [cong _ fun z hz => by have := ltAll_lt hl (y := 0) (o := o') rfl z hz; omega]
    | succ y =>
      have := h2 hl'.2 y o (by simpa using ho)
      simp only [masks]
      rw [show i + (y + 1) = i + 1 + y by omega]
      exact this
theorem ltAll_len : ∀ {l : List Oper} {i : Nat}, ltAll i l = true → i + l.length < 2147483647
  | [], i, h => by have : i + 1 ≤ 2147483647 := Nat.le_of_ble_eq_true h
                   simp only [List.length_nil]; omega
  | o :: l, i, h => by
    simp only [ltAll, Bool.and_eq_true] at h
    have := ltAll_len h.2
    simp only [List.length_cons]; omega
theorem ancM_ok {ol : List Oper} (h : ltAll 0 ol = true) : AncOk ol (ancM (masks 0 ol .lf)) where
  lt := fun y o ho z hz => by have := ltAll_lt h ho z hz; omega
  up := fun y o ho x hx => by
    have h2 := (masks_get (l := ol) (i := 0) (M := .lf) (ltAll_len h)).2 h y o ho
    rw [Nat.zero_add] at h2
    rw [ancM, h2] at hx
    exact maskD_bit hx
theorem AncOk.listed {ol : List Oper} {A : Nat → Nat → Bool} (hA : AncOk ol A) {L : Nat → Prop} (closed : ∀ y o, ol[y]? = some o → L y → ∀ z ∈ dirOf o, L z) :
    ∀ (n y : Nat), y < n → ∀ o, ol[y]? = some o → (∀ z ∈ dirOf o, L z) → ∀ x, A y x = true → L x
  | 0, y, h => by omega
  | n + 1, y, h => by
    intro o ho hd x hx
    have hy : y < ol.length := by
      rcases Nat.lt_or_ge y ol.length with h | h
      · exact h
      · rw [List.getElem?_eq_none h] at ho; cases ho
    rcases hA.up y o ho x hx with h2 | ⟨z, hz, hxz⟩
    · exact hd x h2
    · have hzy := hA.lt y o ho z hz
      have hzl : z < ol.length := by omega
      have hoz : ol[z]? = some ol[z] := List.getElem?_eq_getElem hzl
      exact hA.listed closed n z (by omega) _ hoz (closed z _ hoz (hd z hz)) x hxz
end Go.Ke
end
section
namespace Go.Ke
open Go Go.Sx
structure Tch where
  i : Nat
  fp : List Nat
  ws : List Nat
  lo : Nat
  hi : Nat
  cl : Bool
 noncomputable def Tch.dom (t : Tch) (id : Nat) : Bool := t.ws.contains id || (decide (t.lo ≤ id) && decide (id < t.hi))
 noncomputable def tchOf (i : Nat) (p : KS × SR1) : Tch := ⟨i, p.2.fp, p.2.ws, p.1.c, p.2.s.c, p.2.cl⟩
 noncomputable def Tch.idle (t : Tch) : Bool := t.fp.isEmpty && t.ws.isEmpty && t.lo == t.hi && !t.cl
 noncomputable def rng (lo hi : Nat) : List Nat := (List.range (hi - lo)).map (lo + ·)
theorem mem_rng {lo hi id : Nat} : id ∈ rng lo hi ↔ lo ≤ id ∧ id < hi := by
  simp only [rng, List.mem_map, List.mem_range]
  constructor
  · rintro ⟨a, h, rfl⟩; omega
  · rintro ⟨a, b⟩; exact ⟨id - lo, by omega, by omega⟩
 noncomputable def hdOf (c : Nat → Bool) : List (Nat × KS × SR1) → List Nat
  | [] => []
  | (i, p) :: l => if c i = true then hdOf c l else p.2.ws ++ (rng p.1.c p.2.s.c ++ hdOf c l)
theorem mem_hdOf {c : Nat → Bool} : ∀ {l : List (Nat × KS × SR1)} {q : Nat × KS × SR1}, q ∈ l → c q.1 = false → ∀ {id : Nat}, (tchOf 0 q.2).dom id = true → id ∈ hdOf c l
  | [], q, h, _, _, _ => by cases h
  | (i, p) :: l, q, h, hc, id, hd => by
    simp only [hdOf]
    rcases List.mem_cons.1 h with rfl | h
    · simp only at hc
      rw [hc]
      simp only [Bool.false_eq_true, if_false, List.mem_append, mem_rng]
      simp only [Tch.dom, tchOf, Bool.or_eq_true, List.contains_iff_mem, Bool.and_eq_true, decide_eq_true_eq] at hd
      rcases hd with hd | hd
      · exact .inl hd
      · exact .inr (.inl ⟨of_decide_eq_true hd.1, of_decide_eq_true hd.2⟩)
    · have := mem_hdOf h hc hd
      split
      · exact this
      · exact List.mem_append_right _ (List.mem_append_right _ this)
 noncomputable def evRun (X : Ctx) (G N : Nat) (call : CallF) (ol : List Oper) (cl : Nat → Nat → Bool) : Nat → List (Nat × KS × SR1) → List Oper → Tr LV → KS → Option (List (KS × SR1) × Tr LV × KS)
  | _, _, [], τ, s => some ([], τ, s)
  | i, acc, o :: rem, τ, s => match stepV X G (hideC (hdOf (cl i) acc) call) ol o τ s with
    | none => none
    | some r => match putT τ N o.dst r.v with
      | none => none
      | some τ1 => match evRun X G N call ol cl (i + 1) ((i, s, r) :: acc) rem τ1 r.s with
        | none => none
        | some (l, τ2, s2) => some ((s, r) :: l, τ2, s2)
theorem evRun_fun {X : Ctx} {G N : Nat} {call : CallF} {ol : List Oper} {cl : Nat → Nat → Bool} : ∀ {rem : List Oper} {k : Nat} {acc : List (Nat × KS × SR1)} {τ τ' : Tr LV} {s s' : KS} {l : List (KS × SR1)}, evRun X G N call ol cl k acc rem τ s = some (l, τ', s') →
    ∃ (T : Nat → Tr LV) (S : Nat → KS) (R : Nat → SR1) (hd : Nat → List Nat), T 0 = τ ∧ S 0 = s ∧ T rem.length = τ' ∧ S rem.length = s' ∧ l.length = rem.length ∧ (∀ i, i < rem.length → l[i]? = some (S i, R i)) ∧
      (∀ i o, rem[i]? = some o → stepV X G (hideC (hd i) call) ol o (T i) (S i) = some (R i) ∧ putT (T i) N o.dst (R i).v = some (T (i + 1)) ∧ S (i + 1) = (R i).s) ∧
      (∀ i j, i < j → j < rem.length → cl (k + j) (k + i) = false → ∀ id, (tchOf 0 (S i, R i)).dom id = true → id ∈ hd j) ∧
      (∀ j, j < rem.length → ∀ q ∈ acc, cl (k + j) q.1 = false → ∀ id, (tchOf 0 q.2).dom id = true → id ∈ hd j)
  | [], k, acc, τ, τ', s, s', l, h => by
    simp only [evRun, Option.some.injEq, Prod.mk.injEq] at h; obtain ⟨rfl, rfl, rfl⟩ := h
    exact ⟨fun _ => τ, fun _ => s, fun _ => ⟨.v undef, s, [], [], false⟩, fun _ => [], rfl, rfl, rfl, rfl, rfl, fun i hi => by simp at hi, fun i o ho => by simp at ho, fun i j _ hj => by simp at hj, fun j hj => by simp at hj⟩
  | o :: rem, k, acc, τ, τ', s, s', l, h => by
    simp only [evRun] at h
    split at h
    · cases h
    · rename_i r hr
      split at h
      · cases h
      · rename_i τ1 hp
        split at h
        · cases h
        · rename_i l' τ2 s2 hrec
          cases h
          obtain ⟨T, S, R, hd, h1, h2, h3, h4, h5, h6, h7, h8, h9⟩ := evRun_fun hrec
          have ek : ∀ j : Nat, k + (j + 1) = k + 1 + j := fun j => by omega
          refine ⟨fun | 0 => τ | i + 1 => T i, fun | 0 => s | i + 1 => S i, fun | 0 => r | i + 1 => R i, fun | 0 => hdOf (cl k) acc | i + 1 => hd i, rfl, rfl, h3, h4, by simp [h5], fun i hi => ?_, fun i o' ho => ?_, fun i j hij hj hc id hid => ?_, fun j hj q hq hc id hid => ?_⟩
          · cases i with
            | zero => rfl
            | succ i => simpa using h6 i (by simpa using hi)
          · cases i with
            | zero => simp only [List.getElem?_cons_zero, Option.some.injEq] at ho; subst ho; exact ⟨hr, by simp only; rw [h1]; exact hp, h2⟩
            | succ i => exact h7 i o' (by simpa using ho)
          · cases j with
            | zero => omega
            | succ j =>
              rw [ek j] at hc
              cases i with
              | zero => exact h9 j (by simpa using hj) (k, s, r) (.head _) (by simpa using hc) id hid
              | succ i => rw [ek i] at hc; exact h8 i j (by omega) (by simpa using hj) hc id hid
          · cases j with
            | zero => exact mem_hdOf hq (by simpa using hc) hid
            | succ j => rw [ek j] at hc; exact h9 j (by simpa using hj) q (.tail _ hq) hc id hid
 noncomputable def acts : Nat → List (KS × SR1) → List Tch
  | _, [] => []
  | i, p :: l => if (tchOf i p).idle then acts (i + 1) l else tchOf i p :: acts (i + 1) l
 noncomputable def mayB (x y : Tch) : Bool :=
  y.ws.all (fun id => !x.dom id) && (y.cl || y.fp.all fun id => !x.dom id) && (x.cl || x.fp.all fun id => !y.ws.contains id) && (!x.cl || y.ws.isEmpty)
 noncomputable def okMem (cl : Nat → Nat → Bool) : List Tch → Bool
  | [] => true
  | x :: l => l.all (fun y => cl y.i x.i || mayB x y) && okMem cl l
 noncomputable def okT1 (ol : List Oper) (x y : Oper) : Bool := (match x.dst with | some t => y.dst != some t && !(looksT ol y).contains t | none => true) && (match y.dst with | some t => !(looksT ol x).contains t | none => true)
 noncomputable def okTmp (ol : List Oper) (cl : Nat → Nat → Bool) : Bool :=
  (List.range ol.length).all fun j => (List.range j).all fun i => cl j i || (match ol[i]?, ol[j]? with | some x, some y => okT1 ol x y | _, _ => false)
theorem acts_get : ∀ {l : List (KS × SR1)} {k i : Nat} {p : KS × SR1}, l[i]? = some p → (tchOf (k + i) p).idle = false → tchOf (k + i) p ∈ acts k l
  | [], k, i, p, h, _ => by simp at h
  | q :: l, k, 0, p, h, hi => by
    simp only [List.getElem?_cons_zero, Option.some.injEq] at h; subst h
    simp only [acts]
    rw [Nat.add_zero] at hi ⊢
    rw [if_neg (by simp [hi])]; exact .head _
  | q :: l, k, i + 1, p, h, hi => by
    have e1 : k + (i + 1) = k + 1 + i := by omega
    have := acts_get (k := k + 1) (l := l) (i := i) (p := p) (by simpa using h) (by rw [← e1]; exact hi)
    rw [e1]
    simp only [acts]
    split
    · exact this
    · exact .tail _ this
theorem okMem_pair {cl : Nat → Nat → Bool} : ∀ {l : List (KS × SR1)} {k i j : Nat} {p q : KS × SR1}, okMem cl (acts k l) = true → i < j → l[i]? = some p → l[j]? = some q →
    cl (k + j) (k + i) = true ∨ mayB (tchOf (k + i) p) (tchOf (k + j) q) = true
  | [], k, i, j, p, q, _, _, h, _ => by simp at h
  | r :: l, k, i, j, p, q, h, hij, hp, hq => by
    by_cases hi : (tchOf (k + i) p).idle = true
    · right
      simp only [Tch.idle, Bool.and_eq_true, List.isEmpty_iff, beq_iff_eq, Bool.not_eq_true'] at hi
      obtain ⟨⟨⟨a, b⟩, c⟩, d⟩ := hi
      have hdom : ∀ id, (tchOf (k + i) p).dom id = false := by
        intro id; simp only [Tch.dom, b]; rw [c]; simp <;> omega
      simp only [mayB, a, b, c, d, hdom]; simp
    · by_cases hj : (tchOf (k + j) q).idle = true
      · right
        simp only [Tch.idle, Bool.and_eq_true, List.isEmpty_iff, beq_iff_eq, Bool.not_eq_true'] at hj
        obtain ⟨⟨⟨a, b⟩, c⟩, d⟩ := hj
        simp only [mayB, a, b, d]; simp
      · cases i with
        | zero =>
          cases j with
          | zero => omega
          | succ j =>
            simp only [List.getElem?_cons_zero, Option.some.injEq] at hp; subst hp
            have hq' : l[j]? = some q := by simpa using hq
            have e1 : k + (j + 1) = k + 1 + j := by omega
            have hmem := acts_get (k := k + 1) hq' (by rw [← e1]; simpa using hj)
            simp only [Nat.add_zero] at hi ⊢
            simp only [acts] at h
            rw [if_neg hi] at h
            simp only [okMem, Bool.and_eq_true] at h
            have := List.all_eq_true.1 h.1 _ hmem
            simp only [Bool.or_eq_true, tchOf] at this
            rw [e1]
            exact this
        | succ i =>
          cases j with
          | zero => omega
          | succ j =>
            have e1 : k + (j + 1) = k + 1 + j := by omega
            have e2 : k + (i + 1) = k + 1 + i := by omega
            have h' : okMem cl (acts (k + 1) l) = true := by
              simp only [acts] at h
              split at h
              · exact h
              · simp only [okMem, Bool.and_eq_true] at h; exact h.2
            rw [e1, e2]
            exact okMem_pair h' (by omega) (by simpa using hp) (by simpa using hq)
 noncomputable def last (p : Nat → Bool) : Nat → Option Nat
  | 0 => none
  | n + 1 => if p n then some n else last p n
theorem last_eq {p q : Nat → Bool} {j : Nat} : ∀ {n : Nat}, j ≤ n → (∀ i, i < j → p i = q i) → (∀ i, j ≤ i → i < n → p i = false) → last p n = last q j
  | 0, h, _, _ => by have : j = 0 := by omega
                     subst this; rfl
  | n + 1, h, h1, h2 => by
    rcases Nat.lt_or_ge n j with k | k
    · have : j = n + 1 := by omega
      subst this
      simp only [last, h1 n k]
      split
      · rfl
      · exact last_eq (Nat.le_refl n) (fun i hi => h1 i (by omega)) (fun i a b => by omega)
    · simp only [last, h2 n k (by omega)]
      exact last_eq k h1 fun i a b => h2 i a (by omega)
theorem last_congr {p q : Nat → Bool} {n : Nat} (h : ∀ i, i < n → p i = q i) : last p n = last q n := last_eq (Nat.le_refl n) h fun i a b => by omega
theorem last_some {p : Nat → Bool} : ∀ {n i : Nat}, last p n = some i → i < n ∧ p i = true
  | 0, i, h => by cases h
  | n + 1, i, h => by
    simp only [last] at h
    split at h
    · rename_i hp; cases h; exact ⟨by omega, hp⟩
    · have := last_some h; exact ⟨by omega, this.2⟩
theorem last_is {p : Nat → Bool} {j : Nat} : ∀ {n : Nat}, j < n → p j = true → (∀ i, j < i → i < n → p i = false) → last p n = some j
  | 0, h, _, _ => by omega
  | n + 1, h, h1, h2 => by
    simp only [last]
    rcases Nat.lt_or_ge j n with k | k
    · rw [h2 n k (by omega)]; simp only [Bool.false_eq_true, if_false]
      exact last_is k h1 fun i a b => h2 i a (by omega)
    · have : j = n := by omega
      subst this; rw [h1]; rfl
end Go.Ke
end
section
namespace Go.Ke
open Go Go.Sx
structure Kap (X : Ctx) (G N : Nat) (call : CallF) (ol : List Oper) (hd : Nat → List Nat) (T : Nat → Tr LV) (S : Nat → KS) (R : Nat → SR1) : Prop where
  st : ∀ i o, ol[i]? = some o → stepV X G (hideC (hd i) call) ol o (T i) (S i) = some (R i) ∧ putT (T i) N o.dst (R i).v = some (T (i + 1)) ∧ S (i + 1) = (R i).s
 noncomputable def dstE (ol : List Oper) (t : Tmp) (i : Nat) : Bool := (ol[i]?.bind (·.dst)) == some t
 noncomputable def domE (S : Nat → KS) (R : Nat → SR1) (id : Nat) (i : Nat) : Bool := (tchOf i (S i, R i)).dom id
 noncomputable def TL (ol : List Oper) (T : Nat → Tr LV) (R : Nat → SR1) (lst : Nat → Bool) (t : Tmp) : Option LV :=
  match last (fun i => lst i && dstE ol t i) ol.length with | some i => some (R i).v | none => (T 0).get t
 noncomputable def ML (ol : List Oper) (S : Nat → KS) (R : Nat → SR1) (M : LM) (lst : Nat → Bool) : LM := fun id =>
  match last (fun i => lst i && domE S R id i) ol.length with | some i => (S (i + 1)).L.get id | none => M id
theorem domE_iff {S : Nat → KS} {R : Nat → SR1} {id i : Nat} : domE S R id i = true ↔ id ∈ (R i).ws ∨ ((S i).c ≤ id ∧ id < (R i).s.c) := by
  simp only [domE, Tch.dom, tchOf, Bool.or_eq_true, Bool.and_eq_true, List.contains_iff_mem]
  constructor
  · rintro (h | ⟨h, k⟩)
    · exact .inl h
    · exact .inr ⟨of_decide_eq_true h, of_decide_eq_true k⟩
  · rintro (h | ⟨h, k⟩)
    · exact .inl h
    · exact .inr ⟨decide_eq_true h, decide_eq_true k⟩
theorem domE_not {S : Nat → KS} {R : Nat → SR1} {id i : Nat} : domE S R id i = false ↔ id ∉ (R i).ws ∧ ¬ ((S i).c ≤ id ∧ id < (R i).s.c) := by
  rw [← Bool.not_eq_true, domE_iff]; exact not_or
section
variable {X : Ctx} {G N : Nat} {call : CallF} {ol : List Oper} {hd : Nat → List Nat} {T : Nat → Tr LV} {S : Nat → KS} {R : Nat → SR1}
theorem Kap.info (hC : CallOk X G call) (k : Kap X G N call ol hd T S R) {i : Nat} (hi : i < ol.length) : (S i).c ≤ (S (i + 1)).c ∧ (∀ id, domE S R id i = false → (S (i + 1)).L.get id = (S i).L.get id) ∧ (∀ id ∈ (R i).ws, ∃ ob, (S i).L.get id = some ob) := by
  have ho : ol[i]? = some ol[i] := List.getElem?_eq_getElem hi
  obtain ⟨h1, h2, h3⟩ := k.st i _ ho
  have hdom : ∀ id, domE S R id i = false → id ∉ (R i).ws ∧ ¬ ((S i).c ≤ id ∧ id < (R i).s.c) := by
    intro id h
    exact domE_not.1 h
  rcases stepV_sound (hideC_ok hC _) h1 with g | ⟨_, g⟩
  · rw [h3]; exact ⟨g.cle, fun id hid => g.keep id (hdom id hid).1 (hdom id hid).2, fun id hid => (g.sub id hid).1⟩
  · rw [h3, g]; exact ⟨Nat.le_refl _, fun _ _ => rfl, fun id hid => by cases hid⟩
theorem Kap.mono (hC : CallOk X G call) (k : Kap X G N call ol hd T S R) : ∀ {j i : Nat}, i ≤ j → j ≤ ol.length → (S i).c ≤ (S j).c
  | 0, i, h, _ => by have : i = 0 := by omega
                     subst this; exact Nat.le_refl _
  | j + 1, i, h, hj => by
    rcases Nat.lt_or_ge j i with h1 | h1
    · have : i = j + 1 := by omega
      subst this; exact Nat.le_refl _
    · exact Nat.le_trans (k.mono hC h1 (by omega)) (k.info hC (by omega)).1
theorem Kap.tm (k : Kap X G N call ol hd T S R) (t : Tmp) : ∀ {j : Nat}, j ≤ ol.length → (T j).get t = match last (dstE ol t) j with | some i => some (R i).v | none => (T 0).get t
  | 0, _ => rfl
  | j + 1, hj => by
    have ho : ol[j]? = some ol[j] := List.getElem?_eq_getElem (by omega)
    obtain ⟨h1, h2, h3⟩ := k.st j _ ho
    have ih := k.tm t (j := j) (by omega)
    simp only [last, dstE, ho, Option.bind_some]
    cases hd : ol[j].dst with
    | none =>
      rw [hd] at h2; simp only [putT, Option.some.injEq] at h2
      rw [← h2, ih]; rfl
    | some d =>
      rw [hd] at h2; simp only [putT] at h2
      split at h2
      · rw [Tr.get_put h2]
        by_cases e : t = d
        · subst e; simp
        · rw [if_neg e, ih]
          have : (some d == some t) = false := by simpa using fun h => e h.symm
          rw [this]; rfl
      · cases h2
theorem Kap.mem (hC : CallOk X G call) (k : Kap X G N call ol hd T S R) (id : Nat) : ∀ {j : Nat}, j ≤ ol.length → (S j).L.get id = match last (domE S R id) j with | some i => (S (i + 1)).L.get id | none => (S 0).L.get id
  | 0, _ => rfl
  | j + 1, hj => by
    have ih := k.mem hC id (j := j) (by omega)
    simp only [last]
    cases hd : domE S R id j with
    | true => rfl
    | false =>
      rw [(k.info hC (by omega)).2.1 id hd, ih]; rfl
theorem Kap.bd (hC : CallOk X G call) (k : Kap X G N call ol hd T S R) (hb : ∀ id, (S 0).c ≤ id → (S 0).L.get id = none) : ∀ {j : Nat}, j ≤ ol.length → ∀ id, (S j).c ≤ id → (S j).L.get id = none
  | 0, _, id, h => hb id h
  | j + 1, hj, id, h => by
    have hi := k.info hC (i := j) (by omega)
    have ih := k.bd hC hb (j := j) (by omega)
    have ho : ol[j]? = some ol[j] := List.getElem?_eq_getElem (by omega)
    have h3 := (k.st j _ ho).2.2
    cases hd : domE S R id j with
    | false => rw [hi.2.1 id hd]; exact ih id (by omega)
    | true =>
      exfalso
      rcases domE_iff.1 hd with hd | hd
      · obtain ⟨ob, h1⟩ := hi.2.2 id hd
        rw [ih id (by omega)] at h1; cases h1
      · rw [h3] at h; omega
structure Free (hd : Nat → List Nat) (ol : List Oper) (S : Nat → KS) (R : Nat → SR1) (i j : Nat) : Prop where
  d1 : ∀ t, dstE ol t i = true → dstE ol t j = false
  d2 : ∀ t o, ol[j]? = some o → dstE ol t i = true → t ∉ looksT ol o
  d3 : ∀ t o, ol[i]? = some o → dstE ol t j = true → t ∉ looksT ol o
  m1 : ∀ id ∈ (R j).ws, domE S R id i = false
  m3 : (R j).cl = false → ∀ id ∈ (R j).fp, domE S R id i = false
  m4 : (R i).cl = false → ∀ id ∈ (R i).fp, id ∉ (R j).ws
  m5 : (R j).cl = true → ∀ id, domE S R id i = true → id ∈ hd j
  m6 : (R i).cl = true → (R j).ws = []
theorem free_of {cl : Nat → Nat → Bool} {l : List (KS × SR1)} (hl : ∀ i, i < ol.length → l[i]? = some (S i, R i)) (h1 : okMem cl (acts 0 l) = true) (h2 : okTmp ol cl = true) {i j : Nat} (hij : i < j) (hj : j < ol.length) (hn : cl j i = false) (hh : ∀ id, domE S R id i = true → id ∈ hd j) : Free hd ol S R i j := by
  have hm := okMem_pair h1 hij (hl i (by omega)) (hl j hj)
  simp only [Nat.zero_add, hn, Bool.false_eq_true, false_or] at hm
  have ht := List.all_eq_true.1 (List.all_eq_true.1 h2 j (List.mem_range.2 hj)) i (List.mem_range.2 hij)
  have hoi : ol[i]? = some ol[i] := List.getElem?_eq_getElem (by omega)
  have hoj : ol[j]? = some ol[j] := List.getElem?_eq_getElem hj
  rw [hn, hoi, hoj] at ht
  simp only [Bool.false_or, okT1, Bool.and_eq_true] at ht
  simp only [mayB, Bool.and_eq_true, Bool.or_eq_true, List.all_eq_true, Bool.not_eq_true', tchOf] at hm
  obtain ⟨⟨⟨a1, a2⟩, a3⟩, a5⟩ := hm
  have di : ∀ t k o, ol[k]? = some o → dstE ol t k = true → o.dst = some t := by
    intro t k o ho h; simp only [dstE, ho, Option.bind_some, beq_iff_eq] at h; exact h
  refine ⟨fun t h => ?_, fun t o ho h => ?_, fun t o ho h => ?_, fun id hid => a1 id hid, fun hc id hid => ?_, fun hc id hid => ?_, fun hc => hh, fun hc => ?_⟩
  · have e1 := di t i _ hoi h
    rw [e1] at ht
    simp only [bne_iff_ne, Bool.and_eq_true, Bool.not_eq_true'] at ht
    simp only [dstE, hoj, Option.bind_some]
    simpa using ht.1.1
  · rw [hoj] at ho; cases ho
    have e1 := di t i _ hoi h
    rw [e1] at ht
    simp only [bne_iff_ne, Bool.and_eq_true, Bool.not_eq_true'] at ht
    simpa using ht.1.2
  · rw [hoi] at ho; cases ho
    have e1 := di t j _ hoj h
    rw [e1] at ht
    simp only [Bool.not_eq_true'] at ht
    simpa using ht.2
  · rcases a2 with a2 | a2
    · rw [hc] at a2; cases a2
    · exact a2 id hid
  · rcases a3 with a3 | a3
    · rw [hc] at a3; cases a3
    · simpa using a3 id hid
  · rcases a5 with a5 | a5
    · rw [hc] at a5; cases a5
    · simpa using a5
end
end Go.Ke
end
section
namespace Go.Ke
open Go Go.Sx
structure DI (X : Ctx) (G N : Nat) (ol : List Oper) (T : Nat → Tr LV) (S : Nat → KS) (R : Nat → SR1) (B : Base) (M : LM) (lst : Nat → Bool) (e : Env) (I H : PH) (σ : St) : Prop where
  ge : GE G e
  le : B.e.le e
  fr : ∀ i, i < ol.length → lst i = false → ∀ id, (S i).c ≤ id → id < (S (i + 1)).c → e id = none
  out : ∀ id, ¬ (B.c ≤ id ∧ id < (S ol.length).c) → e id = B.e id
  rel : Rel X e (ML ol S R M lst) I H
  ile : B.I.le I
  bx : σ.bx = []
  len : σ.tm.length = N
  tm : ∀ t v, TL ol T R lst t = some v → ∃ y, getT σ.tm t = .v y ∧ VR e v y
section
variable {X : Ctx} {G N : Nat} {call : CallF} {ol : List Oper} {hd : Nat → List Nat} {T : Nat → Tr LV} {S : Nat → KS} {R : Nat → SR1}
theorem DI.step (hC : CallOk X G call) (k : Kap X G N call ol hd T S R) {B : Base} {M : LM} (h0 : Has M (S 0).L) (hb : ∀ id, (S 0).c ≤ id → (S 0).L.get id = none) (hMf : ∀ id, (S 0).c ≤ id → id < (S ol.length).c → M id = none) (hBc : B.c ≤ (S 0).c)
    {lst : Nat → Bool} {j : Nat} {o : Oper} (ho : ol[j]? = some o) (hj : lst j = false) (free : ∀ i, i < ol.length → i ≠ j → (i < j → lst i = false → Free hd ol S R i j) ∧ (j < i → lst i = true → Free hd ol S R j i))
    {e : Env} {I H : PH} {σ : St} (hD : DI X G N ol T S R B M lst e I H σ) {K : St → PH → Prop} (hK : ∀ e' I' H' σ', DI X G N ol T S R B M (fun i => decide (i = j) || lst i) e' I' H' σ' → K σ' H') : Vstep X.P ol o K σ H := by
  have hjl : j < ol.length := by
    rcases Nat.lt_or_ge j ol.length with h | h
    · exact h
    · rw [List.getElem?_eq_none h] at ho; cases ho
  obtain ⟨s1, s2, s3⟩ := k.st j o ho
  have inf := k.info hC hjl
  have hT : ∀ t ∈ looksT ol o, ∀ v, (T j).get t = some v → ∃ y, getT σ.tm t = .v y ∧ VR e v y := by
    intro t ht v hv
    refine hD.tm t v ?_
    rw [k.tm t (Nat.le_of_lt hjl)] at hv
    unfold TL
    rw [last_eq (q := dstE ol t) (j := j) (Nat.le_of_lt hjl) (fun i hi => ?_) (fun i hi1 hi2 => ?_)]
    · exact hv
    · cases hl : lst i with
      | true => simp
      | false =>
        have f := (free i (by omega) (by omega)).1 hi hl
        cases hd : dstE ol t i with
        | false => simp
        | true => exact absurd ht (f.d2 t o ho hd)
    · by_cases e1 : i = j
      · subst e1; simp [hj]
      · cases hl : lst i with
        | false => simp
        | true =>
          have f := (free i hi2 e1).2 (by omega) hl
          cases hd : dstE ol t i with
          | false => simp
          | true => exact absurd ht (f.d3 t o ho hd)
  have tmNext : ∀ {e' : Env} {y : Value}, e.le e' → VR e' (R j).v y → ∀ t v, TL ol T R (fun i => decide (i = j) || lst i) t = some v → ∃ z, getT (σ.put o.dst (.v y)).tm t = .v z ∧ VR e' v z := by
    intro e' y hle hy t v hv
    unfold TL at hv
    cases hd : dstE ol t j with
    | true =>
      have e1 : o.dst = some t := by simp only [dstE, ho, Option.bind_some, beq_iff_eq] at hd; exact hd
      rw [last_is (j := j) hjl (by simp [hd]) (fun i a b => by
        cases hl : lst i with
        | false => have : i ≠ j := by omega
                   simp [this, hl]
        | true =>
          have f := (free i b (by omega)).2 a hl
          rw [f.d1 t hd]; simp)] at hv
      simp only [Option.some.injEq] at hv
      subst hv
      rw [e1] at s2 ⊢
      simp only [putT] at s2
      split at s2
      · rename_i hdN
        refine ⟨y, ?_, hy⟩
        have hlt : t < σ.tm.length := by rw [hD.len]; exact hdN
        simp [St.put, getT_setT, hlt]
      · cases s2
    | false =>
      have hne : o.dst ≠ some t := by intro h; simp only [dstE, ho, Option.bind_some, h, beq_self_eq_true] at hd; cases hd
      rw [last_congr (q := fun i => lst i && dstE ol t i) (fun i _ => by
        by_cases e1 : i = j
        · subst e1; simp [hd]
        · simp [e1])] at hv
      obtain ⟨z, g1, g2⟩ := hD.tm t v hv
      refine ⟨z, ?_, g2.mono hle⟩
      cases hdst : o.dst with
      | none => exact g1
      | some d =>
        simp only [St.put, getT_setT]
        rw [if_neg (fun h => hne (by rw [hdst, h.1]))]
        exact g1
  have memNext : ovl (ML ol S R M lst) (R j).ws (S j).c (R j).s.c (R j).s.L = ML ol S R M (fun i => decide (i = j) || lst i) := by
    funext id
    unfold ovl
    by_cases hd : id ∈ (R j).ws ∨ ((S j).c ≤ id ∧ id < (R j).s.c)
    · rw [if_pos hd]
      unfold ML
      rw [last_is (j := j) hjl (by rw [domE_iff.2 hd]; simp) (fun i a b => by
        cases hl : lst i with
        | false => have : i ≠ j := by omega
                   simp [this, hl]
        | true =>
          have f := (free i b (by omega)).2 a hl
          have : domE S R id i = false := by
            cases hdi : domE S R id i with
            | false => rfl
            | true =>
              exfalso
              have hii := k.info hC b
              have hmo := k.mono hC (i := j + 1) (j := i) (by omega) (by omega)
              rcases domE_iff.1 hdi with h1 | h1
              · have := f.m1 id h1
                rw [domE_iff.2 hd] at this; cases this
              · rcases hd with h2 | h2
                · obtain ⟨ob, h3⟩ := inf.2.2 id h2
                  rw [k.bd hC hb (Nat.le_of_lt hjl) id (by have := inf.1; omega)] at h3; cases h3
                · rw [s3] at hmo; omega
          rw [this]; simp)]
      simp only [s3]
    · rw [if_neg hd]
      have hdf : domE S R id j = false := by
        cases h : domE S R id j with
        | false => rfl
        | true => exact absurd (domE_iff.1 h) hd
      unfold ML
      rw [last_congr (p := fun i => (decide (i = j) || lst i) && domE S R id i) (q := fun i => lst i && domE S R id i) (fun i _ => by
        by_cases e1 : i = j
        · subst e1; simp [hdf]
        · simp [e1])]
  have putLen : ∀ (y : Value), (σ.put o.dst (.v y)).bx = [] ∧ (σ.put o.dst (.v y)).tm.length = N := by
    intro y
    cases hdst : o.dst with
    | none => exact ⟨hD.bx, hD.len⟩
    | some d => exact ⟨hD.bx, by simp [St.put, setT_length, hD.len]⟩
  rcases stepV_sound (hideC_ok hC _) s1 with g | ⟨g1, g2⟩
  ·
    have hfresh : Fresh (ML ol S R M lst) e (S j).c (R j).s.c := by
      intro id h1 h2
      refine ⟨?_, hD.fr j hjl hj id h1 (by rw [s3]; exact h2)⟩
      have hnone : last (fun i => lst i && domE S R id i) ol.length = none := by
        cases hl : last (fun i => lst i && domE S R id i) ol.length with
        | none => rfl
        | some i =>
          exfalso
          obtain ⟨a, b⟩ := last_some hl
          simp only [Bool.and_eq_true] at b
          have hij : i ≠ j := by intro h; subst h; rw [hj] at b; cases b.1
          have hii := k.info hC a
          rcases domE_iff.1 b.2 with h3 | h3
          · obtain ⟨ob, h4⟩ := hii.2.2 id h3
            rcases Nat.lt_or_ge i j with h5 | h5
            · have := k.mono hC (i := i) (j := j) (by omega) (by omega)
              rw [k.bd hC hb (Nat.le_of_lt a) id (by omega)] at h4; cases h4
            · have f := (free i a hij).2 (by omega) b.1
              have := f.m1 id h3
              rw [domE_iff.2 (.inr ⟨h1, h2⟩)] at this; cases this
          · have ho' : ol[i]? = some ol[i] := List.getElem?_eq_getElem a
            have h3i := (k.st i _ ho').2.2
            rcases Nat.lt_or_ge i j with h5 | h5
            · have := k.mono hC (i := i + 1) (j := j) (by omega) (by omega)
              rw [h3i] at this; omega
            · have := k.mono hC (i := j + 1) (j := i) (by omega) (by omega)
              rw [s3] at this; omega
      unfold ML
      rw [hnone]
      have m1 := k.mono hC (i := 0) (j := j) (by omega) (by omega)
      have m2 := k.mono hC (i := j + 1) (j := ol.length) (by omega) (by omega)
      rw [s3] at m2
      exact hMf id (by omega) (by omega)
    have agree : ∀ id ob, (S j).L.get id = some ob → (∀ i, i < j → lst i = false → domE S R id i = false) → (∀ i, j < i → i < ol.length → lst i = true → domE S R id i = false) → ML ol S R M lst id = some ob := by
      intro id ob hid q1 q2
      rw [k.mem hC id (Nat.le_of_lt hjl)] at hid
      unfold ML
      rw [last_eq (q := domE S R id) (j := j) (Nat.le_of_lt hjl) (fun i hi => ?_) (fun i a b => ?_)]
      · split at hid
        · rename_i i hi; exact hid
        · exact h0 id ob hid
      · cases hl : lst i with
        | true => simp
        | false => rw [q1 i hi hl]; simp
      · by_cases e1 : i = j
        · subst e1; simp [hj]
        · cases hl : lst i with
          | false => simp
          | true => rw [q2 i (by omega) b hl]; simp
    have heff := g.ok (M := ML ol S R M lst) hD.ge hD.rel hT hfresh (fun hcl => ⟨fun id ob hid hnh => agree id ob hid
      (fun i hi hl => by
        cases hdi : domE S R id i with
        | false => rfl
        | true => exact absurd (((free i (by omega) (by omega)).1 hi hl).m5 hcl id hdi) hnh)
      (fun i a b hl => by
        have f := (free i b (by omega)).2 a hl
        have hw := f.m6 hcl
        cases hdi : domE S R id i with
        | false => rfl
        | true =>
          exfalso
          rcases domE_iff.1 hdi with h1 | h1
          · rw [hw] at h1; cases h1
          · have := k.mono hC (i := j) (j := i) (by omega) (by omega)
            rw [k.bd hC hb (Nat.le_of_lt hjl) id (by omega)] at hid; cases hid), k.bd hC hb (Nat.le_of_lt hjl)⟩)
      (fun hcl id hfp ob hid => by
          refine agree id ob hid (fun i hi hl => ((free i (by omega) (by omega)).1 hi hl).m3 hcl id hfp) (fun i a b hl => ?_)
          have f := (free i b (by omega)).2 a hl
          cases hdi : domE S R id i with
          | false => rfl
          | true =>
            exfalso
            rcases domE_iff.1 hdi with h1 | h1
            · exact f.m4 hcl id hfp h1
            · have := k.mono hC (i := j) (j := i) (by omega) (by omega)
              rw [k.bd hC hb (Nat.le_of_lt hjl) id (by omega)] at hid; cases hid)
    refine heff K fun e2 y I2 H2 q1 q2 q3 q4 q5 => hK e2 I2 H2 _ ?_
    refine ⟨fun g hg => q1 _ _ (hD.ge g hg), Env.le_trans hD.le q1, fun i hi hl id a b => ?_, fun id hid => ?_, by rw [← memNext]; exact q4, PH.le_trans hD.ile q5, (putLen y).1, (putLen y).2, tmNext q1 q3⟩
    · simp only [Bool.or_eq_false_iff, decide_eq_false_iff_not] at hl
      have ho' : ol[i]? = some ol[i] := List.getElem?_eq_getElem hi
      have h3i := (k.st i _ ho').2.2
      rw [q2 id (by
        intro hh
        rcases Nat.lt_or_ge i j with h5 | h5
        · have := k.mono hC (i := i + 1) (j := j) (by omega) (by omega); omega
        · have := k.mono hC (i := j + 1) (j := i) (by omega) (by omega); rw [s3] at this; omega)]
      exact hD.fr i hi hl.2 id a b
    · have m1 := k.mono hC (i := 0) (j := j) (by omega) (by omega)
      have m2 := k.mono hC (i := j + 1) (j := ol.length) (by omega) (by omega)
      rw [s3] at m2
      rw [q2 id (by omega)]
      exact hD.out id hid
  ·
    have hws := wantedL_ok g1 (e := e) (σ := σ) fun t ht => hT t (looksT_guard ht)
    have hv : (R j).v = .v undef := by rw [g2]
    refine .inl ⟨hws, hK e I H _ ⟨hD.ge, hD.le, fun i hi hl id a b => ?_, hD.out, ?_, hD.ile, (putLen _).1, (putLen _).2, tmNext (Env.le_refl e) (by rw [hv]; simp only [VR])⟩⟩
    · simp only [Bool.or_eq_false_iff] at hl; exact hD.fr i hi hl.2 id a b
    · rw [← memNext]
      have : ovl (ML ol S R M lst) (R j).ws (S j).c (R j).s.c (R j).s.L = ML ol S R M lst := by rw [g2]; exact ovl_nil _ _ _
      rw [this]; exact hD.rel
end
end Go.Ke
end
