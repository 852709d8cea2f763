import Derived.Test.YtfaclfkpnmcmlaaGreatDoorW00
import Derived.RangeFuncRecord
import Derived.Maps.AppendAt
import Derived.Deep.AppendSrc
set_option maxHeartbeats 20000000
set_option linter.all false
section
namespace Go.Sx
open Go
theorem OpSpec.mono' {P : Program} {s : Sem Next} {H : PH} {Ψ Ψ' : SV → PH → Prop} (h : OpSpec P s H Ψ) (k : ∀ sv H2, (∀ d, clr d sv = sv) → Ψ sv H2 → Ψ' sv H2) : OpSpec P s H Ψ' := by
  intro w hw
  have hr := h w hw
  unfold OpRes at hr ⊢
  split at hr
  · obtain ⟨H2, a, b⟩ := hr; exact ⟨H2, a, k _ _ (fun _ => rfl) b⟩
  · obtain ⟨H2, a, b⟩ := hr; exact ⟨H2, a, k _ _ (fun _ => rfl) b⟩
  · refine hr.mono fun e w3 he => ?_
    cases e with
    | returned v => obtain ⟨H2, a, b⟩ := he; exact ⟨H2, a, k _ _ (fun _ => rfl) b⟩
    | outgrown => exact he
    | panicked c => exact he
  · refine hr.mono fun e w3 he => ?_
    cases e with
    | returned v => obtain ⟨H2, a, b⟩ := he; exact ⟨H2, a, k _ _ (fun _ => rfl) b⟩
    | outgrown => exact he
    | panicked c => exact he
  · exact hr
def XV (P : Program) (ol : List Oper) (fr : FrB) (σ : St) (H : PH) (o : Oper) (sv : SV) : Prop :=
  (wantedS ol σ o = some false ∧ sv = .v undef) ∨ (wantedS ol σ o = some true ∧ cls o.op = .val ∧ ValF P fr σ H o sv)
theorem knownS_congr {σ σ' : St} {op : Op} (h : ∀ x ∈ op.operands, isV (ev σ x) = isV (ev σ' x)) : knownS σ op = knownS σ' op := by
  have h1 : ∀ x ∈ op.operands.toList, isV (ev σ x) = isV (ev σ' x) := fun x hx => h x (by simpa using hx)
  have h2 : op.operands.toList.all (fun x => isV (ev σ x)) = op.operands.toList.all (fun x => isV (ev σ' x)) := by
    rw [Bool.eq_iff_iff]
    simp only [List.all_eq_true]
    exact ⟨fun a x hx => by rw [← h1 x hx]; exact a x hx, fun a x hx => by rw [h1 x hx]; exact a x hx⟩
  simp only [knownS, h2]
theorem exec_cenv {σ σ' : St} {o : Oper} (hs : noSel o.op = true) (h : ∀ x ∈ o.op.operands, cenv σ x = cenv σ' x) : execOp (cenv σ) o = execOp (cenv σ') o :=
  execOp_congr o (fun cs b e => by rw [e] at hs; simp [noSel] at hs) h
section
variable {P : Program} {ol : List Oper}
theorem ev_put_op {σ : St} {d : Option Nat} {sv : SV} {o : Oper} (h : ∀ e, d = some e → e ∉ looks ol o) : ∀ x ∈ o.op.operands, ev (σ.put d sv) x = ev σ x :=
  fun x hx => ev_put fun e he => looks_op (h e he) x hx
theorem ev_newBox_op {σ : St} {d : Nat} {T : TypeId} {cs : List Value} {o : Oper} (h : d ∉ looks ol o) : ∀ x ∈ o.op.operands, ev (σ.newBox d T cs) x = clr d (ev σ x) :=
  fun x hx => ev_newBox (looks_op h x hx)
theorem bx_put (σ : St) (d : Option Nat) (sv : SV) : (σ.put d sv).bx = σ.bx := by cases d <;> rfl
theorem noSel_val {op : Op} (h : cls op = .val) : noSel op = true := by cases op <;> first | rfl | cases h
theorem XV_put {fr : FrB} {σ : St} {H : PH} {o : Oper} {sv sv' : SV} {d : Option Nat} (h : ∀ e, d = some e → e ∉ looks ol o) : XV P ol fr (σ.put d sv') H o sv ↔ XV P ol fr σ H o sv := by
  have hk : knownS (σ.put d sv') o.op = knownS σ o.op := knownS_congr fun x hx => by rw [ev_put_op h x hx]
  have he : noSel o.op = true → execOp (cenv (σ.put d sv')) o = execOp (cenv σ) o := fun hn => exec_cenv hn fun x hx => by simp only [cenv, ev_put_op h x hx]
  unfold XV ValF
  rw [wantedS_put h, bx_put, pv_congr (ev_put_op h), hk]
  constructor
  · rintro (h1 | ⟨h1, h2, h3⟩)
    · exact .inl h1
    · rw [he (noSel_val h2)] at h3; exact .inr ⟨h1, h2, h3⟩
  · rintro (h1 | ⟨h1, h2, h3⟩)
    · exact .inl h1
    · refine .inr ⟨h1, h2, ?_⟩
      rw [he (noSel_val h2)]; exact h3
theorem XV_le {fr : FrB} {σ : St} {H H2 : PH} {o : Oper} {sv : SV} (h : XV P ol fr σ H o sv) (hle : fr.h = true → H.le H2) (hj : fr.j = true → fr.J.le H → fr.J.le H2) : XV P ol fr σ H2 o sv := by
  rcases h with h | ⟨h1, h2, h3⟩
  · exact .inl h
  · refine .inr ⟨h1, h2, h3.imp id ?_⟩
    rintro (⟨a, v, b, c, e⟩ | ⟨a, l, x⟩)
    · exact .inl ⟨a, v, b, c, fun w hw => e w (hw.of_le (hle a))⟩
    · exact .inr ⟨a, hj a l, x⟩
theorem XV_newBox {fr : FrB} {σ : St} {H : PH} {o : Oper} {sv : SV} {d : Nat} {T : TypeId} {cs : List Value} (hd : d ∉ looks ol o) (h : XV P ol fr (σ.newBox d T cs) H o sv) :
    ∃ sv', XV P ol fr σ H o sv' ∧ sv = clr d sv' := by
  rcases h with ⟨h1, rfl⟩ | ⟨h1, h2, h3⟩
  · exact ⟨.v undef, .inl ⟨(wantedS_newBox hd).1 h1, rfl⟩, rfl⟩
  · have h1' := (wantedS_newBox hd).1 h1
    rcases h3 with ⟨φ, hp, hφ⟩ | ⟨a, v, rfl, c, e⟩ | ⟨a, aj, v, rfl, c, e⟩
    · rw [pv_congr (ρ' := fun x => clr d (ev σ x)) (ev_newBox_op hd)] at hp
      obtain ⟨sv', h4, h5⟩ := pv_clr hp
      exact ⟨sv', .inr ⟨h1', h2, .inl ⟨φ, h4, hφ⟩⟩, h5⟩
    · have hv : ∀ x ∈ o.op.operands, ev σ x = ev (σ.newBox d T cs) x := by
        intro x hx
        have hc := c
        simp only [knownS, Bool.and_eq_true, List.all_eq_true] at hc
        have := hc.2 x (by simpa using hx)
        rw [ev_newBox_op hd x hx] at this ⊢
        cases hs : ev σ x with
        | v y => rfl
        | u => rw [hs] at this; cases this
        | p k off => rw [hs] at this; simp only [clr] at this; split at this <;> cases this
      have hk : knownS σ o.op = knownS (σ.newBox d T cs) o.op := knownS_congr fun x hx => by rw [hv x hx]
      have he : execOp (cenv σ) o = execOp (cenv (σ.newBox d T cs)) o := exec_cenv (noSel_val h2) fun x hx => by simp only [cenv, hv x hx]
      exact ⟨.v v, .inr ⟨h1', h2, .inr (.inl ⟨a, v, rfl, hk.trans c, by rw [he]; exact e⟩)⟩, rfl⟩
    · have hv : ∀ x ∈ o.op.operands, ev σ x = ev (σ.newBox d T cs) x := by
        intro x hx
        have hc := c
        simp only [knownS, Bool.and_eq_true, List.all_eq_true] at hc
        have := hc.2 x (by simpa using hx)
        rw [ev_newBox_op hd x hx] at this ⊢
        cases hs : ev σ x with
        | v y => rfl
        | u => rw [hs] at this; cases this
        | p k off => rw [hs] at this; simp only [clr] at this; split at this <;> cases this
      have hk : knownS σ o.op = knownS (σ.newBox d T cs) o.op := knownS_congr fun x hx => by rw [hv x hx]
      have he : execOp (cenv σ) o = execOp (cenv (σ.newBox d T cs)) o := exec_cenv (noSel_val h2) fun x hx => by simp only [cenv, hv x hx]
      exact ⟨.v v, .inr ⟨h1', h2, .inr (.inr ⟨a, aj, v, rfl, hk.trans c, by rw [he]; exact e⟩)⟩, rfl⟩
theorem acOf_put {σ : St} {d : Option Nat} {sv : SV} {o : Oper} (h : ∀ e, d = some e → e ∉ looks ol o) : acOf P (ev (σ.put d sv)) o.op = acOf P (ev σ) o.op := by
  have := ev_put_op (σ := σ) (sv := sv) h
  cases ho : o.op <;> simp only [acOf]
  rename_i T x
  rw [this x (by simp [ho, Op.operands])]
theorem acOf_newBox {σ : St} {d : Nat} {T : TypeId} {cs : List Value} {o : Oper} {r : TypeId × List Value} (h : d ∉ looks ol o) : acOf P (ev (σ.newBox d T cs)) o.op = some r ↔ acOf P (ev σ) o.op = some r := by
  have := ev_newBox_op (σ := σ) (T := T) (cs := cs) h
  cases ho : o.op <;> simp only [acOf]
  rename_i T' x
  rw [this x (by simp [ho, Op.operands])]
  cases hs : ev σ x with
  | v y => rfl
  | u => rfl
  | p k off => by_cases e : k = d <;> simp [clr, e]
def swOk (ol : List Oper) (fr : FrB) (strx str : StB) (x y : Oper) : Bool :=
  indep ol x y && match cls x.op, cls y.op with
    | .alc, .alc | .alc, .val | .val, .val => true
    | .alc, .gen => true
    | .val, .gen => (!fr.h || str.h) && (!fr.j || str.j)
    | .val, .st => (str.k && (noLd x.op || fr.k)) || (noLd x.op && !fr.h && !fr.j)
    | .val, .nw | .alc, .nw => true
    | .gen, .nw => !strx.j && y.guard.isNone
    | _, _ => false
theorem noSel_known {σ : St} {op : Op} (h : knownS σ op = true) : noSel op = true := by
  simp only [knownS, Bool.and_eq_true] at h; exact h.1
theorem VDstep_cases {fr : FrB} {str : StB} {o : Oper} {K : St → PH → Prop} {σ : St} {H : PH} (h : VDstep P ol fr str o K σ H) :
    (∃ sv, XV P ol fr σ H o sv ∧ K (σ.put o.dst sv) H) ∨
    (wantedS ol σ o = some true ∧ cls o.op = .alc ∧ ∃ d T cs, o.dst = some d ∧ acOf P (ev σ) o.op = some (T, cs) ∧ K (σ.newBox d T cs) H) ∨
    (wantedS ol σ o = some true ∧ cls o.op = .gen ∧ knownS σ o.op = true ∧ OpSpec P (execOp (cenv σ) o) H fun sv H2 => ((str.h = true → H.le H2) ∧ (str.j = true → fr.J.le H → fr.J.le H2)) ∧ K (σ.put o.dst sv) H2) ∨
    (wantedS ol σ o = some true ∧ cls o.op = .st ∧ ((∃ k off cs, stOf P σ.bx (ev σ) o.op = some (k, off, cs) ∧ (str.k = true → memN fr.kp k = false) ∧ K ((σ.store k off cs).put o.dst .u) H) ∨ (str.k = false ∧ knownS σ o.op = true ∧ OpSpec P (execOp (cenv σ) o) H fun sv H2 => K (σ.put o.dst sv) H2))) ∨
    (wantedS ol σ o = some true ∧ cls o.op = .nw ∧ ∀ b, H b = none → K (σ.put o.dst (.v (.map (some b)))) (H.put b (.map #[] 0))) := by
  rcases h with ⟨hw, h⟩ | ⟨hw, h⟩
  · exact .inl ⟨.v undef, .inl ⟨hw, rfl⟩, h⟩
  · cases hc : cls o.op <;> rw [hc] at h <;> simp only at h
    · obtain ⟨sv, hv, hk⟩ := h; exact .inl ⟨sv, .inr ⟨hw, hc, hv⟩, hk⟩
    · exact .inr (.inl ⟨hw, rfl, h⟩)
    · exact .inr (.inr (.inr (.inl ⟨hw, rfl, h⟩)))
    · exact .inr (.inr (.inl ⟨hw, rfl, h⟩))
    · exact .inr (.inr (.inr (.inr ⟨hw, rfl, h⟩)))
theorem VDstep_nw {fr : FrB} {str : StB} {o : Oper} {K : St → PH → Prop} {σ : St} {H : PH} (hw : wantedS ol σ o = some true) (hc : cls o.op = .nw)
    (h : ∀ b, H b = none → K (σ.put o.dst (.v (.map (some b)))) (H.put b (.map #[] 0))) : VDstep P ol fr str o K σ H := .inr ⟨hw, by rw [hc]; exact h⟩
theorem VDstep_xv {fr : FrB} {str : StB} {o : Oper} {K : St → PH → Prop} {σ : St} {H : PH} {sv : SV} (h : XV P ol fr σ H o sv) (hk : K (σ.put o.dst sv) H) : VDstep P ol fr str o K σ H := by
  rcases h with ⟨hw, rfl⟩ | ⟨hw, hc, hv⟩
  · exact .inl ⟨hw, hk⟩
  · exact .inr ⟨hw, by rw [hc]; exact ⟨sv, hv, hk⟩⟩
theorem VDstep_alc {fr : FrB} {str : StB} {o : Oper} {K : St → PH → Prop} {σ : St} {H : PH} {d : Nat} {T : TypeId} {cs : List Value} (hw : wantedS ol σ o = some true) (hc : cls o.op = .alc) (hd : o.dst = some d)
    (ha : acOf P (ev σ) o.op = some (T, cs)) (hk : K (σ.newBox d T cs) H) : VDstep P ol fr str o K σ H := .inr ⟨hw, by rw [hc]; exact ⟨d, T, cs, hd, ha, hk⟩⟩
theorem stOf_congr {bx : List Box} {ρ ρ' : Operand → SV} {op : Op} (h : ∀ x ∈ op.operands, ρ x = ρ' x) : stOf P bx ρ op = stOf P bx ρ' op := by
  cases op <;> simp only [stOf] <;> simp only [Op.operands] at h
  simp_all
theorem XV_store {fr : FrB} {σ : St} {H : PH} {o : Oper} {sv : SV} {k off : Nat} {cs : List Value} (hn : noLd o.op = true ∨ fr.k = true) (hm : memN fr.kp k = false) (h : XV P ol fr σ H o sv) : XV P ol fr (σ.store k off cs) H o sv := by
  rcases h with h | ⟨h1, h2, h3⟩
  · exact .inl h
  · refine .inr ⟨h1, h2, ?_⟩
    rcases h3 with ⟨φ, a, b⟩ | h3
    · refine .inl ⟨φ, ?_, b⟩
      rcases hn with hn | hn
      · rw [pv_noLd (bx' := kb fr.k fr.kp σ.bx) hn]; exact a
      · rw [hn] at a ⊢
        show pv P (keepB fr.kp (updB σ.bx k off cs)) _ _ = _
        rw [keepB_updB hm]; exact a
    · exact .inr h3
theorem XV_storeN {fr : FrB} {σ : St} {H : PH} {o : Oper} {sv : SV} {k off : Nat} {cs : List Value} (hn : noLd o.op = true) (h : XV P ol fr σ H o sv) : XV P ol fr (σ.store k off cs) H o sv := by
  rcases h with h | ⟨h1, h2, h3⟩
  · exact .inl h
  · refine .inr ⟨h1, h2, ?_⟩
    rcases h3 with ⟨φ, a, b⟩ | h3
    · refine .inl ⟨φ, ?_, b⟩
      rw [pv_noLd (bx' := kb fr.k fr.kp σ.bx) hn]; exact a
    · exact .inr h3
theorem contains_false {l : List Nat} {d : Nat} (h : (!l.contains d) = true) : d ∉ l := by simpa using h
theorem swap {frx fry : FrB} {strx stry : StB} (hJ : frx.J = fry.J) (hK : frx.kp = fry.kp) {x y : Oper} {K : St → PH → Prop} {σ : St} {H : PH} (hs : Srt σ.bx) (ok : swOk ol frx strx stry x y = true)
    (h : VDstep P ol frx strx x (VDstep P ol fry stry y K) σ H) : VDstep P ol fry stry y (VDstep P ol frx strx x K) σ H := by
  simp only [swOk, Bool.and_eq_true] at ok
  obtain ⟨hind, hcl⟩ := ok
  simp only [indep, Bool.and_eq_true] at hind
  obtain ⟨hi1, hi2⟩ := hind
  have dx : ∀ e, x.dst = some e → e ∉ looks ol y := fun e he => by rw [he] at hi1; simp only [Bool.and_eq_true] at hi1; exact contains_false hi1.1
  have dxy : ∀ e, x.dst = some e → y.dst ≠ some e := fun e he h2 => by rw [he] at hi1; simp [h2] at hi1
  have dy : ∀ e, y.dst = some e → e ∉ looks ol x := fun e he => by rw [he] at hi2; simp only [Bool.and_eq_true] at hi2; exact contains_false hi2.1
  have dyx : ∀ e, y.dst = some e → x.dst ≠ some e := fun e he h2 => dxy e h2 he
  rcases VDstep_cases h with ⟨svx, hx, h⟩ | ⟨hwx, hcx, d, T, cs, hd, hac, h⟩ | ⟨hwx, hcx, hknx, hspx⟩ | ⟨hwx, hcx, _⟩ | ⟨hwx, hcx, _⟩
  ·
    rcases VDstep_cases h with ⟨svy, hy, h⟩ | ⟨hwy, hcy, e, T, cs, he, hac, h⟩ | ⟨hwy, hcy, hkn, hsp⟩ | ⟨hwy, hcy, hst⟩ | ⟨hwy, hcy, hnk⟩
    · exact VDstep_xv ((XV_put dx).1 hy) (VDstep_xv ((XV_put dy).2 hx) (by rw [← put_comm _ _ _ _ _ dxy]; exact h))
    · rcases hx with ⟨hwx, rfl⟩ | ⟨hwx, hcx, _⟩
      · rw [wantedS_put dx] at hwy
        rw [acOf_put dx] at hac
        refine VDstep_alc hwy hcy he hac (VDstep_xv (sv := .v undef) (.inl ⟨(wantedS_newBox (dy e he)).2 hwx, rfl⟩) ?_)
        rw [newBox_put _ _ _ _ _ _ (dyx e he)] at h
        exact h
      · rw [hcx, hcy] at hcl; cases hcl
    · rw [wantedS_put dx] at hwy
      have hk : knownS (σ.put x.dst svx) y.op = knownS σ y.op := knownS_congr fun z hz => by rw [ev_put_op dx z hz]
      have he : execOp (cenv (σ.put x.dst svx)) y = execOp (cenv σ) y := exec_cenv (noSel_known hkn) fun z hz => by simp only [cenv, ev_put_op dx z hz]
      rw [hk] at hkn
      rw [he] at hsp
      refine .inr ⟨hwy, by
        rw [hcy]
        refine ⟨hkn, hsp.mono' fun sv H2 _ hΨ => ⟨hΨ.1, ?_⟩⟩
        have hx2 : XV P ol frx σ H2 x svx := by
          rcases hx with hx | ⟨hwx, hcx, hv⟩
          · exact .inl hx
          · rw [hcx, hcy] at hcl
            simp only [Bool.and_eq_true, Bool.or_eq_true, Bool.not_eq_true'] at hcl
            refine XV_le (.inr ⟨hwx, hcx, hv⟩) (fun hf => hΨ.1.1 ?_) fun hf => ?_
            · rcases hcl.1 with h1 | h1
              · rw [hf] at h1; cases h1
              · exact h1
            · rw [hJ]
              refine hΨ.1.2 ?_
              rcases hcl.2 with h1 | h1
              · rw [hf] at h1; cases h1
              · exact h1
        exact VDstep_xv ((XV_put dy).2 hx2) (by rw [← put_comm _ _ _ _ _ dxy]; exact hΨ.2)⟩
    · rw [hcy] at hcl
      cases hc : cls x.op <;> rw [hc] at hcl <;> first | (exact Bool.noConfusion hcl) | skip
      simp only [Bool.and_eq_true, Bool.or_eq_true, Bool.not_eq_true'] at hcl
      rw [wantedS_put dx] at hwy
      rcases hst with ⟨k, off, cs, ha, hm, hk⟩ | ⟨hsk, hkn, hsp⟩
      · rw [bx_put, stOf_congr (ev_put_op dx)] at ha
        have hx2 : XV P ol frx (σ.store k off cs) H x svx := by
          rcases hcl with ⟨h1, h2⟩ | ⟨⟨h1, _⟩, _⟩
          · exact XV_store h2 (by rw [hK]; exact hm h1) hx
          · exact XV_storeN h1 hx
        refine .inr ⟨hwy, by
          rw [hcy]
          refine .inl ⟨k, off, cs, ha, hm, VDstep_xv ((XV_put dy).2 hx2) ?_⟩
          rw [← put_comm _ _ _ _ _ dxy]
          have : (σ.store k off cs).put x.dst svx = (σ.put x.dst svx).store k off cs := by cases x.dst <;> rfl
          rw [this]; exact hk⟩
      · have hn : frx.h = false ∧ frx.j = false := by
          rcases hcl with ⟨h1, _⟩ | ⟨⟨_, h1⟩, h2⟩
          · rw [hsk] at h1; cases h1
          · exact ⟨h1, h2⟩
        have hk : knownS (σ.put x.dst svx) y.op = knownS σ y.op := knownS_congr fun z hz => by rw [ev_put_op dx z hz]
        have he : execOp (cenv (σ.put x.dst svx)) y = execOp (cenv σ) y := exec_cenv (noSel_known hkn) fun z hz => by simp only [cenv, ev_put_op dx z hz]
        rw [hk] at hkn
        rw [he] at hsp
        refine .inr ⟨hwy, by
          rw [hcy]
          refine .inr ⟨hsk, hkn, hsp.mono' fun sv H2 _ hΨ => ?_⟩
          have hx2 : XV P ol frx σ H2 x svx := XV_le hx (fun hf => by rw [hn.1] at hf; cases hf) fun hf => by rw [hn.2] at hf; cases hf
          exact VDstep_xv ((XV_put dy).2 hx2) (by rw [← put_comm _ _ _ _ _ dxy]; exact hΨ)⟩
    · rw [wantedS_put dx] at hwy
      refine VDstep_nw hwy hcy fun b hb => ?_
      have hle := PH.le_put (o := .map #[] 0) hb
      exact VDstep_xv ((XV_put dy).2 (XV_le hx (fun _ => hle) fun _ hj => PH.le_trans hj hle)) (by rw [← put_comm _ _ _ _ _ dxy]; exact hnk b hb)
  ·
    have hdy := dx d hd
    rcases VDstep_cases h with ⟨svy, hy, h⟩ | ⟨hwy, hcy, e, T', cs', he, hac', h⟩ | ⟨hwy, hcy, hkn, hsp⟩ | ⟨hwy, hcy, hst⟩ | ⟨hwy, hcy, hnk⟩
    · obtain ⟨sv', hy', rfl⟩ := XV_newBox hdy hy
      refine VDstep_xv hy' (VDstep_alc (by rw [wantedS_put dy]; exact hwx) hcx hd (by rw [acOf_put dy]; exact hac) ?_)
      rw [newBox_put _ _ _ _ _ _ (dxy d hd)]
      exact h
    · have hde : d ≠ e := fun x2 => dxy d hd (by rw [x2]; exact he)
      refine VDstep_alc ((wantedS_newBox hdy).1 hwy) hcy he ((acOf_newBox hdy).1 hac') (VDstep_alc ((wantedS_newBox (dy e he)).2 hwx) hcx hd ((acOf_newBox (dy e he)).2 hac) ?_)
      rw [← newBox_comm _ _ _ _ _ _ _ hde hs]
      exact h
    · have hv : ∀ z ∈ y.op.operands, ev (σ.newBox d T cs) z = ev σ z := by
        intro z hz
        have hc := hkn
        simp only [knownS, Bool.and_eq_true, List.all_eq_true] at hc
        have := hc.2 z (by simpa using hz)
        rw [ev_newBox_op hdy z hz] at this ⊢
        cases hsv : ev σ z with
        | v y => rfl
        | u => rw [hsv] at this; cases this
        | p k off => rw [hsv] at this; simp only [clr] at this; split at this <;> cases this
      have hk : knownS (σ.newBox d T cs) y.op = knownS σ y.op := knownS_congr fun z hz => by rw [hv z hz]
      have he : execOp (cenv (σ.newBox d T cs)) y = execOp (cenv σ) y := exec_cenv (noSel_known hkn) fun z hz => by simp only [cenv, hv z hz]
      rw [hk] at hkn
      rw [he] at hsp
      refine .inr ⟨(wantedS_newBox hdy).1 hwy, by
        rw [hcy]
        refine ⟨hkn, hsp.mono' fun sv H2 hcl2 hΨ => ⟨hΨ.1, ?_⟩⟩
        refine VDstep_alc (by rw [wantedS_put dy]; exact hwx) hcx hd (by rw [acOf_put dy]; exact hac) ?_
        rw [newBox_put _ _ _ _ _ _ (dxy d hd), hcl2]
        exact hΨ.2⟩
    · rw [hcx, hcy] at hcl; cases hcl
    · refine VDstep_nw ((wantedS_newBox hdy).1 hwy) hcy fun b hb => ?_
      refine VDstep_alc (by rw [wantedS_put dy]; exact hwx) hcx hd (by rw [acOf_put dy]; exact hac) ?_
      rw [newBox_put _ _ _ _ _ _ (dxy d hd)]
      exact hnk b hb
  ·
    rw [hcx] at hcl
    cases hcy : cls y.op <;> rw [hcy] at hcl <;> first | (exact Bool.noConfusion hcl) | skip
    simp only [Bool.and_eq_true, Bool.not_eq_true', Option.isNone_iff_eq_none] at hcl
    have hw' : ∀ σ', wantedS ol σ' y = some true := fun σ' => by simp [wantedS, hcl.2]
    refine VDstep_nw (hw' _) hcy fun b hb => ?_
    have hk : knownS (σ.put y.dst (.v (.map (some b)))) x.op = knownS σ x.op := knownS_congr fun z hz => by rw [ev_put_op dy z hz]
    have he : execOp (cenv (σ.put y.dst (.v (.map (some b))))) x = execOp (cenv σ) x := exec_cenv (noSel_known hknx) fun z hz => by simp only [cenv, ev_put_op dy z hz]
    refine .inr ⟨by rw [wantedS_put dy]; exact hwx, by
      rw [hcx]
      refine ⟨by rw [hk]; exact hknx, ?_⟩
      rw [he]
      refine (hspx.beside (o := .map #[] 0) hb).mono fun sv H2' hh => ?_
      obtain ⟨H2, rfl, h2b, hkeep, hy⟩ := hh
      refine ⟨⟨fun hf => ?_, fun hf => ?_⟩, ?_⟩
      · have := hkeep.1 hf
        intro c o hc
        by_cases e : c = b
        · subst e; simp only [PH.put, if_true] at hc ⊢; exact hc
        · simp only [PH.put, if_neg e] at hc ⊢; exact this c o hc
      · rw [hcl.1] at hf; cases hf
      · rcases hy with ⟨hw2, _⟩ | ⟨_, hy⟩
        · rw [hw'] at hw2; cases hw2
        · rw [hcy] at hy
          have := hy b h2b
          rw [put_comm _ _ _ _ _ dyx]
          exact this⟩
  · rw [hcx] at hcl; cases hc : cls y.op <;> rw [hc] at hcl <;> cases hcl
  · rw [hcx] at hcl; cases hc : cls y.op <;> rw [hc] at hcl <;> cases hcl
end
end Go.Sx
end
section
namespace Go.Sx
open Go
def dirOf (o : Oper) : List Nat := (o.after.toList.filter (Region.binds .any)).map (·.on)
def closOf (ol : List Oper) : List (List Nat) :=
  ol.foldl (fun acc o => acc ++ [(dirOf o ++ (dirOf o).flatMap (fun d => acc.getD d [])).eraseDups]) []
def okCl (ol : List Oper) (cl : List (List Nat)) : Bool :=
  (List.range ol.length).all fun y => match ol[y]? with
    | some o => (dirOf o).all (fun z => decide (z < y)) && (cl.getD y []).all fun x => (dirOf o).contains x || (dirOf o).any fun z => (cl.getD z []).contains x
    | none => true
def pairsOk (ol : List Oper) (cl : List (List Nat)) (fr : FrD) (str : StD) : List Nat → Bool
  | [] => true
  | x :: l => decide (x < ol.length) && !l.contains x && l.all (fun y => (cl.getD y []).contains x || match ol[x]?, ol[y]? with
      | some ox, some oy => swOk ol (fr.at' x) (str.at' x) (str.at' y) ox oy
      | _, _ => false) && pairsOk ol cl fr str l
def okD (ol : List Oper) (κ : List Nat) (fr : FrD) (str : StD) : Bool :=
  okCl ol (closOf ol) && (List.range ol.length).all (κ.contains ·) && pairsOk ol (closOf ol) fr str κ
section
variable {P : Program} {ol : List Oper} {fr : FrD} {str : StD} {K : St → PH → Prop}
theorem VDstep_mono {f : FrB} {s : StB} {o : Oper} {K K' : St → PH → Prop} {σ : St} {H : PH} (k : ∀ σ' H', Srt σ'.bx → K σ' H' → K' σ' H') (hs : Srt σ.bx) (h : VDstep P ol f s o K σ H) : VDstep P ol f s o K' σ H := by
  rcases h with ⟨hw, h⟩ | ⟨hw, h⟩
  · exact .inl ⟨hw, k _ _ (hs.put _ _) h⟩
  · refine .inr ⟨hw, ?_⟩
    cases hc : cls o.op <;> rw [hc] at h <;> simp only at h ⊢
    · obtain ⟨sv, hv, hk⟩ := h; exact ⟨sv, hv, k _ _ (hs.put _ _) hk⟩
    · obtain ⟨d, T, cs, hd, ha, hk⟩ := h; exact ⟨d, T, cs, hd, ha, k _ _ (hs.newBox _ _ _) hk⟩
    · rcases h with ⟨x, off, cs, ha, hm, hk⟩ | ⟨hn, hk, hsp⟩
      · exact .inl ⟨x, off, cs, ha, hm, k _ _ ((hs.store _ _ _).put _ _) hk⟩
      · exact .inr ⟨hn, hk, hsp.mono fun sv H2 hh => k _ _ (hs.put _ _) hh⟩
    · exact ⟨h.1, h.2.mono fun sv H2 hh => ⟨hh.1, k _ _ (hs.put _ _) hh.2⟩⟩
    · exact fun b hb => k _ _ (hs.put _ _) (h b hb)
theorem bubble {i : Nat} {oi : Oper} (hi : ol[i]? = some oi) : ∀ (l1 l2 : List Nat) {σ : St} {H : PH}, Srt σ.bx → (∀ x ∈ l1, ∃ ox, ol[x]? = some ox ∧ swOk ol (fr.at' x) (str.at' x) (str.at' i) ox oi = true) →
    VD P ol fr str K (l1 ++ i :: l2) σ H → VD P ol fr str K (i :: (l1 ++ l2)) σ H
  | [], l2, σ, H, hs, _, h => h
  | x :: l1, l2, σ, H, hs, hsw, h => by
    obtain ⟨ox, hx, hok⟩ := hsw x (.head _)
    simp only [List.cons_append, VD, hx, hi] at h ⊢
    refine swap (frx := fr.at' x) (fry := fr.at' i) rfl rfl hs hok ?_
    refine VDstep_mono (fun σ' H' hs' h' => ?_) hs h
    have := bubble hi l1 l2 hs' (fun y hy => hsw y (.tail _ hy)) h'
    simpa only [VD, hi] using this
theorem pairs_of {cl : List (List Nat)} : ∀ {l1 l2 : List Nat} {i : Nat}, pairsOk ol cl fr str (l1 ++ i :: l2) = true →
    (∀ x ∈ l1, x ∈ cl.getD i [] ∨ ∃ ox oy, ol[x]? = some ox ∧ ol[i]? = some oy ∧ swOk ol (fr.at' x) (str.at' x) (str.at' i) ox oy = true) ∧ pairsOk ol cl fr str (l1 ++ l2) = true ∧ i ∉ l1 ++ l2
  | [], l2, i, h => by
    simp only [List.nil_append, pairsOk, Bool.and_eq_true] at h
    exact ⟨fun x hx => (List.not_mem_nil hx).elim, h.2, by simpa using h.1.1.2⟩
  | x :: l1, l2, i, h => by
    simp only [List.cons_append, pairsOk, Bool.and_eq_true] at h
    obtain ⟨⟨⟨h1, h2⟩, h3⟩, h4⟩ := h
    obtain ⟨a, b, c⟩ := pairs_of h4
    have h3' := List.all_eq_true.1 h3
    have h2' : x ∉ l1 ++ i :: l2 := by simpa using h2
    refine ⟨fun y hy => ?_, ?_, ?_⟩
    · rcases List.mem_cons.1 hy with rfl | hy
      · have := h3' i (List.mem_append_right _ (.head _))
        simp only [Bool.or_eq_true] at this
        rcases this with h | h
        · exact .inl (by simpa using h)
        · right
          split at h
          · rename_i ox oy e1 e2; exact ⟨ox, oy, e1, e2, h⟩
          · cases h
      · exact a y hy
    · simp only [List.cons_append, pairsOk, Bool.and_eq_true]
      refine ⟨⟨⟨h1, ?_⟩, ?_⟩, b⟩
      · have : x ∉ l1 ++ l2 := fun hm => h2' (by
          rcases List.mem_append.1 hm with h | h
          · exact List.mem_append_left _ h
          · exact List.mem_append_right _ (.tail _ h))
        simpa using this
      · refine List.all_eq_true.2 fun y hy => h3' y ?_
        rcases List.mem_append.1 hy with h | h
        · exact List.mem_append_left _ h
        · exact List.mem_append_right _ (.tail _ h)
    · intro hm
      rcases List.mem_cons.1 hm with rfl | hm
      · exact h2' (List.mem_append_right _ (.head _))
      · exact c hm
theorem anc_listed {cl : List (List Nat)} (hcl : okCl ol cl = true) {L : Nat → Prop} (closed : ∀ y o, ol[y]? = some o → L y → ∀ z ∈ dirOf o, L z) :
    ∀ (n y : Nat), y < n → ∀ o, ol[y]? = some o → (∀ z ∈ dirOf o, L z) → ∀ x ∈ cl.getD y [], L x
  | 0, y, h => by omega
  | n + 1, y, h => by
    intro o ho hd x hx
    have hy : y < ol.length := by
      rcases Nat.lt_or_ge y ol.length with h | h
      · exact h
      · rw [List.getElem?_eq_none h] at ho; cases ho
    have h1 := List.all_eq_true.1 hcl y (List.mem_range.2 hy)
    simp only [ho, Bool.and_eq_true] at h1
    have h2 := List.all_eq_true.1 h1.2 x hx
    simp only [Bool.or_eq_true] at h2
    rcases h2 with h2 | h2
    · exact hd x (by simpa using h2)
    · obtain ⟨z, hz, hxz⟩ := List.any_eq_true.1 h2
      have hzy := List.all_eq_true.1 h1.1 z hz
      simp only [decide_eq_true_eq] at hzy
      have hzl : z < ol.length := by omega
      have hoz : ol[z]? = some ol[z] := List.getElem?_eq_getElem hzl
      exact anc_listed hcl closed n z (by omega) _ hoz (closed z _ hoz (hd z hz)) x (by simpa using hxz)
theorem any_sound {r : Option Nat} {n0 : Nat} {H0 : PH} {w0 : World} (hn : n0 = w0.heap.size) {ops : Array Oper} (hol : ops.toList = ol) {cl : List (List Nat)} (hcl : okCl ol cl = true) :
    ∀ (fuel : Nat) (κ : List Nat) (listed : Array Bool) {σ : St} {H : PH} {a : Act} {w : World}, κ.length ≤ fuel → listed.size = ops.size → pairsOk ol cl fr str κ = true →
      (∀ i, i ∈ κ ↔ i < ops.size ∧ listed.getD i true = false) →
      (∀ y o, ol[y]? = some o → listed.getD y false = true → ∀ z ∈ dirOf o, listed.getD z false = true) →
      Srt σ.bx → VD P ol fr str K κ σ H → Step H0 w0 H w → G n0 σ H a w → wpAnyIn (FR r) 0 P .any ops (QK n0 H0 w0 K) fuel listed a w := by
  subst hol
  have readyIff : ∀ (listed : Array Bool) (i : Nat), i ∈ Region.ready .any ops listed ↔ i < ops.size ∧ listed.getD i true = false ∧ ∃ o, ops[i]? = some o ∧ ∀ z ∈ dirOf o, listed.getD z false = true := by
    intro listed i
    simp only [Region.ready, List.mem_filter, List.mem_range, Bool.and_eq_true, Bool.not_eq_true']
    constructor
    · rintro ⟨h1, h2, h3⟩
      refine ⟨h1, h2, ?_⟩
      cases ho : ops[i]? with
      | none => rw [ho] at h3; cases h3
      | some o =>
        rw [ho] at h3
        simp only [Option.map_some, Option.getD_some] at h3
        refine ⟨o, rfl, fun z hz => ?_⟩
        simp only [dirOf, List.mem_map, List.mem_filter] at hz
        obtain ⟨e, ⟨he, hb⟩, rfl⟩ := hz
        have := Array.all_eq_true'.1 h3 e (by simpa using he)
        simpa [hb] using this
    · rintro ⟨h1, h2, o, ho, h3⟩
      refine ⟨h1, h2, ?_⟩
      rw [ho]
      simp only [Option.map_some, Option.getD_some]
      refine Array.all_eq_true'.2 fun e he => ?_
      cases hb : Region.binds .any e with
      | false => rfl
      | true =>
        have := h3 e.on (by simp only [dirOf, List.mem_map, List.mem_filter]; exact ⟨e, ⟨by simpa using he, hb⟩, rfl⟩)
        simpa using this
  have sizeol : ops.size = ops.toList.length := (Array.length_toList).symm
  have getol : ∀ i : Nat, ops[i]? = ops.toList[i]? := fun i => by simp
  have noneLeft : ∀ (κ : List Nat) (listed : Array Bool), (∀ i, i ∈ κ ↔ i < ops.size ∧ listed.getD i true = false) → listed.size = ops.size → Region.ready .any ops listed = [] → κ = [] := by
    intro κ listed hm hsz hr
    have key : ∀ n i, i < n → i < ops.size → listed.getD i true = true := by
      intro n
      induction n with
      | zero => intro i h; omega
      | succ n ih =>
        intro i hi hio
        cases hl : listed.getD i true with
        | true => rfl
        | false =>
          exfalso
          have hoi : ops[i]? = some ops[i] := Array.getElem?_eq_getElem hio
          have : i ∈ Region.ready .any ops listed := (readyIff listed i).2 ⟨hio, hl, ops[i], hoi, fun z hz => by
            have h1 := List.all_eq_true.1 hcl i (List.mem_range.2 (by omega))
            rw [← getol i, hoi] at h1
            simp only [Bool.and_eq_true] at h1
            have hzi := List.all_eq_true.1 h1.1 z hz
            simp only [decide_eq_true_eq] at hzi
            have := ih z (by omega) (by omega)
            rw [Array.getD_eq_getD_getElem?] at this ⊢
            rw [Array.getElem?_eq_getElem (by omega)] at this ⊢
            simpa using this⟩
          rw [hr] at this; cases this
    cases κ with
    | nil => rfl
    | cons i l =>
      exfalso
      have := (hm i).1 (.head _)
      rw [key (i + 1) i (by omega) this.1] at this
      exact Bool.noConfusion this.2
  intro fuel
  induction fuel with
  | zero =>
    intro κ listed σ H a w hlen hsz hp hm hc hs h st g
    have : κ = [] := List.length_eq_zero_iff.1 (by omega)
    subst this
    refine ⟨?_, σ, H, h, st, g⟩
    cases hr : Region.ready .any ops listed with
    | nil => rfl
    | cons i l =>
      have hi := (readyIff listed i).1 (by rw [hr]; exact .head _)
      exact absurd ((hm i).2 ⟨hi.1, hi.2.1⟩) List.not_mem_nil
  | succ fuel ih =>
    intro κ listed σ H a w hlen hsz hp hm hc hs h st g
    refine ⟨fun hr => ?_, fun i hi => ?_⟩
    · have := noneLeft κ listed hm hsz hr
      subst this
      exact ⟨σ, H, h, st, g⟩
    · obtain ⟨h1, h2, oi, hoi, hdeps⟩ := (readyIff listed i).1 hi
      have hik : i ∈ κ := (hm i).2 ⟨h1, h2⟩
      obtain ⟨l1, l2, rfl⟩ := List.append_of_mem hik
      obtain ⟨pa, pb, pc⟩ := pairs_of hp
      have hoi' : ops.toList[i]? = some oi := by rw [← getol]; exact hoi
      have hb := bubble (K := K) (P := P) hoi' l1 l2 hs (fun x hx => by
        rcases pa x hx with hxc | ⟨ox, oy, e1, e2, e3⟩
        · exfalso
          have := anc_listed hcl (L := fun x => listed.getD x false = true) hc (i + 1) i (by omega) oi hoi' hdeps x hxc
          have hx2 := ((hm x).1 (List.mem_append_left _ hx)).2
          rw [Array.getD_eq_getD_getElem?] at this hx2
          cases hg : listed[x]? with
          | none => rw [hg] at this; cases this
          | some b => rw [hg] at this hx2; simp only [Option.getD_some] at this hx2; rw [this] at hx2; cases hx2
        · rw [hoi'] at e2; cases e2; exact ⟨ox, e1, e3⟩) h
      simp only [VD, hoi'] at hb
      have hv := (VDstep_mono (K' := fun σ' H' => Srt σ'.bx ∧ VD P ops.toList fr str K (l1 ++ l2) σ' H') (fun σ' H' hs' h' => ⟨hs', h'⟩) hs hb).toV
      refine Vstep_sound hoi hn (fun σ' H' a' w' hk st' g' => ?_) hv st g
      have getset : ∀ (j : Nat) (d : Bool), (listed.setIfInBounds i true).getD j d = if i = j then (if i < listed.size then true else d) else listed.getD j d := by
        intro j d
        rw [Array.getD_eq_getD_getElem?, Array.getElem?_setIfInBounds]
        by_cases e : i = j
        · subst e; by_cases hl : i < listed.size <;> simp [hl]
        · simp [e, Array.getD_eq_getD_getElem?]
      refine ih (l1 ++ l2) _ (by simp at hlen ⊢; omega) (by simp [hsz]) pb (fun j => ?_) (fun y o ho hl z hz => ?_) hk.1 hk.2 st' g'
      · rw [getset]
        by_cases e : i = j
        · subst e
          simp only [if_true, if_pos (show i < listed.size by omega)]
          exact ⟨fun hm' => absurd hm' pc, fun hh => by cases hh.2⟩
        · simp only [if_neg e]
          rw [← hm j]
          constructor
          · intro hj
            rcases List.mem_append.1 hj with hj | hj
            · exact List.mem_append_left _ hj
            · exact List.mem_append_right _ (.tail _ hj)
          · intro hj
            rcases List.mem_append.1 hj with hj | hj
            · exact List.mem_append_left _ hj
            · rcases List.mem_cons.1 hj with rfl | hj
              · exact absurd rfl e
              · exact List.mem_append_right _ hj
      · rw [getset] at hl ⊢
        have hlt : i < listed.size := by omega
        by_cases ez : i = z
        · subst ez; simp [hlt]
        · simp only [if_neg ez]
          by_cases ey : i = y
          · subst ey
            rw [hoi'] at ho; cases ho
            exact hdeps z hz
          · simp only [if_neg ey] at hl
            exact hc y o ho hl z hz
theorem nodup_lt : ∀ (n : Nat) (l : List Nat), l.Nodup → (∀ i ∈ l, i < n) → l.length ≤ n
  | 0, l, _, h => by cases l with | nil => simp | cons x l => exact absurd (h x (.head _)) (by omega)
  | n + 1, l, hn, h => by
    have h1 := nodup_lt n (l.erase n) (hn.erase n) fun i hi => by
      have := (hn.mem_erase_iff).1 hi
      have := h i this.2
      omega
    by_cases hm : n ∈ l
    · rw [List.length_erase_of_mem hm] at h1; omega
    · rw [List.erase_of_not_mem hm] at h1; omega
theorem draw_sound {r : Option Nat} {n0 : Nat} {H0 : PH} {w0 : World} (hn : n0 = w0.heap.size) (hm : P.follows .mixedOrders = true) {id : Nat} {ops : Array Oper} {κ : List Nat} (hok : okD ops.toList κ fr str = true) {σ : St} {H : PH} {a : Act} {w : World}
    (hs : Srt σ.bx) (h : VD P ops.toList fr str K κ σ H) (st : Step H0 w0 H w) (g : G n0 σ H a w) : (Code.region id ops true).wpIn (FR r) 0 P (QK n0 H0 w0 K) a w := by
  simp only [okD, Bool.and_eq_true] at hok
  obtain ⟨⟨h1, h2⟩, h3⟩ := hok
  have mem : ∀ (l : List Nat), pairsOk ops.toList (closOf ops.toList) fr str l = true → ∀ i ∈ l, i < ops.size := by
    intro l
    induction l with
    | nil => intro _ i hi; cases hi
    | cons x l ih =>
      intro hp i hi
      simp only [pairsOk, Bool.and_eq_true, decide_eq_true_eq] at hp
      rcases List.mem_cons.1 hi with rfl | hi
      · simpa using hp.1.1.1
      · exact ih hp.2 i hi
  have len : ∀ (l : List Nat), pairsOk ops.toList (closOf ops.toList) fr str l = true → l.Nodup := by
    intro l
    induction l with
    | nil => intro _; exact List.nodup_nil
    | cons x l ih =>
      intro hp
      simp only [pairsOk, Bool.and_eq_true] at hp
      exact List.nodup_cons.2 ⟨by simpa using hp.1.1.2, ih hp.2⟩
  have hlen : κ.length ≤ ops.size := by
    exact nodup_lt _ _ (len κ h3) (mem κ h3)
  refine wpIn_region_any hm (any_sound hn rfl h1 ops.size κ _ hlen (by simp) h3 (fun i => ?_) (fun y o ho hl => ?_) hs h (w := { w with drawn := w.drawn + 1 }) ?_ ?_)
  · constructor
    · intro hi
      have := mem κ h3 i hi
      exact ⟨this, by simp [Array.getD_eq_getD_getElem?, this]⟩
    · rintro ⟨hi, _⟩
      have := List.all_eq_true.1 h2 i (List.mem_range.2 (by simpa using hi))
      simpa using this
  · exfalso
    rw [Array.getD_eq_getD_getElem?, Array.getElem?_replicate] at hl
    split at hl <;> cases hl
  · exact ⟨st.sub, st.size, st.priv, st.dom, st.os, st.tape, st.out⟩
  · obtain ⟨β, g⟩ := g
    exact ⟨β, g.defers, g.size, g.tm, g.bx, g.inj, g.lo, g.keys⟩
end
end Go.Sx
end
section
namespace Go.Sx
open Go
structure Cx where
  P : Program
  f : FuncId
  fn : Func
  hf : P.funcs[f]? = some fn
  H0 : PH
  w0 : World
  post : Value → PH → Prop
  rd : Option (Nat × (Option Code → PH → Prop))
def EndOk (C : Cx) (e : Ending) (w : World) : Prop :=
  match e with
  | .returned v => ∃ H2, Step C.H0 C.w0 H2 w ∧ C.post v H2
  | _ => False
def Cx.fr (C : Cx) : Frame := { (default : Frame) with fn := C.f, kind := .normal, roundOf := C.rd.map (·.1) }
def EndsAt : Option Code → List Item → Prop
  | none, k => k = []
  | some c, k => ∃ k', k = .code c :: k' ∧ (c = .ret ∨ ∃ id, c = .exit id ∧ exitTo id k' = none)
def Goal (C : Cx) (cs : List Frame) (m : Machine) : Prop :=
  match C.rd with
  | none => ∃ e w' fr, EndOk C e w' ∧ Comes C.P m (lone fr cs w') e ∧ fr.fn = C.f ∧ fr.leaving C.P w' e
  | some (_, Q) => ∃ j a k w1 H1, Steps C.P m (lone (C.fr.atR a k) cs w1) ∧ EndsAt j k ∧ Step C.H0 C.w0 H1 w1 ∧ Q j H1
theorem Goal.steps {C : Cx} {cs : List Frame} {m m' : Machine} (h : Steps C.P m m') (g : Goal C cs m') : Goal C cs m := by
  unfold Goal at g ⊢
  split at g
  · obtain ⟨e, w', fr, h1, h2, h3⟩ := g; exact ⟨e, w', fr, h1, .of_steps h h2, h3⟩
  · obtain ⟨j, a, k, w1, H1, h1, h2⟩ := g; exact ⟨j, a, k, w1, H1, h.trans h1, h2⟩
def R (C : Cx) (k : List Item) (σ : St) (H : PH) : Prop :=
  ∀ w a cs, Step C.H0 C.w0 H w → G C.w0.heap.size σ H a w → Goal C cs (lone (C.fr.atR a k) cs w)
section
variable {C : Cx} {k : List Item} {σ : St} {H : PH}
theorem R_step {k' : List Item} (h : R C k' σ H) (st : ∀ a cs w, G C.w0.heap.size σ H a w → step C.P (lone (C.fr.atR a k) cs w) = .next (lone (C.fr.atR a k') cs w)) : R C k σ H :=
  fun w a cs s g => Goal.steps (.one (st a cs w g)) (h w a cs s g)
theorem R_skip (h : R C k σ H) : R C (.code .skip :: k) σ H := R_step h fun _ _ _ _ => stepR_skip
theorem R_label {l : Nat} (h : R C k σ H) : R C (.code (.label l) :: k) σ H := R_step h fun _ _ _ _ => stepR_label
theorem R_inBlock {id : Nat} (h : R C k σ H) : R C (.inBlock id :: k) σ H := R_step h fun _ _ _ _ => stepR_inBlock
theorem R_seq {x y : Code} (h : R C (.code x :: .code y :: k) σ H) : R C (.code (.seq x y) :: k) σ H := R_step h fun _ _ _ _ => stepR_seq
theorem R_block {id : Nat} {c : Code} (h : R C (.code c :: .inBlock id :: k) σ H) : R C (.code (.block id c) :: k) σ H := R_step h fun _ _ _ _ => stepR_block
theorem R_exit {id : Nat} {k' : List Item} (he : exitTo id k = some k') (h : R C k' σ H) : R C (.code (.exit id) :: k) σ H := R_step h fun _ _ _ _ => stepR_exit he
theorem R_cond {c : Operand} {x y : Code} {t : Bool} (hc : ev σ c = .v (.bool t)) (h : R C (.code (if t then x else y) :: k) σ H) : R C (.code (.cond c x y) :: k) σ H :=
  R_step h fun _ _ _ g => stepR_cond (by obtain ⟨β, g⟩ := g; exact eval_v g hc)
theorem R_inLoop {c : Code} (h : R C (.code c :: .inLoop c :: k) σ H) : R C (.inLoop c :: k) σ H := R_step h fun _ _ _ _ => stepR_inLoop
theorem R_loop1 {c : Code} (h : R C (.code c :: .inLoop c :: k) σ H) : R C (.code (.loop c) :: k) σ H := R_step h fun _ _ _ _ => stepR_loop
theorem R_loop {c : Code} (J : Nat → St → PH → Prop) (n : Nat) (h0 : J n σ H)
    (h : ∀ n σ H, J n σ H → (∀ m, m < n → ∀ σ' H', J m σ' H' → R C (.inLoop c :: k) σ' H') → R C (.code c :: .inLoop c :: k) σ H) : R C (.code (.loop c) :: k) σ H := by
  refine R_loop1 ?_
  have key : ∀ n σ H, J n σ H → R C (.code c :: .inLoop c :: k) σ H := by
    intro n
    induction n using Nat.strongRecOn with
    | _ n ih => exact fun σ H hJ => h n σ H hJ fun m hm σ' H' hJ' => R_inLoop (ih m hm σ' H' hJ')
  exact key n σ H h0
theorem R_of_wp {c : Code} (h : ∀ a w, Step C.H0 C.w0 H w → G C.w0.heap.size σ H a w → c.wpIn (FR (C.rd.map (·.1))) 0 C.P (QK C.w0.heap.size C.H0 C.w0 (R C k)) a w) : R C (.code c :: k) σ H := by
  intro w a cs s g
  obtain ⟨e, a', w', hq, harr⟩ := h a w s g C.fr k cs rfl trivial (fun _ h => by cases h)
  cases e with
  | normal =>
    obtain ⟨σ', H', hr, s', g'⟩ := hq
    exact Goal.steps (StepsIn.steps harr) (hr w' a' cs s' g')
  | _ => exact hq.elim
def V2 (P : Program) (ol : List Oper) (K : St → PH → Prop) : List Oper → St → PH → Prop
  | [], σ, H => K σ H
  | o :: l, σ, H => Vstep P ol o (V2 P ol K l) σ H
theorem V2_V {P : Program} {K : St → PH → Prop} (pre : List Oper) : ∀ (rem : List Oper) {σ : St} {H : PH}, V2 P (pre ++ rem) K rem σ H → V P (pre ++ rem) K (List.range' pre.length rem.length) σ H := by
  intro rem
  suffices h : ∀ (ol pre rem : List Oper) (σ : St) (H : PH), ol = pre ++ rem → V2 P ol K rem σ H → V P ol K (List.range' pre.length rem.length) σ H from fun {σ H} hv => h _ _ _ σ H rfl hv
  intro ol pre rem
  induction rem generalizing pre with
  | nil => intro σ H _ h; exact h
  | cons o rem ih =>
    intro σ H he h
    simp only [List.length_cons, List.range'_succ, V]
    have ho : ol[pre.length]? = some o := by rw [he]; simp
    rw [ho]
    simp only [V2] at h
    have hmono : ∀ σ' H', V2 P ol K rem σ' H' → V P ol K (List.range' (pre.length + 1) rem.length) σ' H' := fun σ' H' h' => by
      have := ih (pre ++ [o]) σ' H' (by rw [he]; simp) h'
      simpa using this
    rcases h with ⟨a, b⟩ | ⟨a, b⟩
    · exact .inl ⟨a, hmono _ _ b⟩
    · refine .inr ⟨a, ?_⟩
      rcases b with ⟨sv, b, c⟩ | ⟨d, T, cs, b, c, e⟩ | ⟨x, off, cs, b, c⟩ | ⟨b, c⟩
      · exact .inl ⟨sv, b, hmono _ _ c⟩
      · exact .inr (.inl ⟨d, T, cs, b, c, hmono _ _ e⟩)
      · exact .inr (.inr (.inl ⟨x, off, cs, b, hmono _ _ c⟩))
      · exact .inr (.inr (.inr ⟨b, c.mono fun sv H2 hh => hmono _ _ hh⟩))
inductive Cf where
  | st (k : List Item)
  | op (ol rem : List Oper) (k : List Item)
def RC (C : Cx) (c : Cf) (σ : St) (H : PH) : Prop :=
  match c with
  | .st k => R C k σ H
  | .op ol rem k => V2 C.P ol (R C k) rem σ H
theorem R_region {id : Nat} {ops : Array Oper} (h : V2 C.P ops.toList (R C k) ops.toList σ H) : R C (.code (.region id ops false) :: k) σ H := by
  refine R_of_wp fun a w s g => wpIn_region ?_
  have := V2_V [] ops.toList h
  rw [List.nil_append] at this
  have h2 : List.range ops.size = List.range' 0 ops.toList.length := by rw [List.range_eq_range']; simp
  rw [h2]
  exact V_sound rfl _ this s g
theorem R_draw {id : Nat} {ops : Array Oper} (hm : C.P.follows .mixedOrders = true) (κ : List Nat) (fr : FrD) (str : StD) (hok : okD ops.toList κ fr str = true) (hs : Srt σ.bx)
    (h : VD C.P ops.toList fr str (R C k) κ σ H) : R C (.code (.region id ops true) :: k) σ H :=
  R_of_wp fun _ _ s g => draw_sound rfl hm hok hs h s g
def adv1 (P : Program) (ol : List Oper) (o : Oper) (σ : St) : Option (Prop × St) :=
  match wantedS ol σ o with
  | some false => some (True, σ.put o.dst (.v undef))
  | some true => match pv P σ.bx (ev σ) o.op with
    | some (φ, sv) => some (φ, σ.put o.dst sv)
    | none => match o.dst, acOf P (ev σ) o.op with
      | some d, some (T, cs) => some (True, σ.newBox d T cs)
      | _, _ => match stOf P σ.bx (ev σ) o.op with
        | some (x, off, cs) => some (True, (σ.store x off cs).put o.dst .u)
        | none => none
  | none => none
theorem adv1_sound {P : Program} {ol : List Oper} {o : Oper} {σ' : St} {φ : Prop} {K : St → PH → Prop} (h : adv1 P ol o σ = some (φ, σ')) (hφ : φ) (hk : K σ' H) : Vstep P ol o K σ H := by
  unfold adv1 at h
  split at h
  · rename_i hw; cases h; exact .inl ⟨hw, hk⟩
  · rename_i hw
    refine .inr ⟨hw, ?_⟩
    split at h
    · rename_i φ' sv hp; cases h; exact .inl ⟨sv, .inl ⟨φ, hp, hφ⟩, hk⟩
    · split at h
      · rename_i d T cs hd ha; cases h; exact .inr (.inl ⟨d, T, cs, hd, ha, hk⟩)
      · split at h
        · rename_i x off cs hs; cases h; exact .inr (.inr (.inl ⟨x, off, cs, hs, hk⟩))
        · cases h
  · cases h
def adv (P : Program) : Nat → Cf → St → List Prop → List Prop × Cf × St
  | 0, c, σ, ps => (ps, c, σ)
  | n + 1, c, σ, ps =>
    match c with
    | .op _ [] k => adv P n (.st k) σ ps
    | .op ol (o :: rem) k => match adv1 P ol o σ with
      | some (φ, σ') => adv P n (.op ol rem k) σ' (φ :: ps)
      | none => (ps, .op ol (o :: rem) k, σ)
    | .st (.code (.region _ ops false) :: k) => adv P n (.op ops.toList ops.toList k) σ ps
    | .st (.code (.seq a b) :: k) => adv P n (.st (.code a :: .code b :: k)) σ ps
    | .st (.code .skip :: k) => adv P n (.st k) σ ps
    | .st (.code (.label _) :: k) => adv P n (.st k) σ ps
    | .st (.inBlock _ :: k) => adv P n (.st k) σ ps
    | .st (.code (.block id b) :: k) => adv P n (.st (.code b :: .inBlock id :: k)) σ ps
    | .st (.code (.exit id) :: k) => match exitTo id k with
      | some k' => adv P n (.st k') σ ps
      | none => (ps, .st (.code (.exit id) :: k), σ)
    | .st (.code (.cond c t e) :: k) => match ev σ c with
      | .v (.bool true) => adv P n (.st (.code t :: k)) σ ps
      | .v (.bool false) => adv P n (.st (.code e :: k)) σ ps
      | _ => (ps, .st (.code (.cond c t e) :: k), σ)
    | c => (ps, c, σ)
def AllP : List Prop → Prop
  | [] => True
  | p :: l => AllP l ∧ p
theorem adv_sound : ∀ (n : Nat) (c : Cf) (σ : St) (ps : List Prop), AllP (adv C.P n c σ ps).1 → RC C (adv C.P n c σ ps).2.1 (adv C.P n c σ ps).2.2 H → AllP ps ∧ RC C c σ H
  | 0, c, σ, ps, hp, h => ⟨hp, h⟩
  | n + 1, c, σ, ps, hp, h => by
    unfold adv at hp h
    split at hp <;> simp only at h
    · obtain ⟨a, b⟩ := adv_sound n _ _ _ hp h; exact ⟨a, b⟩
    · rename_i ol o rem k
      cases ha : adv1 C.P ol o σ with
      | none => rw [ha] at hp h; exact ⟨hp, h⟩
      | some x =>
        obtain ⟨φ, σ'⟩ := x
        rw [ha] at hp h
        obtain ⟨⟨a, b⟩, c⟩ := adv_sound n _ _ _ hp h
        exact ⟨a, adv1_sound ha b c⟩
    · obtain ⟨a, b⟩ := adv_sound n _ _ _ hp h; exact ⟨a, R_region b⟩
    · obtain ⟨a, b⟩ := adv_sound n _ _ _ hp h; exact ⟨a, R_seq b⟩
    · obtain ⟨a, b⟩ := adv_sound n _ _ _ hp h; exact ⟨a, R_skip b⟩
    · obtain ⟨a, b⟩ := adv_sound n _ _ _ hp h; exact ⟨a, R_label b⟩
    · obtain ⟨a, b⟩ := adv_sound n _ _ _ hp h; exact ⟨a, R_inBlock b⟩
    · obtain ⟨a, b⟩ := adv_sound n _ _ _ hp h; exact ⟨a, R_block b⟩
    · rename_i id k
      cases he : exitTo id k with
      | none => rw [he] at hp h; exact ⟨hp, h⟩
      | some k' =>
        rw [he] at hp h
        obtain ⟨a, b⟩ := adv_sound n _ _ _ hp h; exact ⟨a, R_exit he b⟩
    · rename_i cc t e k
      split at hp
      · rename_i hc
        rw [hc] at h
        obtain ⟨a, b⟩ := adv_sound n _ _ _ hp h; exact ⟨a, R_cond hc b⟩
      · rename_i hc
        rw [hc] at h
        obtain ⟨a, b⟩ := adv_sound n _ _ _ hp h; exact ⟨a, R_cond hc b⟩
      · rename_i h1 h2
        have : ∀ {α : Type} (x y z : α), (match ev σ cc with | .v (.bool true) => x | .v (.bool false) => y | _ => z) = z := by
          intro α x y z
          split
          · rename_i hc; exact absurd hc (by simpa using h1)
          · rename_i hc; exact absurd hc (by simpa using h2)
          · rfl
        refine ⟨hp, ?_⟩
        split at h
        · rename_i hc; exact absurd hc (by simpa using h1)
        · rename_i hc; exact absurd hc (by simpa using h2)
        · exact h
    · exact ⟨hp, h⟩
theorem RC_adv (n : Nat) {c : Cf} (h : AllP (adv C.P n c σ []).1 ∧ RC C (adv C.P n c σ []).2.1 (adv C.P n c σ []).2.2 H) : RC C c σ H := (adv_sound n c σ [] h.1 h.2).2
def Res (C : Cx) (H : PH) (r : List Prop × Cf × St) : Prop := AllP r.1 ∧ RC C r.2.1 r.2.2 H
theorem Res_mk (C : Cx) (H : PH) (ps : List Prop) (c : Cf) (σ : St) : Res C H (ps, c, σ) = (AllP ps ∧ RC C c σ H) := rfl
theorem RC_go (n : Nat) {c : Cf} (h : Res C H (adv C.P n c σ [])) : RC C c σ H := RC_adv n h
theorem RG {c : Cf} (h : Res C H (adv C.P 500 c σ [])) : RC C c σ H := RC_adv 500 h
theorem RC_gen {ol rem : List Oper} {o : Oper} (hw : wantedS ol σ o = some true) (hk : knownS σ o.op = true)
    (h : OpSpec C.P (execOp (cenv σ) o) H fun sv H2 => RC C (.op ol rem k) (σ.put o.dst sv) H2) : RC C (.op ol (o :: rem) k) σ H :=
  .inr ⟨hw, .inr (.inr (.inr ⟨hk, h⟩))⟩
theorem RC_read {ol rem : List Oper} {o : Oper} (v : Value) (hw : wantedS ol σ o = some true) (hk : knownS σ o.op = true)
    (hv : ∀ w, Sub H w → (execOp (cenv σ) o).run C.P w = .ok (.value v) w) (h : RC C (.op ol rem k) (σ.put o.dst (.v v)) H) : RC C (.op ol (o :: rem) k) σ H :=
  .inr ⟨hw, .inl ⟨_, .inr ⟨v, rfl, hk, hv⟩, h⟩⟩
end
end Go.Sx
end
section
namespace Go.Sx
open Go
def initT (args : List Value) (n : Nat) : List SV := args.map .v ++ List.replicate (n - args.length) (.v undef)
theorem Does_of {P : Program} {f : FuncId} {fn : Func} {c : Code} {args : Array Value} {H : PH} {Φ : Value → PH → Prop} (hf : P.funcs[f]? = some fn) (hb : fn.body = some c) (hsz : args.toList.length ≤ fn.ntmps)
    (h : ∀ w0, RC ⟨P, f, fn, hf, H, w0, Φ, none⟩ (.st [.code c]) ⟨initT args.toList fn.ntmps, []⟩ H) : Does P f args H Φ := by
  intro w s cs
  have hg : G w.heap.size ⟨initT args.toList fn.ntmps, []⟩ H { tmps := args ++ Array.replicate (fn.ntmps - args.size) undef, defers := [] } w := by
    refine ⟨fun _ => 0, DfOk.nil, ?_, ?_, fun _ h => (List.not_mem_nil h).elim, fun _ h => (List.not_mem_nil h).elim, fun _ h => (List.not_mem_nil h).elim, List.Pairwise.nil⟩
    · simp [initT]
    · intro t sv ht
      simp only [initT] at ht
      rw [Array.getD_eq_getD_getElem?]
      by_cases hlt : t < args.size
      · rw [List.getElem?_append_left (by simpa using hlt)] at ht
        simp [hlt] at ht
        subst ht
        simp [Array.getElem?_append, hlt, matchSV]
      · rw [List.getElem?_append_right (by simpa using hlt), List.getElem?_replicate] at ht
        split at ht
        · rename_i hr
          cases ht
          simp only [matchSV, Array.getElem?_append, if_neg hlt, Array.getElem?_replicate]
          split <;> rfl
        · cases ht
  obtain ⟨e, w', fr, h1, h2, h3, h4⟩ := h w w _ cs (Step.refl s) hg
  have henter : Frame.enter P f args .normal = (Cx.fr ⟨P, f, fn, hf, H, w, Φ, none⟩).atR { tmps := args ++ Array.replicate (fn.ntmps - args.size) undef, defers := [] } [.code c] := by
    simp [Frame.enter, Frame.atR, hf, hb, Cx.fr]
  refine ⟨e, w', fr, ?_, by rw [henter]; exact h2, h3, h4⟩
  unfold EndOk at h1
  cases e with
  | returned v => exact h1
  | _ => exact h1.elim
def retL (P : Program) (σ : St) : List ResultVar → Option (List Value)
  | [] => some []
  | .tmp t :: l => match getT σ.tm t, retL P σ l with
    | .v x, some r => some (x :: r)
    | _, _ => none
  | .cell t T :: l => match getT σ.tm t, retL P σ l with
    | .p k off, some r => match findB σ.bx k with
      | some B => match rdCells P T B.cs off with
        | some x => some (x :: r)
        | none => none
      | none => none
    | _, _ => none
def retV : List Value → Value
  | [v] => v
  | l => .tuple l.toArray
def rdR (tmps : Array Value) : ResultVar → Sem Value
  | .tmp t => pure (tmps.getD t undef)
  | .cell a t => do loadVar t (← asAddr (tmps.getD a undef))
theorem retL_sound {P : Program} {n0 : Nat} {β : Nat → Nat} {σ : St} {H : PH} {a : Act} {w : World} (g : GB n0 β σ H a w) : ∀ (l : List ResultVar) (r : List Value), retL P σ l = some r →
    (l.mapM (rdR a.tmps)).run P w = .ok r w
  | [], r, h => by cases h; simp
  | .tmp t :: l, r, h => by
    simp only [retL] at h
    split at h
    · rename_i x r' hx hr
      cases h
      have h1 := g.ev (.tmp t)
      simp only [ev, hx, matchSV, Act.eval] at h1
      have h2 : (rdR a.tmps (.tmp t)).run P w = .ok x w := by simp only [rdR, h1]; simp
      simp only [List.mapM_cons, Sem.run_bind, h2, Result.andThen, retL_sound g l _ hr]
      simp
    · cases h
  | .cell t T :: l, r, h => by
    simp only [retL] at h
    split at h
    · rename_i k off r' hx hr
      split at h
      · rename_i B hB
        split at h
        · rename_i x hv
          cases h
          obtain ⟨hm, rfl⟩ := findB_mem hB
          have h1 := g.ev (.tmp t)
          simp only [ev, hx, matchSV, Act.eval] at h1
          have := run_loadVar (P := P) (w := w) (off := off) (g.bx B hm).1 hv
          have h2 : (rdR a.tmps (.cell t T)).run P w = .ok x w := by simp only [rdR, h1, Sem.run_bind]; simp [Result.andThen, asAddr, this]
          simp only [List.mapM_cons, Sem.run_bind, h2, Result.andThen, retL_sound g l _ hr]
          simp
        · cases h
      · cases h
    · cases h
theorem results_sound {P : Program} {n0 : Nat} {β : Nat → Nat} {σ : St} {H : PH} {a : Act} {w : World} (g : GB n0 β σ H a w) {fn : Func} {r : List Value} (h : retL P σ fn.results.toList = some r) :
    (results fn a.tmps).run P w = .ok (retV r) w := by
  have h1 := retL_sound g _ _ h
  show (do let vs ← fn.results.mapM (rdR a.tmps); pure (if h : vs.size = 1 then vs[0] else .tuple vs) : Sem Value).run P w = _
  rw [Array.mapM_eq_mapM_toList]
  simp only [Sem.run_bind, Sem.run_map]
  rw [h1]
  simp only [Result.andThen]
  match r with
  | [] => simp [retV]
  | [v] => simp [retV]
  | a :: b :: l => simp [retV]
section
variable {C : Cx} {k : List Item} {σ : St} {H : PH}
theorem marks_out {P : Program} {fr : Frame} {cs : List Frame} (hm : fr.mode = .returning) : ∀ (ds : List Nat) (w : World), ds.Nodup → (∀ d ∈ ds, w.heap[d]? = some (.deferred (some []))) →
    ∃ w', Steps P (lone { fr with defers := ds.map markD } cs w) (lone { fr with defers := [] } cs w') ∧ w'.heap.size = w.heap.size ∧ (w'.os = w.os ∧ w'.tape = w.tape ∧ w'.output = w.output) ∧ ∀ b, b ∉ ds → w'.heap[b]? = w.heap[b]?
  | [], w, _, _ => ⟨w, Steps.refl P _, rfl, ⟨rfl, rfl, rfl⟩, fun _ _ => rfl⟩
  | d :: ds, w, hn, h => by
    obtain ⟨h1, h2⟩ := List.nodup_cons.1 hn
    have hs := step_collected (P := P) (fr := { fr with defers := (d :: ds).map markD }) (cs := cs) (w := w) (d := markD d) (ds := ds.map markD) (by rw [show ({ fr with defers := (d :: ds).map markD } : Frame).mode = fr.mode from rfl, hm]; simp) rfl rfl (run_takeDeferred (h d (.head _)))
    obtain ⟨w', a, b, c, e⟩ := marks_out (P := P) (fr := fr) (cs := cs) hm ds (w.putObj d (.deferred none)) h2 fun x hx => by
      rw [World.putObj_heap_other (fun e => h1 (by subst e; exact hx))]; exact h x (.tail _ hx)
    refine ⟨w', .head hs a, by rw [b, World.putObj_size], c, fun x hx => ?_⟩
    rw [e x (fun hh => hx (.tail _ hh)), World.putObj_heap_other (fun e => hx (by subst e; exact .head _))]
theorem R_out (hC : C.rd = none) (hstep : ∀ a cs w, step C.P (lone (C.fr.atR a k) cs w) = .next (lone { C.fr.atR a k with mode := .returning } cs w))
    (h : ∀ w a, Step C.H0 C.w0 H w → G C.w0.heap.size σ H a w → ∃ y, C.post y H ∧ (results C.fn a.tmps).run C.P w = .ok y w) : R C k σ H := by
  rintro w a cs s ⟨β, g⟩
  obtain ⟨ds, e, nd, hds⟩ := g.defers
  obtain ⟨w', hs, hsz, ho, hb⟩ := marks_out (P := C.P) (fr := { C.fr.atR a k with mode := .returning }) (cs := cs) rfl ds w nd fun d hd => (hds d hd).2.2
  have hbx : ∀ B ∈ σ.bx, w'.heap[β B.key]? = w.heap[β B.key]? := fun B hB => hb _ fun hm => by
    have h1 := (hds _ hm).2.2
    rw [(g.bx B hB).1] at h1; cases h1
  have s' : Step C.H0 C.w0 H w' := by
    refine ⟨fun b o hbo => ?_, by rw [hsz]; exact s.size, fun b hb1 hn => ?_, s.dom, by rw [ho.1]; exact s.os, by rw [ho.2.1]; exact s.tape, by rw [ho.2.2]; exact s.out⟩
    · rw [hb b fun hm => by rw [(hds _ hm).2.1] at hbo; cases hbo]; exact s.sub b o hbo
    · rw [hb b fun hm => by have := (hds _ hm).1; omega]; exact s.priv b hb1 hn
  have g' : G C.w0.heap.size σ H { tmps := a.tmps, defers := [] } w' := ⟨β, DfOk.nil, g.size, g.tm, fun B hB => ⟨by rw [hbx B hB]; exact (g.bx B hB).1, (g.bx B hB).2⟩, g.inj, g.lo, g.keys⟩
  obtain ⟨y, hy, hr⟩ := h w' _ s' g'
  unfold Goal
  rw [hC]
  refine ⟨.returned y, w', { { C.fr.atR a k with mode := .returning } with defers := [] }, ⟨H, s', hy⟩, Steps.head (hstep a cs w) ?_, rfl, rfl, rfl, rfl, C.fn, C.hf, hr⟩
  have e2 : ({ C.fr.atR a k with mode := .returning } : Frame) = { ({ C.fr.atR a k with mode := .returning } : Frame) with defers := ds.map markD } := by rw [← e]; rfl
  rw [e2]; exact hs
theorem R_ret {r : List Value} (h : retL C.P σ C.fn.results.toList = some r) (hp : C.post (retV r) H) (hC : C.rd = none := by rfl) : R C (.code .ret :: k) σ H :=
  R_out hC (fun a cs w => stepR_ret (by simp [Cx.fr, hC])) fun w a _ ⟨β, g⟩ => ⟨_, hp, results_sound g h⟩
theorem R_end {r : List Value} (h : retL C.P σ C.fn.results.toList = some r) (hp : C.post (retV r) H) (hC : C.rd = none := by rfl) : R C [] σ H :=
  R_out hC (fun a cs w => stepR_end (by simp [Cx.fr, hC])) fun w a _ ⟨β, g⟩ => ⟨_, hp, results_sound g h⟩
def sp : Nat → Nat → List (Nat × SV) → List SV
  | _, 0, _ => []
  | i, n + 1, [] => .u :: sp (i + 1) n []
  | i, n + 1, (j, x) :: l => if j = i then x :: sp (i + 1) n l else .u :: sp (i + 1) n ((j, x) :: l)
def subT : List SV → List SV → Prop
  | [], [] => True
  | .u :: l, _ :: m => subT l m
  | x :: l, y :: m => x = y ∧ subT l m
  | _, _ => False
def subB : List Box → List Box → Prop
  | [], _ => True
  | _ :: _, [] => False
  | b :: l, c :: m => if b.key = c.key then b = c ∧ subB l m else subB (b :: l) m
theorem subT_get : ∀ {l m : List SV}, subT l m → l.length = m.length ∧ ∀ (t : Nat) (sv : SV), l[t]? = some sv → sv = .u ∨ m[t]? = some sv
  | [], [], _ => ⟨rfl, fun t sv h => by simp at h⟩
  | .u :: l, y :: m, h => by
    obtain ⟨a, b⟩ := subT_get (l := l) (m := m) h
    refine ⟨by simp [a], fun t sv ht => ?_⟩
    cases t with
    | zero => simp at ht; exact .inl ht.symm
    | succ t => simpa using b t sv (by simpa using ht)
  | .v x :: l, y :: m, h => by
    obtain ⟨e, h⟩ := h
    obtain ⟨a, b⟩ := subT_get (l := l) (m := m) h
    refine ⟨by simp [a], fun t sv ht => ?_⟩
    cases t with
    | zero => right; simp at ht ⊢; rw [← e]; exact ht
    | succ t => simpa using b t sv (by simpa using ht)
  | .p x z :: l, y :: m, h => by
    obtain ⟨e, h⟩ := h
    obtain ⟨a, b⟩ := subT_get (l := l) (m := m) h
    refine ⟨by simp [a], fun t sv ht => ?_⟩
    cases t with
    | zero => right; simp at ht ⊢; rw [← e]; exact ht
    | succ t => simpa using b t sv (by simpa using ht)
  | [], _ :: _, h => h.elim
  | .u :: _, [], h => h.elim
  | .v _ :: _, [], h => h.elim
  | .p _ _ :: _, [], h => h.elim
theorem subB_sub : ∀ {l m : List Box}, subB l m → l.Sublist m
  | [], m, _ => List.nil_sublist m
  | b :: l, [], h => h.elim
  | b :: l, c :: m, h => by
    simp only [subB] at h
    split at h
    · obtain ⟨rfl, h⟩ := h; exact (subB_sub h).cons_cons _
    · exact (subB_sub h).cons _
theorem R_sub {σ' : St} (ht : subT σ'.tm σ.tm) (hb : subB σ'.bx σ.bx) (h : R C k σ' H) : R C k σ H := by
  rintro w a cs s ⟨β, g⟩
  obtain ⟨h1, h2⟩ := subT_get ht
  have h3 := subB_sub hb
  refine h w a cs s ⟨β, g.defers, by rw [g.size, h1], fun t sv hsv => ?_, fun B hB => g.bx B (h3.subset hB), fun B hB B' hB' => g.inj B (h3.subset hB) B' (h3.subset hB'), fun B hB => g.lo B (h3.subset hB), g.keys.sublist h3⟩
  rcases h2 t sv hsv with rfl | h
  · trivial
  · exact g.tm t sv h
def pubT (key b : Nat) : SV → SV
  | .p x off => if x = key then .v (.pointer (some ⟨b, off, none⟩)) else .p x off
  | y => y
theorem R_pub (key : Nat) {B : Box} (hB : findB σ.bx key = some B) (h : ∀ b, H b = none → R C k ⟨σ.tm.map (pubT key b), dropB σ.bx key⟩ (H.put b (.cells B.cs.toArray B.ty (0, 0)))) : R C k σ H := by
  rintro w a cs s ⟨β, g⟩
  obtain ⟨hm, hk⟩ := findB_mem hB
  obtain ⟨hb, hn⟩ := g.bx B hm
  rw [hk] at hb hn
  have hlo := g.lo B hm
  rw [hk] at hlo
  refine h (β key) hn w a cs ⟨fun c o hc => ?_, s.size, fun c hc hcn => s.priv c hc hcn, fun c hc hcn => ?_, s.os, s.tape, s.out⟩ ⟨β, g.defers.keep fun d _ h1 h2 => ⟨by rw [PH.put, if_neg (fun e => by rw [e, hb] at h2; cases h2)]; exact h1, h2⟩, by simp [g.size], fun t sv ht => ?_, fun B' hB' => ?_, fun B1 h1 B2 h2 => ?_, fun B1 h1 => g.lo B1 (mem_dropB h1).1, dropB_pairwise g.keys⟩
  · by_cases e : c = β key
    · subst e; simp only [PH.put, if_true] at hc; cases hc; exact hb
    · simp only [PH.put, if_neg e] at hc; exact s.sub c o hc
  · have : c ≠ β key := by omega
    simp only [PH.put, if_neg this]; exact s.dom c hc hcn
  · simp only [List.getElem?_map, Option.map_eq_some_iff] at ht
    obtain ⟨x, hx, rfl⟩ := ht
    have := g.tm t x hx
    cases x with
    | v y => exact this
    | u => trivial
    | p y off =>
      simp only [pubT]
      split
      · rename_i e; subst e; exact this
      · exact this
  · obtain ⟨h1, h2⟩ := mem_dropB hB'
    obtain ⟨h3, h4⟩ := g.bx B' h1
    refine ⟨h3, ?_⟩
    have : β B'.key ≠ β key := fun e => h2 (by rw [← hk]; exact g.inj B' h1 B hm (by rw [hk]; exact e))
    simp only [PH.put, if_neg this]; exact h4
  · exact g.inj B1 (mem_dropB h1).1 B2 (mem_dropB h2).1
end
end Go.Sx
end
section
namespace Go.Sx
open Go
def getO : List Oper → Nat → Oper
  | [], _ => default
  | o :: _, 0 => o
  | _ :: l, n + 1 => getO l n
def pick (ol : List Oper) (κ : List Nat) : List (Nat × Oper) := κ.map fun i => (i, getO ol i)
def VD2 (P : Program) (ol : List Oper) (fr : FrD) (str : StD) (K : St → PH → Prop) : List (Nat × Oper) → St → PH → Prop
  | [], σ, H => K σ H
  | (i, o) :: l, σ, H => VDstep P ol (fr.at' i) (str.at' i) o (VD2 P ol fr str K l) σ H
def RD (C : Cx) (ol : List Oper) (fr : FrD) (str : StD) (l : List (Nat × Oper)) (k : List Item) (σ : St) (H : PH) : Prop := VD2 C.P ol fr str (R C k) l σ H
theorem getO_eq {ol : List Oper} {i : Nat} (h : i < ol.length) : ol[i]? = some (getO ol i) := by
  induction ol generalizing i with
  | nil => simp at h
  | cons o l ih => cases i with
    | zero => simp [getO]
    | succ i => simpa [getO] using ih (by simpa using h)
def srtB : List Box → Bool
  | [] => true
  | b :: l => l.all (fun c => decide (b.key < c.key)) && srtB l
theorem srt_of {l : List Box} (h : srtB l = true) : Srt l := by
  induction l with
  | nil => exact List.Pairwise.nil
  | cons b l ih =>
    simp only [srtB, Bool.and_eq_true] at h
    exact List.pairwise_cons.2 ⟨fun y hy => by simpa using List.all_eq_true.1 h.1 y hy, ih h.2⟩
theorem stepD_mono {P : Program} {ol : List Oper} {f : FrB} {s : StB} {o : Oper} {K K' : St → PH → Prop} {σ : St} {H : PH} (k : ∀ σ' H', K σ' H' → K' σ' H') (h : VDstep P ol f s o K σ H) : VDstep P ol f s o K' σ H := by
  rcases h with ⟨hw, h⟩ | ⟨hw, h⟩
  · exact .inl ⟨hw, k _ _ h⟩
  · refine .inr ⟨hw, ?_⟩
    cases hc : cls o.op <;> rw [hc] at h <;> simp only at h ⊢
    · obtain ⟨sv, hv, hk⟩ := h; exact ⟨sv, hv, k _ _ hk⟩
    · obtain ⟨d, T, cs, hd, ha, hk⟩ := h; exact ⟨d, T, cs, hd, ha, k _ _ hk⟩
    · rcases h with ⟨x, off, cs, ha, hm, hk⟩ | ⟨hn, hk, hsp⟩
      · exact .inl ⟨x, off, cs, ha, hm, k _ _ hk⟩
      · exact .inr ⟨hn, hk, hsp.mono fun sv H2 hh => k _ _ hh⟩
    · exact ⟨h.1, h.2.mono fun sv H2 hh => ⟨hh.1, k _ _ hh.2⟩⟩
    · exact fun b hb => k _ _ (h b hb)
theorem VD_of {P : Program} {ol : List Oper} {fr : FrD} {str : StD} {K : St → PH → Prop} : ∀ (κ : List Nat) {σ : St} {H : PH}, (∀ i ∈ κ, i < ol.length) → VD2 P ol fr str K (pick ol κ) σ H → VD P ol fr str K κ σ H
  | [], σ, H, _, h => h
  | i :: κ, σ, H, hl, h => by
    simp only [VD, getO_eq (hl i (.head _))]
    exact stepD_mono (fun σ' H' h' => VD_of κ (fun j hj => hl j (.tail _ hj)) h') h
section
variable {C : Cx} {k : List Item} {σ : St} {H : PH}
theorem R_drawnD {id : Nat} {ops : Array Oper} (hm : C.P.follows .mixedOrders = true) (κ : List Nat) (fr : FrD) (str : StD) (hok : okD ops.toList κ fr str = true) (hs : srtB σ.bx = true)
    (h : RD C ops.toList fr str (pick ops.toList κ) k σ H) : RC C (.st (.code (.region id ops true) :: k)) σ H := by
  refine R_draw hm κ fr str hok (srt_of hs) (VD_of κ ?_ h)
  simp only [okD, Bool.and_eq_true] at hok
  have h3 := hok.2
  intro i hi
  suffices hh : ∀ (l : List Nat), pairsOk ops.toList (closOf ops.toList) fr str l = true → ∀ i ∈ l, i < ops.toList.length from hh κ h3 i hi
  intro l
  induction l with
  | nil => intro _ i hi; cases hi
  | cons x l ih =>
    intro hp i hi
    simp only [pairsOk, Bool.and_eq_true, decide_eq_true_eq] at hp
    rcases List.mem_cons.1 hi with rfl | hi
    · exact hp.1.1.1
    · exact ih hp.2 i hi
theorem R_drawn {id : Nat} {ops : Array Oper} (hm : C.P.follows .mixedOrders = true) (κ fr str : List Nat) (hok : okD ops.toList κ ⟨fr, [], PH.emp, [], []⟩ ⟨str, [], []⟩ = true) (hs : srtB σ.bx = true)
    (h : RD C ops.toList ⟨fr, [], PH.emp, [], []⟩ ⟨str, [], []⟩ (pick ops.toList κ) k σ H) : RC C (.st (.code (.region id ops true) :: k)) σ H := R_drawnD hm κ _ _ hok hs h
theorem R_drawnJ {id : Nat} {ops : Array Oper} (hm : C.P.follows .mixedOrders = true) (κ fr str fj sj : List Nat) (J : PH) (hok : okD ops.toList κ ⟨fr, fj, J, [], []⟩ ⟨str, sj, []⟩ = true) (hs : srtB σ.bx = true)
    (h : RD C ops.toList ⟨fr, fj, J, [], []⟩ ⟨str, sj, []⟩ (pick ops.toList κ) k σ H) : RC C (.st (.code (.region id ops true) :: k)) σ H := R_drawnD hm κ _ _ hok hs h
theorem R_drawnK {id : Nat} {ops : Array Oper} (hm : C.P.follows .mixedOrders = true) (κ fr str fk sk kp : List Nat) (hok : okD ops.toList κ ⟨fr, [], PH.emp, fk, kp⟩ ⟨str, [], sk⟩ = true) (hs : srtB σ.bx = true)
    (h : RD C ops.toList ⟨fr, [], PH.emp, fk, kp⟩ ⟨str, [], sk⟩ (pick ops.toList κ) k σ H) : RC C (.st (.code (.region id ops true) :: k)) σ H := R_drawnD hm κ _ _ hok hs h
def Keeps (fr : FrD) (str : StD) (i : Nat) (H H2 : PH) : Prop := (str.h.contains i = true → H.le H2) ∧ (str.j.contains i = true → fr.J.le H → fr.J.le H2)
theorem Keeps.le {fr : FrD} {str : StD} {i : Nat} {H H2 : PH} (h : H.le H2) : Keeps fr str i H H2 := ⟨fun _ => h, fun _ hj => PH.le_trans hj h⟩
theorem Keeps.non {fr : FrD} {str : StD} {i : Nat} {H H2 : PH} (h : str.h.contains i = false) (h2 : str.j.contains i = false) : Keeps fr str i H H2 := ⟨fun e => Bool.noConfusion (h.symm.trans e), fun e => Bool.noConfusion (h2.symm.trans e)⟩
theorem pv_cls {P : Program} {bx : List Box} {ρ : Operand → SV} {op : Op} {x : Prop × SV} (h : pv P bx ρ op = some x) : cls op = .val := by
  cases op <;> first | rfl | cases h | skip
  rename_i c
  obtain ⟨callee, args, types⟩ := c
  cases callee with
  | builtin b => cases b <;> first | rfl | (simp [pv, pvCall] at h)
  | value f => simp [pv, pvCall] at h
  | invoke r m => simp [pv, pvCall] at h
theorem acOf_cls {P : Program} {ρ : Operand → SV} {op : Op} {x : TypeId × List Value} (h : acOf P ρ op = some x) : cls op = .alc := by
  cases op <;> first | rfl | cases h
theorem stOf_cls {P : Program} {bx : List Box} {ρ : Operand → SV} {op : Op} {x : Nat × Nat × List Value} (h : stOf P bx ρ op = some x) : cls op = .st := by
  cases op <;> first | rfl | cases h
def adv1D (P : Program) (ol : List Oper) (fk sk : Bool) (kp : List Nat) (o : Oper) (σ : St) : Option (Prop × St) :=
  match wantedS ol σ o with
  | some false => some (True, σ.put o.dst (.v undef))
  | some true => match pv P (kb fk kp σ.bx) (ev σ) o.op with
    | some (φ, sv) => some (φ, σ.put o.dst sv)
    | none => match o.dst, acOf P (ev σ) o.op with
      | some d, some (T, cs) => some (True, σ.newBox d T cs)
      | _, _ => match stOf P σ.bx (ev σ) o.op with
        | some (x, off, cs) => if sk && memN kp x then none else some (True, (σ.store x off cs).put o.dst .u)
        | none => none
  | none => none
theorem adv1_soundD {P : Program} {ol : List Oper} {o : Oper} {σ' : St} {φ : Prop} {K : St → PH → Prop} {f : FrB} {s : StB} (h : adv1D P ol f.k s.k f.kp o σ = some (φ, σ')) (hφ : φ) (hk : K σ' H) : VDstep P ol f s o K σ H := by
  unfold adv1D at h
  split at h
  · rename_i hw; cases h; exact .inl ⟨hw, hk⟩
  · rename_i hw
    refine .inr ⟨hw, ?_⟩
    split at h
    · rename_i φ' sv hp; cases h; rw [pv_cls hp]; exact ⟨sv, .inl ⟨φ, hp, hφ⟩, hk⟩
    · split at h
      · rename_i d T cs hd ha; cases h; rw [acOf_cls ha]; exact ⟨d, T, cs, hd, ha, hk⟩
      · split at h
        · rename_i x off cs hs
          split at h
          · cases h
          · rename_i hc
            cases h; rw [stOf_cls hs]
            refine .inl ⟨x, off, cs, hs, fun e => ?_, hk⟩
            rw [e] at hc; simpa using hc
        · cases h
  · cases h
def advD (P : Program) (ol : List Oper) (fk sk kp : List Nat) : List (Nat × Oper) → St → List Prop → List Prop × List (Nat × Oper) × St
  | [], σ, ps => (ps, [], σ)
  | (i, o) :: l, σ, ps => match adv1D P ol (memN fk i) (memN sk i) kp o σ with
    | some (φ, σ') => advD P ol fk sk kp l σ' (φ :: ps)
    | none => (ps, (i, o) :: l, σ)
theorem advD_sound {ol : List Oper} {fr : FrD} {str : StD} : ∀ (l : List (Nat × Oper)) (σ : St) (ps : List Prop), AllP (advD C.P ol fr.k str.k fr.kp l σ ps).1 → RD C ol fr str (advD C.P ol fr.k str.k fr.kp l σ ps).2.1 k (advD C.P ol fr.k str.k fr.kp l σ ps).2.2 H → AllP ps ∧ RD C ol fr str l k σ H
  | [], σ, ps, hp, h => ⟨hp, h⟩
  | (i, o) :: l, σ, ps, hp, h => by
    unfold advD at hp h
    cases ha : adv1D C.P ol (memN fr.k i) (memN str.k i) fr.kp o σ with
    | none => rw [ha] at hp h; exact ⟨hp, h⟩
    | some x =>
      obtain ⟨φ, σ'⟩ := x
      rw [ha] at hp h
      obtain ⟨⟨a, b⟩, c⟩ := advD_sound l _ _ hp h
      exact ⟨a, adv1_soundD (f := fr.at' i) (s := str.at' i) ha b c⟩
theorem RD_adv {ol : List Oper} {fr : FrD} {str : StD} {l : List (Nat × Oper)} (h : AllP (advD C.P ol fr.k str.k fr.kp l σ []).1 ∧ RD C ol fr str (advD C.P ol fr.k str.k fr.kp l σ []).2.1 k (advD C.P ol fr.k str.k fr.kp l σ []).2.2 H) : RD C ol fr str l k σ H := (advD_sound l σ [] h.1 h.2).2
def ResD (C : Cx) (ol : List Oper) (fr : FrD) (str : StD) (k : List Item) (H : PH) (r : List Prop × List (Nat × Oper) × St) : Prop := AllP r.1 ∧ RD C ol fr str r.2.1 k r.2.2 H
theorem ResD_mk (C : Cx) (ol : List Oper) (fr : FrD) (str : StD) (k : List Item) (H : PH) (ps : List Prop) (l : List (Nat × Oper)) (σ : St) : ResD C ol fr str k H (ps, l, σ) = (AllP ps ∧ RD C ol fr str l k σ H) := rfl
theorem RD_go {ol : List Oper} {fr : FrD} {str : StD} {l : List (Nat × Oper)} (h : ResD C ol fr str k H (advD C.P ol fr.k str.k fr.kp l σ [])) : RD C ol fr str l k σ H := RD_adv h
theorem RD_nil {ol : List Oper} {fr : FrD} {str : StD} (h : RC C (.st k) σ H) : RD C ol fr str [] k σ H := h
theorem RD_gen {ol : List Oper} {fr : FrD} {str : StD} {i : Nat} {o : Oper} {l : List (Nat × Oper)} (hw : wantedS ol σ o = some true) (hk : knownS σ o.op = true) (hc : cls o.op = .gen)
    (h : OpSpec C.P (execOp (cenv σ) o) H fun sv H2 => Keeps fr str i H H2 ∧ RD C ol fr str l k (σ.put o.dst sv) H2) : RD C ol fr str ((i, o) :: l) k σ H :=
  .inr ⟨hw, by rw [hc]; exact ⟨hk, h⟩⟩
theorem RD_store {ol : List Oper} {fr : FrD} {str : StD} {i : Nat} {o : Oper} {l : List (Nat × Oper)} (hs : memN str.k i = false) (hw : wantedS ol σ o = some true) (hk : knownS σ o.op = true) (hc : cls o.op = .st)
    (h : OpSpec C.P (execOp (cenv σ) o) H fun sv H2 => RD C ol fr str l k (σ.put o.dst sv) H2) : RD C ol fr str ((i, o) :: l) k σ H :=
  .inr ⟨hw, by rw [hc]; exact .inr ⟨hs, hk, h⟩⟩
theorem RD_read {ol : List Oper} {fr : FrD} {str : StD} {i : Nat} {o : Oper} {l : List (Nat × Oper)} (v : Value) (hf : fr.h.contains i = true) (hw : wantedS ol σ o = some true) (hk : knownS σ o.op = true) (hc : cls o.op = .val)
    (hv : ∀ w, Sub H w → (execOp (cenv σ) o).run C.P w = .ok (.value v) w) (h : RD C ol fr str l k (σ.put o.dst (.v v)) H) : RD C ol fr str ((i, o) :: l) k σ H :=
  .inr ⟨hw, by rw [hc]; exact ⟨_, .inr (.inl ⟨hf, v, rfl, hk, hv⟩), h⟩⟩
theorem RD_readJ {ol : List Oper} {fr : FrD} {str : StD} {i : Nat} {o : Oper} {l : List (Nat × Oper)} (v : Value) (hf : fr.j.contains i = true) (hJ : fr.J.le H) (hw : wantedS ol σ o = some true) (hk : knownS σ o.op = true) (hc : cls o.op = .val)
    (hv : ∀ w, Sub fr.J w → (execOp (cenv σ) o).run C.P w = .ok (.value v) w) (h : RD C ol fr str l k (σ.put o.dst (.v v)) H) : RD C ol fr str ((i, o) :: l) k σ H :=
  .inr ⟨hw, by rw [hc]; exact ⟨_, .inr (.inr ⟨hf, hJ, v, rfl, hk, hv⟩), h⟩⟩
theorem callFunc_run {P : Program} {f : FuncId} {fn : Func} (hf : P.funcs[f]? = some fn) (hb : fn.body.isNone = false) (hn : (fn.name == "runtime.NumGoroutine") = false) (args : Array Value) (w : World) :
    (callFunc f args).run P w = .ok (.enter f args) w := by
  simp only [callFunc, Sem.run_bind, program, Sem.run, Result.andThen, hf, hn, hb]
  simp
def Goes (P : Program) (f : FuncId) : Prop := ∃ fn, P.funcs[f]? = some fn ∧ fn.body.isNone = false ∧ (fn.name == "runtime.NumGoroutine") = false
theorem spec_call {P : Program} {o : Oper} {x : Operand} {aq : Array Operand} {ts : Array TypeId} {f : FuncId} {vs : List Value} {first cap : Array Value} {Φ : Value → PH → Prop} (hop : o.op = .call ⟨.value x, aq, ts⟩)
    (hx : ev σ x = .v (.func (.func f) first cap)) (ha : allV (ev σ) aq.toList = some vs) (hg : Goes P f) (h : Does P f (first ++ vs.toArray ++ cap) H Φ) :
    knownS σ o.op = true ∧ OpSpec P (execOp (cenv σ) o) H fun sv H2 => ∃ v, sv = .v v ∧ Φ v H2 := by
  have hall : ∀ (l : List Operand) (r : List Value), allV (ev σ) l = some r → l.map (cenv σ) = r ∧ ∀ y ∈ l, isV (ev σ y) = true := by
    intro l
    induction l with
    | nil => intro r h; cases h; exact ⟨rfl, fun y hy => (List.not_mem_nil hy).elim⟩
    | cons y l ih =>
      intro r h
      simp only [allV] at h
      split at h
      · rename_i v r' hv hr
        cases h
        obtain ⟨h1, h2⟩ := ih _ hr
        refine ⟨by simp [cenv, hv, h1], fun z hz => ?_⟩
        rcases List.mem_cons.1 hz with rfl | hz
        · rw [hv]; rfl
        · exact h2 z hz
      · cases h
  obtain ⟨h1, h2⟩ := hall _ _ ha
  obtain ⟨fn, hf, hb, hn⟩ := hg
  constructor
  · simp only [knownS, hop, noSel, Op.operands, Call.operands, Bool.true_and, List.all_eq_true]
    intro y hy
    simp at hy
    rcases hy with rfl | hy
    · rw [hx]; rfl
    · exact h2 y (by simpa using hy)
  · intro w hw
    have hargs : aq.map (cenv σ) = vs.toArray := by rw [← Array.toList_inj]; simpa using h1
    have hcx : cenv σ x = .func (.func f) first cap := by simp [cenv, hx]
    have hrun : (execOp (cenv σ) o).run P w = .ok (.enter f (first ++ vs.toArray ++ cap)) w := by
      simp only [execOp, hop, resolve, hargs, hcx, Deferred.ofValue, Sem.run_bind]
      simp [Result.andThen, invoke, callFunc_run hf hb hn]
    rw [hrun]
    exact (h w hw).mono fun e w2 he => by
      cases e with
      | returned v => obtain ⟨H2, a, b⟩ := he; exact ⟨H2, a, v, rfl, b⟩
      | outgrown => exact he
      | panicked c => exact he
theorem RC_call {ol rem : List Oper} {o : Oper} {x : Operand} {aq : Array Operand} {ts : Array TypeId} {f : FuncId} {vs : List Value} {first cap : Array Value} {Φ : Value → PH → Prop} (hw : wantedS ol σ o = some true) (hop : o.op = .call ⟨.value x, aq, ts⟩)
    (hx : ev σ x = .v (.func (.func f) first cap)) (ha : allV (ev σ) aq.toList = some vs) (hg : Goes C.P f) (h : Does C.P f (first ++ vs.toArray ++ cap) H Φ)
    (hk : ∀ v H2, Φ v H2 → RC C (.op ol rem k) (σ.put o.dst (.v v)) H2) : RC C (.op ol (o :: rem) k) σ H := by
  obtain ⟨h1, h2⟩ := spec_call hop hx ha hg h
  exact RC_gen hw h1 (h2.mono fun sv H2 ⟨v, e, p⟩ => by subst e; exact hk v H2 p)
theorem RC_calT {ol rem : List Oper} {o : Oper} {x : Operand} {aq : Array Operand} {ts : Array TypeId} {f : FuncId} {vs : List Value} {first cap : Array Value} {Φ : Value → PH → Prop} (hq : (wantedS ol σ o, o.op, ev σ x, allV (ev σ) aq.toList) = (some true, Op.call ⟨.value x, aq, ts⟩, SV.v (.func (.func f) first cap), some vs)) (hg : Goes C.P f) (h : Does C.P f (first ++ vs.toArray ++ cap) H Φ)
    (hk : ∀ v H2, Φ v H2 → RC C (.op ol rem k) (σ.put o.dst (.v v)) H2) : RC C (.op ol (o :: rem) k) σ H := by
  simp only [Prod.mk.injEq] at hq
  exact RC_call hq.1 hq.2.1 hq.2.2.1 hq.2.2.2 hg h hk
theorem RD_call {ol : List Oper} {fr : FrD} {str : StD} {i : Nat} {l : List (Nat × Oper)} {o : Oper} {x : Operand} {aq : Array Operand} {ts : Array TypeId} {f : FuncId} {vs : List Value} {first cap : Array Value} {Φ : Value → PH → Prop} (hw : wantedS ol σ o = some true) (hop : o.op = .call ⟨.value x, aq, ts⟩)
    (hx : ev σ x = .v (.func (.func f) first cap)) (ha : allV (ev σ) aq.toList = some vs) (hg : Goes C.P f) (h : Does C.P f (first ++ vs.toArray ++ cap) H Φ)
    (hk : ∀ v H2, Φ v H2 → Keeps fr str i H H2 ∧ RD C ol fr str l k (σ.put o.dst (.v v)) H2) : RD C ol fr str ((i, o) :: l) k σ H := by
  obtain ⟨h1, h2⟩ := spec_call hop hx ha hg h
  exact RD_gen hw h1 (by rw [hop]; rfl) (h2.mono fun sv H2 ⟨v, e, p⟩ => by subst e; exact hk v H2 p)
def Cells (H : PH) (b off : Nat) (l : List Value) : Prop := ∃ cs ty fz, H b = some (.cells cs ty fz) ∧ off + l.length ≤ cs.size ∧ (cs.toList.drop off).take l.length = l
theorem Cells.le {H H2 : PH} {b off : Nat} {l : List Value} (h : Cells H b off l) (k : H.le H2) : Cells H2 b off l := by
  obtain ⟨cs, ty, fz, a, b, c⟩ := h; exact ⟨cs, ty, fz, k _ _ a, b, c⟩
theorem load_run {P : Program} {T : TypeId} {b off : Nat} {l : List Value} {v : Value} (h : Cells H b off l) (hT : aggOf P T = some (some l.length) ∧ v = .agg l.toArray ∨ aggOf P T = some none ∧ l = [v]) (w : World) (hw : Sub H w) :
    (loadVar T ⟨b, off, none⟩).run P w = .ok v w := by
  obtain ⟨cs, ty, fz, h1, h2, h3⟩ := h
  have hb := hw b _ h1
  have : cs = cs.toList.toArray := by simp
  rw [this] at hb
  refine run_loadVar hb ?_
  unfold rdCells
  rcases hT with ⟨ht, rfl⟩ | ⟨ht, rfl⟩
  · rw [ht]; simp only [Array.length_toList]; rw [if_pos h2, h3]
  · rw [ht]
    simp only [List.length_singleton] at h2 h3
    simp only
    have hlt : off < cs.toList.length := by simp; omega
    have : cs.toList.drop off = cs.toList[off] :: cs.toList.drop (off + 1) := List.drop_eq_getElem_cons hlt
    rw [this] at h3
    simp at h3
    rw [List.getElem?_eq_getElem hlt]; simp [h3]
theorem load_exec {P : Program} {o : Oper} {T : TypeId} {x : Operand} {b off : Nat} {l : List Value} {v : Value} (hop : o.op = .load T x) (hx : ev σ x = .v (.pointer (some ⟨b, off, none⟩))) (h : Cells H b off l)
    (hT : aggOf P T = some (some l.length) ∧ v = .agg l.toArray ∨ aggOf P T = some none ∧ l = [v]) : knownS σ o.op = true ∧ ∀ w, Sub H w → (execOp (cenv σ) o).run P w = .ok (.value v) w := by
  constructor
  · simp [knownS, hop, noSel, Op.operands, hx, isV]
  · intro w hw
    have := load_run h hT w hw
    simp [execOp, hop, cenv, hx, Instr.loadAt, Instr.sureAddr, this, Result.andThen]
theorem RC_load {ol rem : List Oper} {o : Oper} {T : TypeId} {x : Operand} {b off : Nat} {l : List Value} {v : Value} (hw : wantedS ol σ o = some true) (hop : o.op = .load T x) (hx : ev σ x = .v (.pointer (some ⟨b, off, none⟩))) (h : Cells H b off l)
    (hT : aggOf C.P T = some (some l.length) ∧ v = .agg l.toArray ∨ aggOf C.P T = some none ∧ l = [v]) (hk : RC C (.op ol rem k) (σ.put o.dst (.v v)) H) : RC C (.op ol (o :: rem) k) σ H := by
  obtain ⟨h1, h2⟩ := load_exec (P := C.P) hop hx h hT
  exact RC_read v hw h1 h2 hk
theorem RC_loT {ol rem : List Oper} {o : Oper} {T : TypeId} {x : Operand} {b off : Nat} {l : List Value} {v : Value} (hq : (wantedS ol σ o, o.op, ev σ x) = (some true, Op.load T x, SV.v (.pointer (some ⟨b, off, none⟩)))) (h : Cells H b off l)
    (hT : aggOf C.P T = some (some l.length) ∧ v = .agg l.toArray ∨ aggOf C.P T = some none ∧ l = [v]) (hk : RC C (.op ol rem k) (σ.put o.dst (.v v)) H) : RC C (.op ol (o :: rem) k) σ H := by
  simp only [Prod.mk.injEq] at hq
  exact RC_load hq.1 hq.2.1 hq.2.2 h hT hk
theorem RD_load {ol : List Oper} {fr : FrD} {str : StD} {i : Nat} {l' : List (Nat × Oper)} {o : Oper} {T : TypeId} {x : Operand} {b off : Nat} {l : List Value} {v : Value} (hf : fr.h.contains i = true) (hw : wantedS ol σ o = some true) (hop : o.op = .load T x) (hx : ev σ x = .v (.pointer (some ⟨b, off, none⟩))) (h : Cells H b off l)
    (hT : aggOf C.P T = some (some l.length) ∧ v = .agg l.toArray ∨ aggOf C.P T = some none ∧ l = [v]) (hk : RD C ol fr str l' k (σ.put o.dst (.v v)) H) : RD C ol fr str ((i, o) :: l') k σ H := by
  obtain ⟨h1, h2⟩ := load_exec (P := C.P) hop hx h hT
  exact RD_read v hf hw h1 (by rw [hop]; rfl) h2 hk
theorem RD_loT {ol : List Oper} {fr : FrD} {str : StD} {i : Nat} {l' : List (Nat × Oper)} {o : Oper} {T : TypeId} {x : Operand} {b off : Nat} {l : List Value} {v : Value} (hq : (fr.h.contains i, wantedS ol σ o, o.op, ev σ x) = (true, some true, Op.load T x, SV.v (.pointer (some ⟨b, off, none⟩)))) (h : Cells H b off l)
    (hT : aggOf C.P T = some (some l.length) ∧ v = .agg l.toArray ∨ aggOf C.P T = some none ∧ l = [v]) (hk : RD C ol fr str l' k (σ.put o.dst (.v v)) H) : RD C ol fr str ((i, o) :: l') k σ H := by
  simp only [Prod.mk.injEq] at hq
  exact RD_load hq.1 hq.2.1 hq.2.2.1 hq.2.2.2 h hT hk
theorem RD_loadJ {ol : List Oper} {fr : FrD} {str : StD} {i : Nat} {l' : List (Nat × Oper)} {o : Oper} {T : TypeId} {x : Operand} {b off : Nat} {l : List Value} {v : Value} (hf : fr.j.contains i = true) (hJ : fr.J.le H) (hw : wantedS ol σ o = some true) (hop : o.op = .load T x) (hx : ev σ x = .v (.pointer (some ⟨b, off, none⟩))) (h : Cells fr.J b off l)
    (hT : aggOf C.P T = some (some l.length) ∧ v = .agg l.toArray ∨ aggOf C.P T = some none ∧ l = [v]) (hk : RD C ol fr str l' k (σ.put o.dst (.v v)) H) : RD C ol fr str ((i, o) :: l') k σ H := by
  obtain ⟨h1, h2⟩ := load_exec (P := C.P) hop hx h hT
  exact RD_readJ v hf hJ hw h1 (by rw [hop]; rfl) h2 hk
end
end Go.Sx
end
section
namespace Go.Sx
open Go
def SlT (P : Program) (t e : TypeId) (size bytes : Nat) : Prop :=
  ∃ i z, P.underlying t = some (.slice e) ∧ P.info? e = some i ∧ i.zero = some z ∧ i.size = size ∧ i.bytes = bytes ∧ z.cells.size = size ∧ 0 < size
theorem SlT.of {P : Program} {t e : TypeId} {size bytes : Nat} (h1 : P.underlying t = some (.slice e)) (h2 : (P.info? e).map (fun i => (i.zero.map (·.cells.size), i.size, i.bytes)) = some (some size, size, bytes)) (h3 : 0 < size) : SlT P t e size bytes := by
  cases hi : P.info? e with
  | none => rw [hi] at h2; cases h2
  | some i =>
    rw [hi] at h2
    simp only [Option.map_some, Option.some.injEq, Prod.mk.injEq] at h2
    obtain ⟨a, b, c⟩ := h2
    cases hz : i.zero with
    | none => rw [hz] at a; cases a
    | some z =>
      rw [hz] at a
      simp only [Option.map_some, Option.some.injEq] at a
      exact ⟨i, z, h1, hi, hz, b, c, a, h3⟩
def OwnsP (H : PH) (e : TypeId) (size : Nat) (v : Value) (n : Nat) (xs : List Value) : Prop :=
  xs.length = n * size ∧
  ((v = .slice none 0 0 ∧ n = 0) ∨
   ∃ g cap cur, v = .slice (some ⟨g, 0, none⟩) n cap ∧ H g = some (.cells cur e (0, 0)) ∧ n ≤ cap ∧ cap ≤ maxLen ∧ cur.size = cap * size ∧ cur.toList.take (n * size) = xs)
theorem OwnsP.nil (H : PH) (e : TypeId) (size : Nat) : OwnsP H e size (.slice none 0 0) 0 [] := ⟨by simp, .inl ⟨rfl, rfl⟩⟩
theorem OwnsP.toRow {H : PH} {e : TypeId} {size : Nat} {v : Value} {n : Nat} {xs : List Value} (h : OwnsP H e size v n xs) {w : World} (s : Sub H w) : w.ownsRow 0 e size v n xs := by
  obtain ⟨h1, h2⟩ := h
  refine ⟨h1, ?_⟩
  rcases h2 with h2 | ⟨g, cap, cur, a, b, c, d, f, k⟩
  · exact .inl h2
  · exact .inr ⟨g, cap, cur, a, Nat.zero_le _, s _ _ b, c, d, f, k⟩
def Chg (own : Option Nat) (H H2 : PH) : Prop := ∀ b o, some b ≠ own → H b = some o → H2 b = some o
theorem append_spec {P : Program} {t ty e : TypeId} {size bytes : Nat} (ht : SlT P t e size bytes) {H : PH} {v : Value} {n : Nat} {xs : List Value} (hown : OwnsP H e size v n xs)
    {xb xo m c : Nat} {news : List Value} (hx : Cells H xb xo news) (hl : news.length = m * size) (h1 : ∀ u ∈ news, one u = true) (hb : (n + m) * bytes ≤ 140737488355328) (h63 : n + m ≤ maxLen) (w : World) (s : Sub H w) :
    ∃ v' w' H2, (Builtin.append_ #[t, t] ty #[v, .slice (some ⟨xb, xo, none⟩) m c]).run P w = .ok v' w' ∧ Step H w H2 w' ∧ OwnsP H2 e size v' (n + m) (xs ++ news) ∧ Chg v.ownBlock H H2 ∧
      (v'.ownBlock = v.ownBlock ∨ ∀ g, v'.ownBlock = some g → H g = none) := by
  obtain ⟨i, z, a1, a2, a3, a4, a5, a6, a7⟩ := ht
  obtain ⟨cs, cty, cfz, c1, c2, c3⟩ := hx
  have hcell : ∀ j u, news[j]? = some u → w.cell? ((⟨xb, xo, none⟩ : Addr).add j) = some u := by
    intro j u hj
    have hbk := s _ _ c1
    rw [show cs = cs.toList.toArray from by simp] at hbk
    rw [add_block, cell_of hbk]
    rw [← c3] at hj
    rw [List.getElem?_take] at hj
    split at hj
    · rw [List.getElem?_drop] at hj; exact hj
    · cases hj
  obtain ⟨v', w', hrun, hown', hgrow, _, hblk⟩ := run_append_own_at w 0 t ty e i z size bytes a1 a2 a3 a4 a5 a6 a7 v n xs (hown.toRow s) ⟨xb, xo, none⟩ m c news hl hcell
    (fun u hu => by have := h1 u hu; cases u <;> first | rfl | cases this) h63 hb (Nat.zero_le _)
  have ownH : ∀ b, v.ownBlock = some b → H b ≠ none := by
    intro b hb
    rcases hown.2 with ⟨rfl, _⟩ | ⟨g, cap, cur, rfl, hg, _⟩
    · cases hb
    · simp only [Value.ownBlock, Option.some.injEq] at hb; subst hb; rw [hg]; exact fun e => by cases e
  have keep : ∀ b o, some b ≠ v.ownBlock → H b = some o → w'.heap[b]? = some o := fun b o hb ho => by
    rw [hgrow.block b (lt_size_of (s b o ho)) hb]; exact s b o ho
  have hpriv : ∀ b, b < w.heap.size → H b = none → w'.heap[b]? = w.heap[b]? := fun b hb hn => hgrow.block b hb fun e => ownH b e.symm hn
  obtain ⟨hlen, hcase⟩ := hown'
  rcases hcase with ⟨rfl, hn0⟩ | ⟨g, cap, cur, rfl, _, hg, q1, q2, q3, q4⟩
  · refine ⟨_, w', fun b => if some b = v.ownBlock then none else H b, hrun, ⟨fun b o h => ?_, hgrow.size, hpriv, fun b _ hn => by simp [hn], hgrow.os, hgrow.tape, hgrow.output⟩, ⟨hlen, .inl ⟨rfl, hn0⟩⟩, fun b o hb ho => by simp [hb, ho], .inr fun g h => by cases h⟩
    split at h
    · cases h
    · exact keep b o (by assumption) h
  · have hgb : v.ownBlock = some g ∨ H g = none := by
      rcases hblk with h | h
      · left; rw [← h]; rfl
      · right
        simp only [Value.ownBlock, Option.some.injEq] at h
        subst h
        cases hH : H w.heap.size with
        | none => rfl
        | some o => exact absurd (lt_size_of (s _ _ hH)) (by omega)
    refine ⟨_, w', fun b => if b = g then some (.cells cur e (0, 0)) else if some b = v.ownBlock then none else H b, hrun, ⟨fun b o h => ?_, hgrow.size, hpriv, fun b hb hn => ?_, hgrow.os, hgrow.tape, hgrow.output⟩,
      ⟨hlen, .inr ⟨g, cap, cur, rfl, by simp, q1, q2, q3, q4⟩⟩, fun b o hb ho => ?_, ?_⟩
    · split at h
      · rename_i e1; subst e1; cases h; exact hg
      · split at h
        · cases h
        · exact keep b o (by assumption) h
    · have : b ≠ g := by
        rintro rfl
        rcases hblk with h | h
        · exact ownH b (by rw [← h]; rfl) hn
        · simp only [Value.ownBlock, Option.some.injEq] at h; omega
      simp [this, hn]
    · have : b ≠ g := by
        rintro rfl
        rcases hgb with h | h
        · exact hb h.symm
        · rw [h] at ho; cases ho
      simp [this, hb, ho]
    · rcases hblk with h | h
      · exact .inl h
      · right
        intro g' hg'
        rw [h] at hg'
        simp only [Option.some.injEq] at hg'
        subst hg'
        cases hH : H w.heap.size with
        | none => rfl
        | some o => exact absurd (lt_size_of (s _ _ hH)) (by omega)
def partsOk (size : Nat) : Nat → List (Nat × Value) → Bool
  | _, [] => true
  | j, (i, v) :: l => decide (i = j) && decide (v.cells.toList.length = size) && partsOk size (j + 1) l
def flatP : List (Nat × Value) → List Value
  | [] => []
  | (_, v) :: l => v.cells.toList ++ flatP l
theorem setCs_drop (l cs : List Value) (off : Nat) (h : off + cs.length ≤ l.length) : setCs l off cs = l.take off ++ cs ++ l.drop (off + cs.length) := by
  induction cs generalizing l off with
  | nil => simp [setCs]
  | cons c cs ih =>
    simp only [List.length_cons] at h
    have hlt : off < l.length := by omega
    rw [setCs, ih _ _ (by simp; omega)]
    rw [List.take_set, List.drop_set]
    have h1 : (l.take (off + 1)).set off c = l.take off ++ [c] := by
      rw [List.take_succ_eq_append_getElem hlt, List.set_append]
      simp [Nat.min_eq_left (Nat.le_of_lt hlt)]
    rw [h1, if_pos (by omega)]
    simp [Nat.add_assoc, Nat.add_comm 1]
theorem fillL_flat (size : Nat) : ∀ (parts : List (Nat × Value)) (j : Nat) (cells : List Value), partsOk size j parts = true → cells.length = (j + parts.length) * size →
    fillL (fun i => some (i * size, size)) cells parts = some (cells.take (j * size) ++ flatP parts)
  | [], j, cells, _, hl => by
    simp only [List.length_nil, Nat.add_zero] at hl
    simp [fillL, flatP, ← hl]
  | (i, v) :: l, j, cells, h, hl => by
    simp only [partsOk, Bool.and_eq_true, decide_eq_true_eq] at h
    obtain ⟨⟨rfl, h2⟩, h3⟩ := h
    simp only [List.length_cons] at hl
    have hle : i * size + size ≤ cells.length := by
      rw [hl]
      have : i * size + size = (i + 1) * size := by rw [Nat.add_mul]; simp
      rw [this]; exact Nat.mul_le_mul_right _ (by omega)
    simp only [fillL, h2, true_and, if_pos hle]
    rw [fillL_flat size l (i + 1) _ h3 (by rw [setCs_length, hl]; congr 1; omega)]
    rw [setCs_drop _ _ _ (by rw [h2]; exact hle)]
    simp only [flatP]
    congr 1
    rw [h2]
    have e1 : (i + 1) * size = i * size + size := by rw [Nat.add_mul]; simp
    have e2 : (cells.take (i * size) ++ v.cells.toList).length = (i + 1) * size := by simp [h2, e1]; omega
    rw [List.take_append_of_le_length (by omega), ← e2, List.take_length, List.append_assoc]
theorem buildSlice_run {P : Program} {t e : TypeId} {size bytes : Nat} (ht : SlT P t e size bytes) {len : Nat} {parts : List (Nat × Value)} (hp : partsOk size 0 parts = true) (hlen : parts.length = len) (hbig : len * size ≤ 16777216) (w : World) :
    (Instr.buildSlice t len parts.toArray).run P w = .ok (.slice (some ⟨w.heap.size, 0, none⟩) len len) { w with heap := w.heap.push (.cells (flatP parts).toArray e (0, 0)) } := by
  obtain ⟨i, z, a1, a2, a3, a4, a5, a6, a7⟩ := ht
  have und : (underlying t).run P w = .ok (.slice e) w := kindOf_und a1
  have sz : (sizeOf e).run P w = .ok size w := by simp [sizeOf, typeInfo, program, Sem.run, a2, a4]
  have zv : (zeroValue e).run P w = .ok z w := by simp [zeroValue, typeInfo, program, Sem.run, a2, a3]
  have key : ∀ (zero : Array Value), Instr.fill (fun i => some (i * size, size)) ((Array.range (len * size)).map (zero[· % zero.size]!)) parts = some (flatP parts).toArray := by
    intro zero
    refine fill_of (fun i x h => h) ?_
    have := fillL_flat size parts 0 ((Array.range (len * size)).map (zero[· % zero.size]!)).toList hp (by simp [hlen])
    simpa using this
  by_cases h0 : len * size = 0
  · simp only [Instr.buildSlice, Sem.run_bind, und, Result.andThen, sz, if_neg (show ¬ len * size > 2 ^ 24 by omega), if_pos h0]
    have hl0 : len = 0 := by
      rcases Nat.mul_eq_zero.1 h0 with h | h
      · exact h
      · omega
    subst hl0
    have hp0 : parts = [] := List.length_eq_zero_iff.1 hlen
    subst hp0
    simp [Instr.fill, flatP, newRow, newObj, Sem.run, Result.andThen]
    rw [show Array.range 0 = #[] from Array.eq_empty_of_size_eq_zero (by simp)]
    simp
  · simp only [Instr.buildSlice, Sem.run_bind, und, Result.andThen, sz, if_neg (show ¬ len * size > 2 ^ 24 by omega), if_neg h0, zv]
    simp [key, newRow, newObj, Sem.run, Result.andThen]
end Go.Sx
end
section
namespace Go.Sx
open Go
theorem isV_of_allP {σ : St} : ∀ {l : List (Nat × Operand)} {r : List (Nat × Value)}, allP (ev σ) l = some r → l.map (fun x => (x.1, cenv σ x.2)) = r ∧ ∀ y ∈ l, isV (ev σ y.2) = true
  | [], r, h => by cases h; exact ⟨rfl, fun y hy => (List.not_mem_nil hy).elim⟩
  | (i, y) :: l, r, h => by
    simp only [allP] at h
    split at h
    · rename_i v r' hv hr
      cases h
      obtain ⟨h1, h2⟩ := isV_of_allP hr
      have hc : cenv σ y = v := by simp [cenv, hv]
      refine ⟨by rw [List.map_cons, h1, hc], fun z hz => ?_⟩
      rcases List.mem_cons.1 hz with rfl | hz
      · rw [hv]; rfl
      · exact h2 z hz
    · cases h
section
variable {C : Cx} {P : Program} {k : List Item} {σ : St} {H : PH}
theorem spec_buildSlice {o : Oper} {t e : TypeId} {len size bytes : Nat} {parts : Array (Nat × Operand)} {ps : List (Nat × Value)} (hop : o.op = .buildSlice t len parts) (ha : allP (ev σ) parts.toList = some ps) (ht : SlT P t e size bytes)
    (hp : partsOk size 0 ps = true) (hlen : ps.length = len) (hbig : len * size ≤ 16777216) :
    knownS σ o.op = true ∧ OpSpec P (execOp (cenv σ) o) H fun sv H2 => ∃ b, H b = none ∧ sv = .v (.slice (some ⟨b, 0, none⟩) len len) ∧ H2 = H.put b (.cells (flatP ps).toArray e (0, 0)) := by
  obtain ⟨h1, h2⟩ := isV_of_allP ha
  constructor
  · simp only [knownS, hop, noSel, Op.operands, Bool.true_and, List.all_eq_true]
    intro y hy
    simp at hy
    obtain ⟨i, hi⟩ := hy
    exact h2 (i, y) (by simpa using hi)
  · intro w hw
    have hparts : (parts.map fun (i, x) => (i, cenv σ x)) = ps.toArray := by rw [← Array.toList_inj]; simpa using h1
    have := buildSlice_run ht hp hlen hbig w
    obtain ⟨n1, n2⟩ := Step.new hw (.cells (flatP ps).toArray e (0, 0))
    have hrun : (execOp (cenv σ) o).run P w = .ok (.value (.slice (some ⟨w.heap.size, 0, none⟩) len len)) { w with heap := w.heap.push (.cells (flatP ps).toArray e (0, 0)) } := by
      simp only [execOp, hop, hparts, Sem.run_bind, this]
      simp [Result.andThen]
    rw [hrun]
    exact ⟨_, n2, w.heap.size, n1, rfl, rfl⟩
theorem RC_buildSlice {ol rem : List Oper} {o : Oper} {t e : TypeId} {len size bytes : Nat} {parts : Array (Nat × Operand)} {ps : List (Nat × Value)} (ht : SlT C.P t e size bytes) (hw : wantedS ol σ o = some true) (hop : o.op = .buildSlice t len parts) (ha : allP (ev σ) parts.toList = some ps)
    (hp : partsOk size 0 ps = true) (hlen : ps.length = len) (hbig : len * size ≤ 16777216)
    (hk : ∀ b, H b = none → RC C (.op ol rem k) (σ.put o.dst (.v (.slice (some ⟨b, 0, none⟩) len len))) (H.put b (.cells (flatP ps).toArray e (0, 0)))) : RC C (.op ol (o :: rem) k) σ H := by
  obtain ⟨h1, h2⟩ := spec_buildSlice (H := H) hop ha ht hp hlen hbig
  exact RC_gen hw h1 (h2.mono fun sv H2 ⟨b, a, c, d⟩ => by subst c; subst d; exact hk b a)
theorem RD_buildSlice {ol : List Oper} {fr : FrD} {str : StD} {i : Nat} {l : List (Nat × Oper)} {o : Oper} {t e : TypeId} {len size bytes : Nat} {parts : Array (Nat × Operand)} {ps : List (Nat × Value)} (ht : SlT C.P t e size bytes) (hw : wantedS ol σ o = some true) (hop : o.op = .buildSlice t len parts) (ha : allP (ev σ) parts.toList = some ps)
    (hp : partsOk size 0 ps = true) (hlen : ps.length = len) (hbig : len * size ≤ 16777216)
    (hk : ∀ b, H b = none → RD C ol fr str l k (σ.put o.dst (.v (.slice (some ⟨b, 0, none⟩) len len))) (H.put b (.cells (flatP ps).toArray e (0, 0)))) : RD C ol fr str ((i, o) :: l) k σ H := by
  obtain ⟨h1, h2⟩ := spec_buildSlice (H := H) hop ha ht hp hlen hbig
  exact RD_gen hw h1 (by rw [hop]; rfl) (h2.mono fun sv H2 ⟨b, a, c, d⟩ => by subst c; subst d; exact ⟨Keeps.le (PH.le_put a), hk b a⟩)
theorem spec_append {o : Oper} {t e : TypeId} {size bytes : Nat} {x y : Operand} {v : Value} {n xb xo m c : Nat} {xs news : List Value} (ht : SlT P t e size bytes) (hop : o.op = .call ⟨.builtin .append, #[x, y], #[t, t]⟩) (hx : ev σ x = .v v) (hy : ev σ y = .v (.slice (some ⟨xb, xo, none⟩) m c))
    (hown : OwnsP H e size v n xs) (hn : Cells H xb xo news) (hl : news.length = m * size) (h1 : news.all one = true) (hb : (n + m) * bytes ≤ 140737488355328) (h63 : n + m ≤ maxLen) :
    knownS σ o.op = true ∧ OpSpec P (execOp (cenv σ) o) H fun sv H2 => ∃ v', sv = .v v' ∧ OwnsP H2 e size v' (n + m) (xs ++ news) ∧ Chg v.ownBlock H H2 ∧ (v'.ownBlock = v.ownBlock ∨ ∀ g, v'.ownBlock = some g → H g = none) := by
  constructor
  · simp [knownS, hop, noSel, Op.operands, Call.operands, hx, hy, isV]
  · intro w hw
    obtain ⟨v', w', H2, hrun, st, hown', hch, hfr⟩ := append_spec (ty := o.type) (c := c) ht hown hn hl (fun u hu => List.all_eq_true.1 h1 u hu) hb h63 w hw
    have : (execOp (cenv σ) o).run P w = .ok (.value v') w' := by
      simp [execOp, hop, resolve, cenv, hx, hy, invoke, builtin, Result.andThen, hrun]
    rw [this]
    exact ⟨H2, st, v', rfl, hown', hch, hfr⟩
theorem RC_append {ol rem : List Oper} {o : Oper} {t e : TypeId} {size bytes : Nat} {x y : Operand} {v : Value} {n xb xo m c : Nat} {xs news : List Value} (ht : SlT C.P t e size bytes) (hown : OwnsP H e size v n xs) (hw : wantedS ol σ o = some true) (hop : o.op = .call ⟨.builtin .append, #[x, y], #[t, t]⟩) (hx : ev σ x = .v v) (hy : ev σ y = .v (.slice (some ⟨xb, xo, none⟩) m c))
    (hn : Cells H xb xo news) (hl : news.length = m * size) (h1 : news.all one = true) (hb : (n + m) * bytes ≤ 140737488355328) (h63 : n + m ≤ maxLen)
    (hk : ∀ v' H2, OwnsP H2 e size v' (n + m) (xs ++ news) → Chg v.ownBlock H H2 → (v'.ownBlock = v.ownBlock ∨ ∀ g, v'.ownBlock = some g → H g = none) → RC C (.op ol rem k) (σ.put o.dst (.v v')) H2) : RC C (.op ol (o :: rem) k) σ H := by
  obtain ⟨a, b⟩ := spec_append (σ := σ) ht hop hx hy hown hn hl h1 hb h63
  exact RC_gen hw a (b.mono fun sv H2 ⟨v', e1, e2, e3, e4⟩ => by subst e1; exact hk v' H2 e2 e3 e4)
theorem RD_append {ol : List Oper} {fr : FrD} {str : StD} {i : Nat} {l : List (Nat × Oper)} {o : Oper} {t e : TypeId} {size bytes : Nat} {x y : Operand} {v : Value} {n xb xo m c : Nat} {xs news : List Value} (ht : SlT C.P t e size bytes) (hown : OwnsP H e size v n xs) (hs : str.h.contains i = false) (hsj : str.j.contains i = false) (hw : wantedS ol σ o = some true) (hop : o.op = .call ⟨.builtin .append, #[x, y], #[t, t]⟩) (hx : ev σ x = .v v) (hy : ev σ y = .v (.slice (some ⟨xb, xo, none⟩) m c))
    (hn : Cells H xb xo news) (hl : news.length = m * size) (h1 : news.all one = true) (hb : (n + m) * bytes ≤ 140737488355328) (h63 : n + m ≤ maxLen)
    (hk : ∀ v' H2, OwnsP H2 e size v' (n + m) (xs ++ news) → Chg v.ownBlock H H2 → (v'.ownBlock = v.ownBlock ∨ ∀ g, v'.ownBlock = some g → H g = none) → RD C ol fr str l k (σ.put o.dst (.v v')) H2) : RD C ol fr str ((i, o) :: l) k σ H := by
  obtain ⟨a, b⟩ := spec_append (σ := σ) ht hop hx hy hown hn hl h1 hb h63
  exact RD_gen hw a (by rw [hop]; rfl) (b.mono fun sv H2 ⟨v', e1, e2, e3, e4⟩ => by subst e1; exact ⟨Keeps.non hs hsj, hk v' H2 e2 e3 e4⟩)
theorem spec_store {o : Oper} {T ty : TypeId} {x y : Operand} {b off : Nat} {v : Value} {cells : Array Value} {cs : List Value} (hop : o.op = .store T x y) (hx : ev σ x = .v (.pointer (some ⟨b, off, none⟩))) (hy : ev σ y = .v v)
    (hH : H b = some (.cells cells ty (0, 0))) (hc : cellsV v = some cs) (hs : szOf P T = some cs.length) (hle : off + cs.length ≤ cells.size) :
    knownS σ o.op = true ∧ OpSpec P (execOp (cenv σ) o) H fun sv H2 => sv = .u ∧ H2 = H.put b (.cells (setCs cells.toList off cs).toArray ty (0, 0)) := by
  constructor
  · simp [knownS, hop, noSel, Op.operands, hx, hy, isV]
  · intro w hw
    obtain ⟨hcells, hone⟩ := cellsV_cells hc
    have hb := hw _ _ hH
    rw [show cells = cells.toList.toArray from by simp] at hb
    obtain ⟨w2, h1, h2, h3, h4, h5, h6, h7⟩ := run_storeCells (P := P) b ty cs 0 off cells.toList w hb (by simpa using hle) hone
    have sz : (sizeOf T).run P w = .ok cs.length w := by
      unfold szOf at hs
      simp only [Option.map_eq_some_iff] at hs
      obtain ⟨i, hi, h⟩ := hs
      simp [sizeOf, typeInfo, program, Sem.run, hi, h]
    have hcl : v.cells.size = cs.length := by rw [← hcells]; simp
    have hrun : (execOp (cenv σ) o).run P w = .ok .skip w2 := by
      simp only [execOp, hop, cenv, hx, hy, Instr.storeAt, Instr.sureAddr, storeVar, Sem.run_bind]
      simp [Result.andThen, sz, hcl, hcells, h1]
    rw [hrun]
    refine ⟨_, ⟨fun c o' h => ?_, by omega, fun c hc' hn => h3 c (fun e => by subst e; rw [hH] at hn; cases hn), fun c hc' hn => ?_, h5, h6, h7⟩, rfl, rfl⟩
    · by_cases e : c = b
      · subst e; simp only [PH.put, if_true] at h; cases h; simpa using h2
      · simp only [PH.put, if_neg e] at h; rw [h3 c e]; exact hw _ _ h
    · have : c ≠ b := fun e => by subst e; rw [hH] at hn; cases hn
      simp [PH.put, this, hn]
theorem RC_store {ol rem : List Oper} {o : Oper} {T ty : TypeId} {x y : Operand} {b off : Nat} {v : Value} {cells : Array Value} {cs : List Value} (hH : H b = some (.cells cells ty (0, 0))) (hw : wantedS ol σ o = some true) (hop : o.op = .store T x y) (hx : ev σ x = .v (.pointer (some ⟨b, off, none⟩))) (hy : ev σ y = .v v)
    (hc : cellsV v = some cs) (hs : szOf C.P T = some cs.length) (hle : off + cs.length ≤ cells.size)
    (hk : RC C (.op ol rem k) (σ.put o.dst .u) (H.put b (.cells (setCs cells.toList off cs).toArray ty (0, 0)))) : RC C (.op ol (o :: rem) k) σ H := by
  obtain ⟨h1, h2⟩ := spec_store (σ := σ) hop hx hy hH hc hs hle
  exact RC_gen hw h1 (h2.mono fun sv H2 ⟨a, b⟩ => by subst a; subst b; exact hk)
theorem RD_pstore {ol : List Oper} {fr : FrD} {str : StD} {i : Nat} {l : List (Nat × Oper)} {o : Oper} {T ty : TypeId} {x y : Operand} {b off : Nat} {v : Value} {cells : Array Value} {cs : List Value} (hH : H b = some (.cells cells ty (0, 0))) (hsk : memN str.k i = false) (hw : wantedS ol σ o = some true) (hop : o.op = .store T x y) (hx : ev σ x = .v (.pointer (some ⟨b, off, none⟩))) (hy : ev σ y = .v v)
    (hc : cellsV v = some cs) (hs : szOf C.P T = some cs.length) (hle : off + cs.length ≤ cells.size)
    (hk : RD C ol fr str l k (σ.put o.dst .u) (H.put b (.cells (setCs cells.toList off cs).toArray ty (0, 0)))) : RD C ol fr str ((i, o) :: l) k σ H := by
  obtain ⟨h1, h2⟩ := spec_store (σ := σ) hop hx hy hH hc hs hle
  exact RD_store hsk hw h1 (by rw [hop]; rfl) (h2.mono fun sv H2 ⟨a, b⟩ => by subst a; subst b; exact hk)
end
end Go.Sx
end
