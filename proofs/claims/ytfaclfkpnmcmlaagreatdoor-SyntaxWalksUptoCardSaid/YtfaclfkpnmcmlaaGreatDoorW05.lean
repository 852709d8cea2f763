import Derived.Test.YtfaclfkpnmcmlaaGreatDoorW04
import Derived.Scope
set_option maxHeartbeats 20000000
set_option linter.all false
section
namespace Go.Ke
open Go Go.Sx
section
variable {X : Ctx} {G N : Nat} {call : CallF} {hd : Nat → List Nat} {T : Nat → Tr LV} {S : Nat → KS} {R : Nat → SR1}
theorem any_ke {r : Option Nat} (hC : CallOk X G call) {ops : Array Oper} (k : Kap X G N call ops.toList hd T S R) {B : Base} {M : LM} (h0 : Has M (S 0).L) (hb : ∀ id, (S 0).c ≤ id → (S 0).L.get id = none) (hMf : ∀ id, (S 0).c ≤ id → id < (S ops.toList.length).c → M id = none) (hBc : B.c ≤ (S 0).c)
    {cl : Nat → Nat → Bool} (hcl : AncOk ops.toList cl) (hfree : ∀ i j, i < j → j < ops.toList.length → cl j i = false → Free hd ops.toList S R i j) {n0 : Nat} {H0 : PH} {w0 : World} (hn : n0 = w0.heap.size) {K : St → PH → Prop}
    (hK : ∀ e I H σ, DI X G N ops.toList T S R B M (fun _ => true) e I H σ → K σ H) :
    ∀ (fuel : Nat) (κ : List Nat) (listed : Array Bool) {e : Env} {I H : PH} {σ : St} {a : Act} {w : World}, κ.length ≤ fuel → listed.size = ops.size → κ.Nodup → (∀ i, i ∈ κ ↔ i < ops.size ∧ listed.getD i true = false) →
      (∀ y o, ops.toList[y]? = some o → listed.getD y false = true → ∀ z ∈ dirOf o, listed.getD z false = true) → DI X G N ops.toList T S R B M (fun i => listed.getD i false) e I H σ → Step H0 w0 H w → Sx.G n0 σ H a w → wpAnyIn (FR r) 0 X.P .any ops (QK n0 H0 w0 K) fuel listed a w := by
  have readyIff : ∀ (listed : Array Bool) (i : Nat), i ∈ Region.ready .any ops listed ↔ i < ops.size ∧ listed.getD i true = false ∧ ∃ o, ops[i]? = some o ∧ ∀ z ∈ dirOf o, listed.getD z false = true := by
    intro listed i
    simp only [Region.ready, List.mem_filter, List.mem_range, Bool.and_eq_true, Bool.not_eq_true']
    constructor
    · rintro ⟨h1, h2, h3⟩
      refine ⟨h1, h2, ?_⟩
      cases ho : ops[i]? with
      | none => rw [ho] at h3; cases h3
      | some o =>
        rw [ho] at h3
        simp only [Option.map_some, Option.getD_some] at h3
        refine ⟨o, rfl, fun z hz => ?_⟩
        simp only [dirOf, List.mem_map, List.mem_filter] at hz
        obtain ⟨e, ⟨he, hb⟩, rfl⟩ := hz
        have := Array.all_eq_true'.1 h3 e (by simpa using he)
        simpa [hb] using this
    · rintro ⟨h1, h2, o, ho, h3⟩
      refine ⟨h1, h2, ?_⟩
      rw [ho]
      simp only [Option.map_some, Option.getD_some]
      refine Array.all_eq_true'.2 fun e he => ?_
      cases hb : Region.binds .any e with
      | false => rfl
      | true =>
        have := h3 e.on (by simp only [dirOf, List.mem_map, List.mem_filter]; exact ⟨e, ⟨by simpa using he, hb⟩, rfl⟩)
        simpa using this
  have sizeol : ops.size = ops.toList.length := (Array.length_toList).symm
  have getol : ∀ i : Nat, ops[i]? = ops.toList[i]? := fun i => by simp
  have noneLeft : ∀ (κ : List Nat) (listed : Array Bool), (∀ i, i ∈ κ ↔ i < ops.size ∧ listed.getD i true = false) → listed.size = ops.size → Region.ready .any ops listed = [] → κ = [] := by
    intro κ listed hm hsz hr
    have key : ∀ n i, i < n → i < ops.size → listed.getD i true = true := by
      intro n
      induction n with
      | zero => intro i h; omega
      | succ n ih =>
        intro i hi hio
        cases hl : listed.getD i true with
        | true => rfl
        | false =>
          exfalso
          have hoi : ops[i]? = some ops[i] := Array.getElem?_eq_getElem hio
          have : i ∈ Region.ready .any ops listed := (readyIff listed i).2 ⟨hio, hl, ops[i], hoi, fun z hz => by
            have hzi := hcl.lt i _ (by rw [← getol i]; exact hoi) z hz
            have := ih z (by omega) (by omega)
            rw [Array.getD_eq_getD_getElem?] at this ⊢
            rw [Array.getElem?_eq_getElem (by omega)] at this ⊢
            simpa using this⟩
          rw [hr] at this; cases this
    cases κ with
    | nil => rfl
    | cons i l =>
      exfalso
      have := (hm i).1 (.head _)
      rw [key (i + 1) i (by omega) this.1] at this
      exact Bool.noConfusion this.2
  have fin : ∀ (κ : List Nat) (listed : Array Bool), κ = [] → (∀ i, i ∈ κ ↔ i < ops.size ∧ listed.getD i true = false) → listed.size = ops.size → ∀ {e : Env} {I H : PH} {σ : St}, DI X G N ops.toList T S R B M (fun i => listed.getD i false) e I H σ → K σ H := by
    intro κ listed hk hm hsz e I H σ hD
    subst hk
    have hall : ∀ i, i < ops.toList.length → listed.getD i false = true := by
      intro i hi
      cases hl : listed.getD i true with
      | false => exact absurd ((hm i).2 ⟨by omega, hl⟩) List.not_mem_nil
      | true =>
        rw [Array.getD_eq_getD_getElem?] at hl ⊢
        rw [Array.getElem?_eq_getElem (by omega)] at hl ⊢
        exact hl
    refine hK e I H σ ⟨hD.ge, hD.le, fun i _ h => (by cases h), hD.out, ?_, hD.ile, hD.bx, hD.len, fun t v hv => hD.tm t v ?_⟩
    · have : ML ops.toList S R M (fun _ => true) = ML ops.toList S R M (fun i => listed.getD i false) := by
        funext id; unfold ML
        rw [last_congr (p := fun i => true && domE S R id i) (q := fun i => listed.getD i false && domE S R id i) fun i hi => by rw [hall i hi]]
      rw [this]; exact hD.rel
    · unfold TL at hv ⊢
      rw [last_congr (p := fun i => listed.getD i false && dstE ops.toList t i) (q := fun i => true && dstE ops.toList t i) fun i hi => by rw [hall i hi]]
      exact hv
  intro fuel
  induction fuel with
  | zero =>
    intro κ listed e I H σ a w hlen hsz hnd hm hc hD st g
    have : κ = [] := List.length_eq_zero_iff.1 (by omega)
    refine ⟨?_, σ, H, fin κ listed this hm hsz hD, st, g⟩
    subst this
    cases hr : Region.ready .any ops listed with
    | nil => rfl
    | cons i l =>
      have hi := (readyIff listed i).1 (by rw [hr]; exact .head _)
      exact absurd ((hm i).2 ⟨hi.1, hi.2.1⟩) List.not_mem_nil
  | succ fuel ih =>
    intro κ listed e I H σ a w hlen hsz hnd hm hc hD st g
    refine ⟨fun hr => ⟨σ, H, fin κ listed (noneLeft κ listed hm hsz hr) hm hsz hD, st, g⟩, fun i hi => ?_⟩
    obtain ⟨h1, h2, oi, hoi, hdeps⟩ := (readyIff listed i).1 hi
    have hik : i ∈ κ := (hm i).2 ⟨h1, h2⟩
    obtain ⟨l1, l2, rfl⟩ := List.append_of_mem hik
    have hoi' : ops.toList[i]? = some oi := by rw [← getol]; exact hoi
    have lstOf : ∀ x, x < ops.size → (listed.getD x true = false ↔ listed.getD x false = false) := by
      intro x hx
      rw [Array.getD_eq_getD_getElem?, Array.getD_eq_getD_getElem?, Array.getElem?_eq_getElem (by omega)]
      simp
    have hv : Vstep X.P ops.toList oi (fun σ' H' => ∃ e' I', DI X G N ops.toList T S R B M (fun x => decide (x = i) || listed.getD x false) e' I' H' σ') σ H := by
      refine hD.step hC k h0 hb hMf hBc hoi' ((lstOf i h1).1 h2) (fun x hx hne => ⟨fun hxi hl => ?_, fun hix hl => ?_⟩) fun e' I' H' σ' h => ⟨e', I', h⟩
      · refine hfree x i hxi (by omega) ?_
        cases hcc : cl i x with
        | false => rfl
        | true =>
          exfalso
          have := hcl.listed (L := fun x => listed.getD x false = true) hc (i + 1) i (by omega) oi hoi' hdeps x (by simpa using hcc)
          rw [hl] at this; cases this
      · refine hfree i x hix hx ?_
        cases hcc : cl x i with
        | false => rfl
        | true =>
          exfalso
          have hox : ops.toList[x]? = some ops.toList[x] := List.getElem?_eq_getElem hx
          have := hcl.listed (L := fun x => listed.getD x false = true) hc (x + 1) x (by omega) _ hox (hc x _ hox hl) i (by simpa using hcc)
          rw [(lstOf i h1).1 h2] at this; cases this
    refine Vstep_sound hoi hn (fun σ' H' a' w' hk st' g' => ?_) hv st g
    obtain ⟨e', I', hk⟩ := hk
    have getset : ∀ (j : Nat) (d : Bool), (listed.setIfInBounds i true).getD j d = if i = j then (if i < listed.size then true else d) else listed.getD j d := by
      intro j d
      rw [Array.getD_eq_getD_getElem?, Array.getElem?_setIfInBounds]
      by_cases e : i = j
      · subst e; by_cases hl : i < listed.size <;> simp [hl]
      · simp [e, Array.getD_eq_getD_getElem?]
    have hlt : i < listed.size := by omega
    have hnd2 := List.nodup_append.1 hnd
    have hnotin : i ∉ l1 ++ l2 := by
      intro hmm
      rcases List.mem_append.1 hmm with h | h
      · exact hnd2.2.2 i h i (.head _) rfl
      · exact (List.nodup_cons.1 hnd2.2.1).1 h
    refine ih (l1 ++ l2) _ (e := e') (I := I') (by simp at hlen ⊢; omega) (by simp [hsz]) ?_ (fun j => ?_) (fun y o ho hl z hz => ?_) ?_ st' g'
    · refine List.nodup_append.2 ⟨hnd2.1, (List.nodup_cons.1 hnd2.2.1).2, fun x hx y hy => hnd2.2.2 x hx y (.tail _ hy)⟩
    · rw [getset]
      by_cases e : i = j
      · subst e
        simp only [if_true, if_pos hlt]
        exact ⟨fun hm' => absurd hm' hnotin, fun hh => by cases hh.2⟩
      · simp only [if_neg e]
        rw [← hm j]
        constructor
        · intro hj
          rcases List.mem_append.1 hj with hj | hj
          · exact List.mem_append_left _ hj
          · exact List.mem_append_right _ (.tail _ hj)
        · intro hj
          rcases List.mem_append.1 hj with hj | hj
          · exact List.mem_append_left _ hj
          · rcases List.mem_cons.1 hj with rfl | hj
            · exact absurd rfl e
            · exact List.mem_append_right _ hj
    · rw [getset] at hl ⊢
      by_cases ez : i = z
      · subst ez; simp [hlt]
      · simp only [if_neg ez]
        by_cases ey : i = y
        · subst ey
          rw [hoi'] at ho; cases ho
          exact hdeps z hz
        · simp only [if_neg ey] at hl
          exact hc y o ho hl z hz
    · have : (fun x => (listed.setIfInBounds i true).getD x false) = fun x => decide (x = i) || listed.getD x false := by
        funext x
        rw [getset]
        by_cases e : i = x
        · subst e; simp [hlt]
        · rw [if_neg e]; simp [Ne.symm e]
      rw [this]; exact hk
end
end Go.Ke
end
section
namespace Go.Ke
open Go Go.Sx
 noncomputable def wsAll (c : Nat) : List (KS × SR1) → List Nat → List Nat
  | [], ws => ws
  | p :: l, ws => wsAll c l (addW c p.2.s.c p.2.ws ws)
section
variable {X : Ctx} {G N : Nat} {call : CallF}
theorem run_sta (hC : CallOk X G call) {ol : List Oper} {cl : Nat → Nat → Bool} {B : Base} : ∀ {rem : List Oper} {k : Nat} {acc : List (Nat × KS × SR1)} {τ τ' : Tr LV} {s s' : KS} {l : List (KS × SR1)} {ws : List Nat}, evRun X G N call ol cl k acc rem τ s = some (l, τ', s') → Sta B s ws → Sta B s' (wsAll B.c l ws) ∧ s.c ≤ s'.c ∧
    (∀ id, (∀ p ∈ l, ∀ i, (tchOf i p).dom id = false) → s'.L.get id = s.L.get id ∧ ovl B.M (wsAll B.c l ws) B.c s'.c s'.L id = ovl B.M ws B.c s.c s.L id) ∧ (∀ id, (∃ p ∈ l, ∃ i, (tchOf i p).dom id = true) → ovl B.M (wsAll B.c l ws) B.c s'.c s'.L id = s'.L.get id)
  | [], k, acc, τ, τ', s, s', l, ws, h, hS => by
    simp only [evRun, Option.some.injEq, Prod.mk.injEq] at h; obtain ⟨rfl, _, rfl⟩ := h
    exact ⟨hS, Nat.le_refl _, fun id _ => ⟨rfl, rfl⟩, fun id ⟨p, hp, _⟩ => by cases hp⟩
  | o :: rem, k, acc, τ, τ', s, s', l, ws, h, hS => by
    simp only [evRun] at h
    split at h
    · cases h
    · rename_i r hr
      split at h
      · cases h
      · rename_i τ1 hp
        split at h
        · cases h
        · rename_i l' τ2 s2 hrec
          cases h
          have inf : s.c ≤ r.s.c ∧ (∀ id, id ∉ r.ws → ¬ (s.c ≤ id ∧ id < r.s.c) → r.s.L.get id = s.L.get id) ∧ ∀ id ∈ r.ws, ∃ ob, s.L.get id = some ob := by
            rcases stepV_sound (hideC_ok hC _) hr with g | ⟨_, g⟩
            · exact ⟨g.cle, g.keep, fun id hid => (g.sub id hid).1⟩
            · subst g; exact ⟨Nat.le_refl _, fun _ _ _ => rfl, fun id hid => by cases hid⟩
          obtain ⟨st1, st2⟩ := hS.step (X := X) (G := G) (ol := ol) (o := o) (τ := τ) (r := r) inf
          obtain ⟨a, b, c, d⟩ := run_sta hC (ws := addW B.c r.s.c r.ws ws) hrec st1
          have dom0 : ∀ id i, (tchOf i (s, r)).dom id = false → id ∉ r.ws ∧ ¬ (s.c ≤ id ∧ id < r.s.c) := by
            intro id i hd
            exact (domE_not (S := fun _ => s) (R := fun _ => r) (i := i)).1 hd
          have dom1 : ∀ id i, (tchOf i (s, r)).dom id = true → id ∈ r.ws ∨ (s.c ≤ id ∧ id < r.s.c) := by
            intro id i hd
            exact (domE_iff (S := fun _ => s) (R := fun _ => r) (i := i)).1 hd
          refine ⟨a, Nat.le_trans inf.1 b, fun id hid => ?_, fun id hid => ?_⟩
          · obtain ⟨c1, c2⟩ := c id fun p hp i => hid p (.tail _ hp) i
            obtain ⟨d1, d2⟩ := dom0 id 0 (hid _ (.head _) 0)
            refine ⟨by rw [c1]; exact inf.2.1 id d1 d2, ?_⟩
            simp only [wsAll]
            rw [c2, ← st2]
            unfold ovl
            rw [if_neg (by rintro (h | h); exact d1 h; exact d2 h)]
          · simp only [wsAll]
            by_cases hl : ∃ p ∈ l', ∃ i, (tchOf i p).dom id = true
            · exact d id hl
            · have hn : ∀ p ∈ l', ∀ i, (tchOf i p).dom id = false := by
                intro p hp i
                cases hx : (tchOf i p).dom id with
                | false => rfl
                | true => exact absurd ⟨p, hp, i, hx⟩ hl
              obtain ⟨c1, c2⟩ := c id hn
              obtain ⟨p, hp, i, hd⟩ := hid
              rcases List.mem_cons.1 hp with rfl | hp
              · rw [c2, c1, ← st2]
                unfold ovl
                rw [if_pos (dom1 id i hd)]
              · rw [hn p hp i] at hd; cases hd
theorem R_regS {C : Cx} (hP : C.P = X.P) (hC : CallOk X G call) {B : Base} {id : Nat} {ops : Array Oper} {k : List Item} {τ τ' : Tr LV} {s s' : KS} {ws ws' : List Nat} (h : evSeq X G N call B.c ops.toList ops.toList τ s ws = some (τ', s', ws')) (hS : Sta B s ws) (hf : Fresh B.M B.e B.c s'.c)
    (hK : ∀ e I H σ, Cur X G N B τ' s' ws' e I H σ → R C k σ H) {e : Env} {I H : PH} {σ : St} (hU : Cur X G N B τ s ws e I H σ) : R C (.code (.region id ops false) :: k) σ H := by
  refine R_region ?_
  rw [hP]
  exact evSeq_sound hC h hS hf hK hU
theorem R_regD {C : Cx} (hP : C.P = X.P) (hm : C.P.follows .mixedOrders = true) (hC : CallOk X G call) {B : Base} {id : Nat} {ops : Array Oper} {k : List Item} {τ τ' : Tr LV} {s s' : KS} {ws : List Nat} {l : List (KS × SR1)} {cl : Nat → Nat → Bool} (h : evRun X G N call ops.toList cl 0 [] ops.toList τ s = some (l, τ', s'))
    (h1 : AncOk ops.toList cl) (h2 : okMem cl (acts 0 l) = true) (h3 : okTmp ops.toList cl = true) (hS : Sta B s ws) (hf : Fresh B.M B.e B.c s'.c)
    (hK : ∀ e I H σ, Cur X G N B τ' s' (wsAll B.c l ws) e I H σ → R C k σ H) {e : Env} {I H : PH} {σ : St} (hU : Cur X G N B τ s ws e I H σ) : R C (.code (.region id ops true) :: k) σ H := by
  obtain ⟨T, S, Rr, hd, t0, t1, t2, t3, t4, t5, t6, t7, _⟩ := evRun_fun h
  have kap : Kap X G N call ops.toList hd T S Rr := ⟨t6⟩
  obtain ⟨g1, g2, g3, g4⟩ := run_sta hC h hS
  have hsz : ops.toList.length = ops.size := Array.length_toList
  have hMall : ML ops.toList S Rr (ovl B.M ws B.c s.c s.L) (fun _ => true) = ovl B.M (wsAll B.c l ws) B.c s'.c s'.L := by
    funext j
    unfold ML
    rw [last_congr (q := domE S Rr j) fun i _ => by simp]
    have hm := kap.mem hC j (j := ops.toList.length) (Nat.le_refl _)
    rw [t3] at hm
    cases hl : last (domE S Rr j) ops.toList.length with
    | none =>
      rw [hl] at hm
      have hnone : ∀ p ∈ l, ∀ i, (tchOf i p).dom j = false := by
        intro p hp i
        obtain ⟨q, hq⟩ := List.mem_iff_getElem?.1 hp
        have hql : q < ops.toList.length := by
          rcases Nat.lt_or_ge q l.length with h | h
          · omega
          · rw [List.getElem?_eq_none h] at hq; cases hq
        rw [t5 q hql] at hq; cases hq
        cases hx : domE S Rr j q with
        | true =>
          exfalso
          have : ∀ n, q < n → last (domE S Rr j) n ≠ none := by
            intro n
            induction n with
            | zero => intro h; omega
            | succ n ih =>
              intro h
              simp only [last]
              split
              · simp
              · rename_i hn
                rcases Nat.lt_or_ge q n with h' | h'
                · exact ih h'
                · have : q = n := by omega
                  subst this; exact absurd hx hn
          exact this _ hql hl
        | false => exact hx
      exact (g3 j hnone).2.symm
    | some i =>
      rw [hl] at hm
      obtain ⟨a, b⟩ := last_some hl
      simp only
      rw [g4 j ⟨(S i, Rr i), List.mem_iff_getElem?.2 ⟨i, t5 i a⟩, i, b⟩, hm]
  refine R_of_wp fun a w st g => wpIn_region_any hm ?_
  rw [hP]
  have init : DI X G N ops.toList T S Rr B (ovl B.M ws B.c s.c s.L) (fun i => (Array.replicate ops.size false).getD i false) e I H σ := by
    have hz : (fun i => (Array.replicate ops.size false).getD i false) = fun _ => false := by
      funext i
      rw [Array.getD_eq_getD_getElem?, Array.getElem?_replicate]
      split <;> rfl
    rw [hz]
    have hnone : ∀ (p : Nat → Bool) n, last (fun i => false && p i) n = none := by
      intro p n
      induction n with
      | zero => rfl
      | succ n ih => simp only [last, Bool.false_and, Bool.false_eq_true, if_false]; simpa using ih
    refine ⟨hU.ge, hU.le, fun i hi _ j ha hb => ?_, fun j hj => ?_, ?_, hU.ile, hU.sr.bx, hU.sr.len, fun t v hv => ?_⟩
    · have m1 := kap.mono hC (i := 0) (j := i) (by omega) (by omega)
      have m2 := kap.mono hC (i := i + 1) (j := ops.toList.length) (by omega) (by omega)
      rw [t1] at m1; rw [t3] at m2
      exact (hS.fresh hU.out hf j (by omega) (by omega)).2
    · rw [t3] at hj
      exact hU.out j (by omega)
    · have : ML ops.toList S Rr (ovl B.M ws B.c s.c s.L) (fun _ => false) = ovl B.M ws B.c s.c s.L := by
        funext j; unfold ML; rw [hnone]
      rw [this]; exact hU.rel
    · unfold TL at hv; rw [hnone, t0] at hv; exact hU.sr.tm t v hv
  refine any_ke hC kap (B := B) (M := ovl B.M ws B.c s.c s.L) (by rw [t1]; exact hS.hasM) (by rw [t1]; exact hS.bd) (fun j ha hb => ?_) (by rw [t1]; exact hS.cle) h1 (fun i j hij hj hn => free_of t5 h2 h3 hij hj hn (t7 i j hij hj (by simpa using hn))) rfl (fun e I H σ hD => hK e I H σ ?_)
    ops.size (List.range ops.size) _ (by simp) (by simp) List.nodup_range (fun i => ?_) (fun y o ho hl => ?_) init (w := { w with drawn := w.drawn + 1 }) ?_ ?_
  · rw [t1] at ha; rw [t3] at hb
    exact (hS.fresh hU.out hf j ha hb).1
  · refine ⟨hD.ge, hD.le, by rw [← t3]; exact hD.out, by rw [← hMall]; exact hD.rel, hD.ile, ⟨hD.bx, hD.len, fun t v hv => hD.tm t v ?_⟩⟩
    rw [← t2, kap.tm t (Nat.le_refl _)] at hv
    unfold TL
    rw [last_congr (q := dstE ops.toList t) fun i _ => by simp]
    exact hv
  · constructor
    · intro hi
      have hi := List.mem_range.1 hi
      exact ⟨hi, by simp [Array.getD_eq_getD_getElem?, hi]⟩
    · rintro ⟨hi, _⟩; exact List.mem_range.2 hi
  · exfalso
    rw [Array.getD_eq_getD_getElem?, Array.getElem?_replicate] at hl
    split at hl <;> cases hl
  · exact ⟨st.sub, st.size, st.priv, st.dom, st.os, st.tape, st.out⟩
  · obtain ⟨β, g⟩ := g
    exact ⟨β, g.defers, g.size, g.tm, g.bx, g.inj, g.lo, g.keys⟩
end
end Go.Ke
end
section
namespace Go.Ke
open Go Go.Sx
 noncomputable def retLL (P : Program) (τ : Tr LV) (L : Tr LO) : List ResultVar → Option (List LV)
  | [] => some []
  | .tmp t :: l => match τ.get t, retLL P τ L l with
    | some x, some r => some (x :: r)
    | _, _ => none
  | .cell t T :: l => match τ.get t, retLL P τ L l with
    | some (.p id off), some r => match L.get id with
      | some (.cells c _ _) => match rdL P T c off with
        | some x => some (x :: r)
        | none => none
      | _ => none
    | _, _ => none
 noncomputable def retVL : List LV → LV
  | [v] => v
  | l => .tu l
 noncomputable def initTr : Nat → List LV → Tr LV → Option (Tr LV)
  | _, [], τ => some τ
  | i, x :: l, τ => match τ.put i x with | some τ' => initTr (i + 1) l τ' | none => none
abbrev RunF := Nat → Nat → List ResultVar → List Item → Tr LV → KS → List Nat → Option (LV × KS × List Nat)
 noncomputable def callW (X : Ctx) (hook : CallF) (run : RunF) : CallF := fun f args s =>
  match hook f args s with
  | some r => some r
  | none => match X.P.funcs[f]? with
    | some fn => match fn.body with
      | some body => if args.length ≤ fn.ntmps ∧ (fn.name == "runtime.NumGoroutine") = false then match initTr 0 args .lf with
        | some τ => run s.c fn.ntmps fn.results.toList [.code body] τ s []
        | none => none else none
      | none => none
    | none => none
 noncomputable def stepC (X : Ctx) (G : Nat) (call : CallF) (run : RunF) : RunF := fun c0 N res k τ s ws =>
  match k with
  | [] => match retLL X.P τ s.L res with | some r => some (retVL r, s, ws) | none => none
  | .code .ret :: _ => match retLL X.P τ s.L res with | some r => some (retVL r, s, ws) | none => none
  | .code .skip :: k => run c0 N res k τ s ws
  | .code (.label _) :: k => run c0 N res k τ s ws
  | .inBlock _ :: k => run c0 N res k τ s ws
  | .inScope _ :: k => run c0 N res k τ s ws
  | .code (.seq a b) :: k => run c0 N res (.code a :: .code b :: k) τ s ws
  | .code (.cond c x y) :: k => match evR τ G c with | some (.v (.bool b)) => run c0 N res (.code (if b then x else y) :: k) τ s ws | _ => none
  | .code (.block id b) :: k => run c0 N res (.code b :: .inBlock id :: k) τ s ws
  | .code (.scope b) :: k => run c0 N res (.code b :: .inScope b :: k) τ s ws
  | .code (.loop b) :: k => run c0 N res (.code b :: .inLoop b :: k) τ s ws
  | .inLoop b :: k => run c0 N res (.code b :: .inLoop b :: k) τ s ws
  | .code (.exit id) :: k => match exitTo id k with | some k' => run c0 N res k' τ s ws | none => none
  | .code (.region _ ops false) :: k => match evSeq X G N call c0 ops.toList ops.toList τ s ws with
    | some (τ', s', ws') => run c0 N res k τ' s' ws'
    | none => none
  | .code (.region _ ops true) :: k => match evRun X G N call ops.toList (ancM (masks 0 ops.toList .lf)) 0 [] ops.toList τ s with
    | some (l, τ', s') => if ltAll 0 ops.toList = true ∧ okMem (ancM (masks 0 ops.toList .lf)) (acts 0 l) = true ∧ okTmp ops.toList (ancM (masks 0 ops.toList .lf)) = true then run c0 N res k τ' s' (wsAll c0 l ws) else none
    | none => none
  | _ => none
 noncomputable def evSeqN (X : Ctx) (G N : Nat) (call : CallF) (c0 : Nat) (ol : List Oper) (l : List Oper) : Tr LV → KS → List Nat → Option (Tr LV × KS × List Nat) :=
  List.rec (motive := fun _ => Tr LV → KS → List Nat → Option (Tr LV × KS × List Nat)) (fun τ s ws => some (τ, s, ws))
    (fun o _ ih τ s ws => match stepV X G call ol o τ s with
      | none => none
      | some ⟨v, s1, _, w1, _⟩ => match putT τ N o.dst v with
        | none => none
        | some τ' => ih τ' s1 (addW c0 s1.c w1 ws)) l
theorem evSeqN_eq {X : Ctx} {G N : Nat} {call : CallF} {c0 : Nat} {ol : List Oper} : ∀ {l : List Oper} {τ : Tr LV} {s : KS} {ws : List Nat}, evSeqN X G N call c0 ol l τ s ws = evSeq X G N call c0 ol l τ s ws
  | [], _, _, _ => rfl
  | o :: l, τ, s, ws => by
    show (match stepV X G call ol o τ s with
      | none => none
      | some ⟨v, s1, _, w1, _⟩ => match putT τ N o.dst v with
        | none => none
        | some τ' => evSeqN X G N call c0 ol l τ' s1 (addW c0 s1.c w1 ws)) = _
    simp only [evSeq]
    cases stepV X G call ol o τ s with
    | none => rfl
    | some r =>
      obtain ⟨v, s1, fp, w1, cl⟩ := r
      simp only
      cases putT τ N o.dst v with
      | none => rfl
      | some τ' => exact evSeqN_eq
 noncomputable def evRunN (X : Ctx) (G N : Nat) (call : CallF) (ol : List Oper) (cl : Nat → Nat → Bool) (i : Nat) (acc : List (Nat × KS × SR1)) (l : List Oper) : Tr LV → KS → Option (List (KS × SR1) × Tr LV × KS) := fun τ s =>
  List.rec (motive := fun _ => Nat → List (Nat × KS × SR1) → Tr LV → KS → Option (List (KS × SR1) × Tr LV × KS)) (fun _ _ τ s => some ([], τ, s))
    (fun o _ ih i acc τ s => match stepV X G (hideC (hdOf (cl i) acc) call) ol o τ s with
      | none => none
      | some ⟨v, s1, fp, w1, b⟩ => match putT τ N o.dst v with
        | none => none
        | some τ1 => match ih (i + 1) ((i, s, (⟨v, s1, fp, w1, b⟩ : SR1)) :: acc) τ1 s1 with
          | none => none
          | some (l, τ2, s2) => some ((s, (⟨v, s1, fp, w1, b⟩ : SR1)) :: l, τ2, s2)) l i acc τ s
theorem evRunN_eq {X : Ctx} {G N : Nat} {call : CallF} {ol : List Oper} {cl : Nat → Nat → Bool} : ∀ {l : List Oper} {i : Nat} {acc : List (Nat × KS × SR1)} {τ : Tr LV} {s : KS}, evRunN X G N call ol cl i acc l τ s = evRun X G N call ol cl i acc l τ s
  | [], _, _, _, _ => rfl
  | o :: l, i, acc, τ, s => by
    show (match stepV X G (hideC (hdOf (cl i) acc) call) ol o τ s with
      | none => none
      | some ⟨v, s1, fp, w1, b⟩ => match putT τ N o.dst v with
        | none => none
        | some τ1 => match evRunN X G N call ol cl (i + 1) ((i, s, (⟨v, s1, fp, w1, b⟩ : SR1)) :: acc) l τ1 s1 with
          | none => none
          | some (l, τ2, s2) => some ((s, (⟨v, s1, fp, w1, b⟩ : SR1)) :: l, τ2, s2)) = _
    simp only [evRun]
    cases stepV X G (hideC (hdOf (cl i) acc) call) ol o τ s with
    | none => rfl
    | some r =>
      obtain ⟨v, s1, fp, w1, b⟩ := r
      simp only
      cases putT τ N o.dst v with
      | none => rfl
      | some τ1 => simp only [evRunN_eq]; rfl
 noncomputable def stepN (X : Ctx) (G : Nat) (call : CallF) (run : RunF) : RunF := fun c0 N res k τ s ws =>
  match k with
  | [] => match retLL X.P τ s.L res with | some r => some (retVL r, s, ws) | none => none
  | .code .ret :: _ => match retLL X.P τ s.L res with | some r => some (retVL r, s, ws) | none => none
  | .code .skip :: k => run c0 N res k τ s ws
  | .code (.label _) :: k => run c0 N res k τ s ws
  | .inBlock _ :: k => run c0 N res k τ s ws
  | .inScope _ :: k => run c0 N res k τ s ws
  | .code (.seq a b) :: k => run c0 N res (.code a :: .code b :: k) τ s ws
  | .code (.cond c x y) :: k => match evR τ G c with | some (.v (.bool b)) => run c0 N res (.code (if b then x else y) :: k) τ s ws | _ => none
  | .code (.block id b) :: k => run c0 N res (.code b :: .inBlock id :: k) τ s ws
  | .code (.scope b) :: k => run c0 N res (.code b :: .inScope b :: k) τ s ws
  | .code (.loop b) :: k => run c0 N res (.code b :: .inLoop b :: k) τ s ws
  | .inLoop b :: k => run c0 N res (.code b :: .inLoop b :: k) τ s ws
  | .code (.exit id) :: k => match exitTo id k with | some k' => run c0 N res k' τ s ws | none => none
  | .code (.region _ ops false) :: k => match evSeqN X G N call c0 ops.toList ops.toList τ s ws with
    | some (τ', s', ws') => run c0 N res k τ' s' ws'
    | none => none
  | .code (.region _ ops true) :: k => match evRunN X G N call ops.toList (ancM (masks 0 ops.toList .lf)) 0 [] ops.toList τ s with
    | some (l, τ', s') => if ltAll 0 ops.toList = true ∧ okMem (ancM (masks 0 ops.toList .lf)) (acts 0 l) = true ∧ okTmp ops.toList (ancM (masks 0 ops.toList .lf)) = true then run c0 N res k τ' s' (wsAll c0 l ws) else none
    | none => none
  | _ => none
theorem stepN_eq {X : Ctx} {G : Nat} {call : CallF} {run : RunF} : stepN X G call run = stepC X G call run := by
  funext c0 N res k τ s ws
  unfold stepN stepC
  simp only [evSeqN_eq, evRunN_eq]
 noncomputable def runC (X : Ctx) (G : Nat) (hook : CallF) (n : Nat) : RunF :=
  Nat.rec (motive := fun _ => RunF) (fun _ _ _ _ _ _ _ => none) (fun _ ih => stepN X G (callW X hook ih) ih) n
structure RunOk (X : Ctx) (G : Nat) (run : RunF) : Prop where
  cle : ∀ {c0 N res k τ s ws v s' ws'}, run c0 N res k τ s ws = some (v, s', ws') → s.c ≤ s'.c
  staW : ∀ {c0 N res k τ s ws v s' ws'}, run c0 N res k τ s ws = some (v, s', ws') → ∀ {L : Tr LO}, StaW L c0 s ws → StaW L c0 s' ws' ∧ s.c ≤ s'.c
  sta : ∀ {c0 N res k τ s ws v s' ws'}, run c0 N res k τ s ws = some (v, s', ws') → ∀ {B : Base}, B.c = c0 → Sta B s ws → Sta B s' ws'
  does : ∀ {c0 N res k τ s ws v s' ws'}, run c0 N res k τ s ws = some (v, s', ws') → ∀ {B : Base}, B.c = c0 → Sta B s ws → Fresh B.M B.e B.c s'.c → ∀ {C : Cx}, C.P = X.P → C.P.follows .mixedOrders = true → C.fn.results.toList = res →
    C.post = (fun y H2 => ∃ e2 I2, B.e.le e2 ∧ (∀ id, ¬ (B.c ≤ id ∧ id < s'.c) → e2 id = B.e id) ∧ VR e2 v y ∧ Rel X e2 (ovl B.M ws' B.c s'.c s'.L) I2 H2 ∧ B.I.le I2) → C.rd = none → ∀ {e I H σ}, Cur X G N B τ s ws e I H σ → R C k σ H
theorem run_staW {X : Ctx} {G N : Nat} {call : CallF} (hC : CallOk X G call) {L : Tr LO} {c : Nat} {ol : List Oper} {cl : Nat → Nat → Bool} : ∀ {rem : List Oper} {k : Nat} {acc : List (Nat × KS × SR1)} {τ τ' : Tr LV} {s s' : KS} {l : List (KS × SR1)} {ws : List Nat}, evRun X G N call ol cl k acc rem τ s = some (l, τ', s') → StaW L c s ws → StaW L c s' (wsAll c l ws) ∧ s.c ≤ s'.c
  | [], k, acc, τ, τ', s, s', l, ws, h, hS => by simp only [evRun, Option.some.injEq, Prod.mk.injEq] at h; obtain ⟨rfl, _, rfl⟩ := h; exact ⟨hS, Nat.le_refl _⟩
  | o :: rem, k, acc, τ, τ', s, s', l, ws, h, hS => by
    simp only [evRun] at h
    split at h
    · cases h
    · rename_i r hr
      split at h
      · cases h
      · split at h
        · cases h
        · rename_i l' τ2 s2 hrec
          cases h
          have inf := stepV_inf (hideC_ok hC _) hr
          obtain ⟨a, b⟩ := run_staW hC hrec (hS.step inf)
          exact ⟨a, Nat.le_trans inf.1 b⟩
theorem evSeq_cle {X : Ctx} {G N : Nat} {call : CallF} (hC : CallOk X G call) {c : Nat} {ol : List Oper} : ∀ {rem : List Oper} {τ τ' : Tr LV} {s s' : KS} {ws ws' : List Nat}, evSeq X G N call c ol rem τ s ws = some (τ', s', ws') → s.c ≤ s'.c
  | [], τ, τ', s, s', ws, ws', h => by simp only [evSeq, Option.some.injEq, Prod.mk.injEq] at h; obtain ⟨_, rfl, rfl⟩ := h; exact Nat.le_refl _
  | o :: rem, τ, τ', s, s', ws, ws', h => by
    simp only [evSeq] at h
    split at h
    · cases h
    · rename_i r hr
      split at h
      · cases h
      · exact Nat.le_trans (stepV_inf hC hr).1 (evSeq_cle hC h)
theorem evRun_cle {X : Ctx} {G N : Nat} {call : CallF} (hC : CallOk X G call) {ol : List Oper} {cl : Nat → Nat → Bool} : ∀ {rem : List Oper} {k : Nat} {acc : List (Nat × KS × SR1)} {τ τ' : Tr LV} {s s' : KS} {l : List (KS × SR1)}, evRun X G N call ol cl k acc rem τ s = some (l, τ', s') → s.c ≤ s'.c
  | [], k, acc, τ, τ', s, s', l, h => by simp only [evRun, Option.some.injEq, Prod.mk.injEq] at h; obtain ⟨_, _, rfl⟩ := h; exact Nat.le_refl _
  | o :: rem, k, acc, τ, τ', s, s', l, h => by
    simp only [evRun] at h
    split at h
    · cases h
    · rename_i r hr
      split at h
      · cases h
      · split at h
        · cases h
        · rename_i l' τ2 s2 hrec
          cases h
          exact Nat.le_trans (stepV_inf (hideC_ok hC _) hr).1 (evRun_cle hC hrec)
theorem stepR_scope {P : Program} {b : Frame} {a : Act} {k : List Item} {cs : List Frame} {w : World} {c : Code} : step P (lone (b.atR a (.code (.scope c) :: k)) cs w) = .next (lone (b.atR a (.code c :: .inScope c :: k)) cs w) := step_lone_go (by simp [stepG, stepG.exec, Frame.atR])
theorem stepR_inScope {P : Program} {b : Frame} {a : Act} {k : List Item} {cs : List Frame} {w : World} {c : Code} : step P (lone (b.atR a (.inScope c :: k)) cs w) = .next (lone (b.atR a k) cs w) := step_lone_go (by simp [stepG, stepG.exec, Frame.atR])
theorem R_scope {C : Cx} {k : List Item} {σ : St} {H : PH} {c : Code} (h : R C (.code c :: .inScope c :: k) σ H) : R C (.code (.scope c) :: k) σ H := R_step h fun _ _ _ _ => stepR_scope
theorem R_inScope {C : Cx} {k : List Item} {σ : St} {H : PH} {c : Code} (h : R C k σ H) : R C (.inScope c :: k) σ H := R_step h fun _ _ _ _ => stepR_inScope
theorem retLL_sound {X : Ctx} {G N : Nat} {B : Base} {τ : Tr LV} {s : KS} {ws : List Nat} {e : Env} {I H : PH} {σ : St} (hU : Cur X G N B τ s ws e I H σ) (hS : Sta B s ws) {n0 : Nat} {a : Act} {w : World} (g : Sx.G n0 σ H a w) (hw : Sub H w) : ∀ (l : List ResultVar) {r : List LV}, retLL X.P τ s.L l = some r →
    ∃ r', VRs e r r' ∧ (l.mapM (rdR a.tmps)).run X.P w = .ok r' w
  | [], r, h => by simp only [retLL, Option.some.injEq] at h; subst h; exact ⟨[], by simp [VRs], by simp⟩
  | .tmp t :: l, r, h => by
    simp only [retLL] at h
    split at h
    · rename_i x r0 hx hr
      cases h
      obtain ⟨r', h1, h2⟩ := retLL_sound hU hS g hw l hr
      obtain ⟨y, h3, h4⟩ := hU.sr.tm t x hx
      obtain ⟨β, g⟩ := g
      have h5 := eval_v g (x := .tmp t) (v := y) (by simp only [ev]; exact h3)
      refine ⟨y :: r', by simp only [VRs]; exact ⟨y, r', rfl, h4, h1⟩, ?_⟩
      have h6 : (rdR a.tmps (.tmp t)).run X.P w = .ok y w := by simp only [Act.eval] at h5; simp only [rdR, h5]; simp
      simp only [List.mapM_cons, Sem.run_bind, h6, Result.andThen, h2]
      simp
    · cases h
  | .cell t T :: l, r, h => by
    simp only [retLL] at h
    split at h
    · rename_i id off r0 hx hr
      split at h
      · rename_i c ty gr hg
        split at h
        · rename_i x hrd
          cases h
          obtain ⟨r', h1, h2⟩ := retLL_sound hU hS g hw l hr
          obtain ⟨y, h3, h4⟩ := hU.sr.tm t _ hx
          simp only [VR] at h4; obtain ⟨b, x', h7, rfl⟩ := h4
          obtain ⟨b2, x2, cs, post, e1, e2, e3, e4, _⟩ := hU.rel.ob id _ (hS.hasM id _ hg)
          rw [h7] at e1; cases e1
          obtain ⟨z, g1, g2⟩ := rdL_VR e4 hrd
          have hcells : rdCells X.P T (cs ++ post) off = some z := by
            unfold rdCells at g1 ⊢
            split at g1
            · split at g1
              · cases g1
                rw [if_pos (by simp; omega), List.drop_append_of_le_length (by omega), List.take_append_of_le_length (by simp; omega)]
              · cases g1
            · have : off < cs.length := by
                rcases Nat.lt_or_ge off cs.length with h | h
                · exact h
                · rw [List.getElem?_eq_none h] at g1; cases g1
              rw [List.getElem?_append_left this]; exact g1
            · cases g1
          obtain ⟨β, g⟩ := g
          have h5 := eval_v g (x := .tmp t) (by simp only [ev]; exact h3)
          have hload := run_loadVar (P := X.P) (w := w) (off := off) (b := b) (cs := cs ++ post) (hw _ _ e3) hcells
          refine ⟨z :: r', by simp only [VRs]; exact ⟨z, r', rfl, g2, h1⟩, ?_⟩
          have h6 : (rdR a.tmps (.cell t T)).run X.P w = .ok z w := by simp only [Act.eval] at h5; simp only [rdR, h5, Sem.run_bind]; simp [Result.andThen, asAddr, hload]
          simp only [List.mapM_cons, Sem.run_bind, h6, Result.andThen, h2]
          simp
        · cases h
      · cases h
    · cases h
theorem results_ke {P : Program} {w : World} {a : Act} {fn : Func} {r : List Value} (h1 : (fn.results.toList.mapM (rdR a.tmps)).run P w = .ok r w) : (results fn a.tmps).run P w = .ok (retV r) w := by
  show (do let vs ← fn.results.mapM (rdR a.tmps); pure (if h : vs.size = 1 then vs[0] else .tuple vs) : Sem Value).run P w = _
  rw [Array.mapM_eq_mapM_toList]
  simp only [Sem.run_bind, Sem.run_map]
  rw [h1]
  simp only [Result.andThen]
  match r with
  | [] => simp [retV]
  | [v] => simp [retV]
  | a :: b :: l => simp [retV]
theorem retVL_VR {e : Env} {r : List LV} {r' : List Value} (h : VRs e r r') : VR e (retVL r) (retV r') := by
  match r, r', h with
  | [], r', h => simp only [VRs] at h; subst h; simp only [retVL, retV, VR]; exact ⟨[], rfl, by simp [VRs]⟩
  | [v], r', h =>
    simp only [VRs] at h; obtain ⟨y, ys, rfl, h1, rfl⟩ := h
    simpa only [retVL, retV] using h1
  | a :: b :: l, r', h =>
    have h0 := h
    simp only [VRs] at h; obtain ⟨y, ys, rfl, h1, z, zs, rfl, h2, h3⟩ := h
    simp only [retVL, retV, VR]; exact ⟨_, rfl, h0⟩
end Go.Ke
end
section
namespace Go.Ke
open Go Go.Sx
theorem initTr_get : ∀ {args : List LV} {i : Nat} {τ τ' : Tr LV}, initTr i args τ = some τ' → ∀ t, τ'.get t = if i ≤ t ∧ t < i + args.length then args[t - i]? else τ.get t
  | [], i, τ, τ', h, t => by
    simp only [initTr, Option.some.injEq] at h; subst h
    rw [if_neg (by simp <;> omega)]
  | x :: l, i, τ, τ', h, t => by
    simp only [initTr] at h
    split at h
    · rename_i τ1 h1
      rw [initTr_get h t, Tr.get_put h1]
      simp only [List.length_cons]
      by_cases e : t = i
      · subst e
        rw [if_neg (by omega), if_pos rfl, if_pos (by omega)]; simp
      · by_cases e2 : i + 1 ≤ t ∧ t < i + 1 + l.length
        · rw [if_pos e2, if_pos (by omega)]
          have : t - i = (t - (i + 1)) + 1 := by omega
          rw [this]; simp
        · rw [if_neg e2, if_neg e, if_neg (by omega)]
    · cases h
theorem callW_ok {X : Ctx} {G : Nat} {hook : CallF} (hH : CallOk X G hook) {run : RunF} (hR : RunOk X G run) (hmix : X.P.follows .mixedOrders = true) : CallOk X G (callW X hook run) := by
  have inv : ∀ {f : FuncId} {args : List LV} {s : KS} {r : LV × KS × List Nat}, callW X hook run f args s = some r → hook f args s = some r ∨
      ∃ fn body τ, X.P.funcs[f]? = some fn ∧ fn.body = some body ∧ args.length ≤ fn.ntmps ∧ (fn.name == "runtime.NumGoroutine") = false ∧ initTr 0 args .lf = some τ ∧ run s.c fn.ntmps fn.results.toList [.code body] τ s [] = some r := by
    intro f args s r h
    unfold callW at h
    split at h
    · rename_i r' h1; cases h; exact .inl h1
    · split at h
      · rename_i fn h1
        split at h
        · rename_i body h2
          split at h
          · rename_i h3
            split at h
            · rename_i τ h4; exact .inr ⟨fn, body, τ, h1, h2, h3.1, h3.2, h4, h⟩
            · cases h
          · cases h
        · cases h
      · cases h
  have w0 : ∀ (s : KS), StaW s.L s.c s [] := fun s => ⟨Nat.le_refl _, fun _ _ _ => rfl, fun id hid => by cases hid⟩
  refine ⟨fun {f args s r} h => ?_, fun {f args s v s' ws} h => ?_, fun {f args s v s' ws} h => ?_, fun {f args s v s' ws} h => ?_, fun {f args s v s' ws} h {M e I H args'} hhas hbd hfr hG hRel hargs => ?_⟩
  · rcases inv h with h | ⟨fn, body, τ, h1, h2, h3, h4, _⟩
    · exact hH.goes h
    · exact ⟨fn, h1, by rw [h2]; rfl, h4⟩
  · rcases inv h with h | ⟨fn, body, τ, h1, h2, h3, h4, h5, h6⟩
    · exact hH.cle h
    · exact (hR.staW h6 (w0 s)).2
  · rcases inv h with h | ⟨fn, body, τ, h1, h2, h3, h4, h5, h6⟩
    · exact hH.keep h
    · exact (hR.staW h6 (w0 s)).1.keep
  · rcases inv h with h | ⟨fn, body, τ, h1, h2, h3, h4, h5, h6⟩
    · exact hH.sub h
    · exact (hR.staW h6 (w0 s)).1.sub
  · rcases inv h with h | ⟨fn, body, τ, h1, h2, h3, h4, h5, h6⟩
    · exact hH.does h hhas hbd hfr hG hRel hargs
    · refine Does_of h1 h2 (by rw [List.toList_toArray, hargs.length]; exact h3) fun w0 => ?_
      have hSta : Sta ⟨M, e, I, s.L, s.c⟩ s [] := ⟨Nat.le_refl _, hbd, fun _ _ _ => rfl, fun id hid => (by cases hid), hhas.nil⟩
      refine hR.does (B := ⟨M, e, I, s.L, s.c⟩) h6 rfl hSta hfr (C := ⟨X.P, f, fn, h1, H, w0, _, none⟩) rfl hmix rfl rfl rfl (e := e) (I := I) ?_
      refine ⟨hG, Env.le_refl e, fun _ _ => rfl, by simp only [ovl_nil]; exact hRel, PH.le_refl I, ⟨rfl, ?_, fun t v hv => ?_⟩⟩
      · have := hargs.length
        simp [initT]; omega
      · rw [initTr_get h5] at hv
        split at hv
        · rename_i ht
          simp only [Nat.sub_zero] at hv
          obtain ⟨y, g1, g2⟩ := hargs.get hv
          refine ⟨y, ?_, g2⟩
          have hlt : t < args'.length := by
            rcases Nat.lt_or_ge t args'.length with h | h
            · exact h
            · rw [List.getElem?_eq_none h] at g1; cases g1
          rw [getT_getElem?]
          simp only [initT, List.toList_toArray]
          rw [List.getElem?_append_left (by simpa using hlt)]
          simp [g1]
        · cases hv
theorem stepC_ok {X : Ctx} {G : Nat} {call : CallF} (hC : CallOk X G call) {run : RunF} (hR : RunOk X G run) : RunOk X G (stepC X G call run) := by
  refine ⟨fun {c0 N res k τ s ws v s' ws'} h => ?_, fun {c0 N res k τ s ws v s' ws'} h {L} hS => ?_, fun {c0 N res k τ s ws v s' ws'} h {B} hB hS => ?_, fun {c0 N res k τ s ws v s' ws'} h {B} hB hS hf {C} hP hm hres hpost hrd {e I H σ} hU => ?_⟩
  · unfold stepC at h
    split at h
    · split at h
      · cases h; exact Nat.le_refl _
      · cases h
    · split at h
      · cases h; exact Nat.le_refl _
      · cases h
    · exact hR.cle h
    · exact hR.cle h
    · exact hR.cle h
    · exact hR.cle h
    · exact hR.cle h
    · split at h
      · exact hR.cle h
      · cases h
    · exact hR.cle h
    · exact hR.cle h
    · exact hR.cle h
    · exact hR.cle h
    · split at h
      · exact hR.cle h
      · cases h
    · split at h
      · rename_i hev
        exact Nat.le_trans (evSeq_cle hC hev) (hR.cle h)
      · cases h
    · split at h
      · rename_i hev
        split at h
        · exact Nat.le_trans (evRun_cle hC hev) (hR.cle h)
        · cases h
      · cases h
    · cases h
  · unfold stepC at h
    split at h
    · split at h
      · cases h; exact ⟨hS, Nat.le_refl _⟩
      · cases h
    · split at h
      · cases h; exact ⟨hS, Nat.le_refl _⟩
      · cases h
    · exact hR.staW h hS
    · exact hR.staW h hS
    · exact hR.staW h hS
    · exact hR.staW h hS
    · exact hR.staW h hS
    · split at h
      · exact hR.staW h hS
      · cases h
    · exact hR.staW h hS
    · exact hR.staW h hS
    · exact hR.staW h hS
    · exact hR.staW h hS
    · split at h
      · exact hR.staW h hS
      · cases h
    · split at h
      · rename_i hev
        exact ⟨(hR.staW h (evSeq_staW hC hev hS).1).1, Nat.le_trans (evSeq_cle hC hev) (hR.cle h)⟩
      · cases h
    · split at h
      · rename_i hev
        split at h
        · exact ⟨(hR.staW h (run_staW hC hev hS).1).1, Nat.le_trans (evRun_cle hC hev) (hR.cle h)⟩
        · cases h
      · cases h
    · cases h
  · subst hB
    unfold stepC at h
    split at h
    · split at h
      · cases h; exact hS
      · cases h
    · split at h
      · cases h; exact hS
      · cases h
    · exact hR.sta h rfl hS
    · exact hR.sta h rfl hS
    · exact hR.sta h rfl hS
    · exact hR.sta h rfl hS
    · exact hR.sta h rfl hS
    · split at h
      · exact hR.sta h rfl hS
      · cases h
    · exact hR.sta h rfl hS
    · exact hR.sta h rfl hS
    · exact hR.sta h rfl hS
    · exact hR.sta h rfl hS
    · split at h
      · exact hR.sta h rfl hS
      · cases h
    · split at h
      · rename_i hev
        exact hR.sta h rfl (evSeq_sta hC hev hS).1
      · cases h
    · split at h
      · rename_i hev
        split at h
        · exact hR.sta h rfl (run_sta hC hev hS).1
        · cases h
      · cases h
    · cases h
  · subst hB
    have ret : ∀ {k : List Item} {r : List LV}, retLL X.P τ s.L res = some r → (retVL r, s, ws) = (v, s', ws') → ∀ (w : World) (a : Act), Step C.H0 C.w0 H w → Sx.G C.w0.heap.size σ H a w → ∃ y, C.post y H ∧ (results C.fn a.tmps).run C.P w = .ok y w := by
      intro k r hr heq w a st g
      cases heq
      rw [← hres] at hr
      obtain ⟨r', h1, h2⟩ := retLL_sound hU hS g st.sub _ hr
      refine ⟨retV r', ?_, by rw [hP]; exact results_ke h2⟩
      rw [hpost]
      exact ⟨e, I, hU.le, hU.out, retVL_VR h1, hU.rel, hU.ile⟩
    have nx : ∀ {k' : List Item}, run B.c N res k' τ s ws = some (v, s', ws') → R C k' σ H := fun h' => hR.does h' rfl hS hf hP hm hres hpost hrd hU
    unfold stepC at h
    split at h
    · split at h
      · rename_i r hr
        exact R_out hrd (fun a cs w => stepR_end (by simp [Cx.fr, hrd])) (ret (k := []) hr (Option.some.inj h))
      · cases h
    · rename_i k
      split at h
      · rename_i r hr
        exact R_out hrd (fun a cs w => stepR_ret (by simp [Cx.fr, hrd])) (ret (k := []) hr (Option.some.inj h))
      · cases h
    · exact R_skip (nx h)
    · exact R_label (nx h)
    · exact R_inBlock (nx h)
    · exact R_inScope (nx h)
    · exact R_seq (nx h)
    · split at h
      · rename_i c x y k b hb
        obtain ⟨z, h1, h2⟩ := hU.sr.or hU.ge _ _ hb
        simp only [VR] at h2; subst h2
        exact R_cond h1 (nx h)
      · cases h
    · exact R_block (nx h)
    · exact R_scope (nx h)
    · exact R_loop1 (nx h)
    · exact R_inLoop (nx h)
    · split at h
      · rename_i k' he; exact R_exit he (nx h)
      · cases h
    · split at h
      · rename_i τ1 s1 ws1 hev
        have g1 := evSeq_sta hC hev hS
        have g2 := hR.cle h
        exact R_regS hP hC hev hS (fun id a b => hf id a (by omega)) (fun e I H σ hU' => hR.does h rfl g1.1 hf hP hm hres hpost hrd hU') hU
      · cases h
    · split at h
      · rename_i l τ1 s1 hev
        split at h
        · rename_i hc
          have g1 := run_sta hC hev hS
          have g2 := hR.cle h
          exact R_regD hP hm hC hev (ancM_ok hc.1) hc.2.1 hc.2.2 hS (fun id a b => hf id a (by omega)) (fun e I H σ hU' => hR.does h rfl g1.1 hf hP hm hres hpost hrd hU') hU
        · cases h
      · cases h
    · cases h
theorem runC_ok {X : Ctx} {G : Nat} {hook : CallF} (hH : CallOk X G hook) (hmix : X.P.follows .mixedOrders = true) : ∀ (n : Nat), RunOk X G (runC X G hook n)
  | 0 => ⟨fun {c0 N res k τ s ws v s' ws'} h => (by cases h), fun {c0 N res k τ s ws v s' ws'} h => (by cases h), fun {c0 N res k τ s ws v s' ws'} h => (by cases h), fun {c0 N res k τ s ws v s' ws'} h => (by cases h)⟩
  | n + 1 => by
    show RunOk X G (stepN X G (callW X hook (runC X G hook n)) (runC X G hook n))
    rw [stepN_eq]
    exact stepC_ok (callW_ok hH (runC_ok hH hmix n) hmix) (runC_ok hH hmix n)
end Go.Ke
end
