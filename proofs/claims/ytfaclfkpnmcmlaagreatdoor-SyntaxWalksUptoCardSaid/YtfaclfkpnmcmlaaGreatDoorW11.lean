import Derived.Test.YtfaclfkpnmcmlaaGreatDoorW02
import Derived.Test.YtfaclfkpnmcmlaaGreatDoorW05
import Derived.Test.YtfaclfkpnmcmlaaGreatDoorW06
import Derived.Test.YtfaclfkpnmcmlaaGreatDoorW08
import Derived.Test.YtfaclfkpnmcmlaaGreatDoorW09
import Derived.Test.YtfaclfkpnmcmlaaGreatDoorW10
import Derived.RangeFuncSeq
import Derived.Laws.MakeOwn
set_option maxHeartbeats 20000000
set_option linter.all false
section
namespace Go.Sx
open Go
def Yld (P : Program) (l : Nat) (args : Array Value) (H : PH) (Φ : Value → PH → Prop) : Prop :=
  ∀ w, Sub H w → YieldAt Fence.wide 0 P l args w fun e w2 => match e with
    | .returned v => ∃ H2, Step H w H2 w2 ∧ Φ v H2
    | _ => False
theorem Yld.imp {P : Program} {l : Nat} {args : Array Value} {H : PH} {Φ Ψ : Value → PH → Prop} (h : Yld P l args H Φ) (k : ∀ v H2, Φ v H2 → Ψ v H2) : Yld P l args H Ψ := fun w s => by
  obtain ⟨fn, tm, a, b, h1, h2⟩ := h w s
  refine ⟨fn, tm, a, b, h1, h2.mono fun e w2 he => ?_⟩
  cases e with
  | returned v => obtain ⟨H2, x, y⟩ := he; exact ⟨H2, x, k _ _ y⟩
  | panicked c => exact he
  | outgrown => exact he
theorem Yld.frame {P : Program} {l : Nat} {args : Array Value} {A F : PH} {Φ : Value → PH → Prop} (hd : A.disj F) (h : Yld P l args A Φ) : Yld P l args (A.uni F) fun v H2 => ∃ A2, H2 = A2.uni F ∧ A2.disj F ∧ Φ v A2 := fun w s => by
  obtain ⟨fn, tm, a, b, h1, h2⟩ := h w (s.of_le (PH.le_uni A F))
  refine ⟨fn, tm, a, b, h1, h2.mono fun e w2 he => ?_⟩
  cases e with
  | outgrown => exact he
  | panicked c => exact he
  | returned v =>
    obtain ⟨A2, st, hp⟩ := he
    have inF : ∀ b o, F b = some o → w.heap[b]? = some o ∧ A b = none := fun b o hb => ⟨s _ _ ((PH.uni_some hd).2 (.inr hb)), hd.symm.left hb⟩
    have hd2 : A2.disj F := fun b => by
      cases hF : F b with
      | none => exact .inr rfl
      | some o => obtain ⟨h1, h2⟩ := inF b o hF; exact .inl (st.dom b (lt_size_of h1) h2)
    refine ⟨A2.uni F, ⟨fun b o hb => ?_, st.size, fun b hb hn => st.priv b hb (PH.uni_none.1 hn).1, fun b hb hn => PH.uni_none.2 ⟨st.dom b hb (PH.uni_none.1 hn).1, (PH.uni_none.1 hn).2⟩, st.os, st.tape, st.out⟩, A2, rfl, hd2, hp⟩
    rcases (PH.uni_some hd2).1 hb with e | e
    · exact st.sub _ _ e
    · obtain ⟨h1, h2⟩ := inF b o e
      rw [st.priv b (lt_size_of h1) h2]; exact h1
def YldI (P : Program) (l : Nat) (args : Array Value) (I : PH) (ps : List PH) (Ψ : Value → PH → List PH → Prop) : Prop :=
  Dj (I :: ps) → Yld P l args (U (I :: ps)) fun v H2 => ∃ I2 qs, H2 = U (I2 :: qs) ∧ Dj (I2 :: qs) ∧ I.le I2 ∧ Ψ v I2 qs
theorem YldI.frame {P : Program} {l : Nat} {args : Array Value} {I : PH} {ps F : List PH} {Ψ : Value → PH → List PH → Prop} (h : YldI P l args I ps Ψ) (hd : Dj (I :: ps ++ F)) :
    Yld P l args (U (I :: ps ++ F)) fun v H2 => ∃ I2 qs, H2 = U (I2 :: qs ++ F) ∧ Dj (I2 :: qs ++ F) ∧ I.le I2 ∧ Ψ v I2 qs := by
  obtain ⟨d1, d2, d3⟩ := Dj_app.1 hd
  rw [U_app]
  refine ((h d1).frame d3).imp fun v H2 ⟨A2, e, dd, I2, qs, a, b, c, d⟩ => ?_
  subst a
  exact ⟨I2, qs, by rw [e, U_app], Dj_app.2 ⟨b, d2, dd⟩, c, d⟩
theorem spec_yield {P : Program} {σ : St} {H : PH} {o : Oper} {x : Operand} {aq : Array Operand} {ts : Array TypeId} {l : Nat} {vs : List Value} {Φ : Value → PH → Prop} (hop : o.op = .call ⟨.value x, aq, ts⟩)
    (hx : ev σ x = .v (.func (.yield l) #[] #[])) (ha : allV (ev σ) aq.toList = some vs) (h : Yld P l vs.toArray H Φ) :
    knownS σ o.op = true ∧ OpSpec P (execOp (cenv σ) o) H fun sv H2 => ∃ v, sv = .v v ∧ Φ v H2 := by
  have hall : ∀ (l : List Operand) (r : List Value), allV (ev σ) l = some r → l.map (cenv σ) = r ∧ ∀ y ∈ l, isV (ev σ y) = true := by
    intro l
    induction l with
    | nil => intro r h; cases h; exact ⟨rfl, fun y hy => (List.not_mem_nil hy).elim⟩
    | cons y l ih =>
      intro r h
      simp only [allV] at h
      split at h
      · rename_i v r' hv hr
        cases h
        obtain ⟨h1, h2⟩ := ih _ hr
        refine ⟨by simp [cenv, hv, h1], fun z hz => ?_⟩
        rcases List.mem_cons.1 hz with rfl | hz
        · rw [hv]; rfl
        · exact h2 z hz
      · cases h
  obtain ⟨h1, h2⟩ := hall _ _ ha
  constructor
  · simp only [knownS, hop, noSel, Op.operands, Call.operands, Bool.true_and, List.all_eq_true]
    intro y hy
    simp at hy
    rcases hy with rfl | hy
    · rw [hx]; rfl
    · exact h2 y (by simpa using hy)
  · intro w hw
    have hargs : aq.map (cenv σ) = vs.toArray := by rw [← Array.toList_inj]; simpa using h1
    have hcx : cenv σ x = .func (.yield l) #[] #[] := by simp [cenv, hx]
    obtain ⟨fn, tmps, assign, body, hy, hR⟩ := h w hw
    have hrun : (execOp (cenv σ) o).run P w = .ok (.round l fn tmps assign body) w := by
      simp only [execOp, hop, resolve, hargs, hcx, Deferred.ofValue, Sem.run_bind]
      simp [Result.andThen, invoke, hy]
    rw [hrun]
    exact hR.mono fun e w2 he => by
      cases e with
      | returned v => obtain ⟨H2, a, b⟩ := he; exact ⟨H2, a, v, rfl, b⟩
      | outgrown => exact he
      | panicked c => exact he
section
variable {C : Cx} {k : List Item} {σ : St} {H : PH}
theorem RC_yieldI {ol rem : List Oper} {o : Oper} {x : Operand} {aq : Array Operand} {ts : Array TypeId} {y : Nat} {vs : List Value} {I : PH} {l ps F : List PH} {Ψ : Value → PH → List PH → Prop} (hd : Dj (I :: l)) (is : List Nat) (hw : wantedS ol σ o = some true) (hop : o.op = .call ⟨.value x, aq, ts⟩)
    (hx : ev σ x = .v (.func (.yield y) #[] #[])) (ha : allV (ev σ) aq.toList = some vs) (hi : is.isPerm (List.range l.length) = true) (hl : sel l is = ps ++ F) (h : YldI C.P y vs.toArray I ps Ψ)
    (hk : ∀ v I2 qs, Dj (I2 :: qs ++ F) → I.le I2 → Ψ v I2 qs → RC C (.op ol rem k) (σ.put o.dst (.v v)) (U (I2 :: qs ++ F))) : RC C (.op ol (o :: rem) k) σ (U (I :: l)) := by
  obtain ⟨e, d⟩ := U_perm ((sel_perm hi).cons I) hd
  rw [hl] at e d
  rw [e]
  obtain ⟨h1, h2⟩ := spec_yield hop hx ha (h.frame d)
  exact RC_gen hw h1 (h2.mono fun sv H2 ⟨v, e, I2, qs, a, b, c, d⟩ => by subst e; subst a; exact hk v I2 qs b c d)
theorem RD_yieldI {ol : List Oper} {fr : FrD} {str : StD} {i : Nat} {lo : List (Nat × Oper)} {o : Oper} {x : Operand} {aq : Array Operand} {ts : Array TypeId} {y : Nat} {vs : List Value} {I : PH} {l ps F : List PH} {Ψ : Value → PH → List PH → Prop} (hd : Dj (I :: l)) (is : List Nat) (hs : str.h.contains i = false) (hsj : str.j.contains i = true → fr.J.le I) (hw : wantedS ol σ o = some true) (hop : o.op = .call ⟨.value x, aq, ts⟩)
    (hx : ev σ x = .v (.func (.yield y) #[] #[])) (ha : allV (ev σ) aq.toList = some vs) (hi : is.isPerm (List.range l.length) = true) (hl : sel l is = ps ++ F) (h : YldI C.P y vs.toArray I ps Ψ)
    (hk : ∀ v I2 qs, Dj (I2 :: qs ++ F) → I.le I2 → Ψ v I2 qs → RD C ol fr str lo k (σ.put o.dst (.v v)) (U (I2 :: qs ++ F))) : RD C ol fr str ((i, o) :: lo) k σ (U (I :: l)) := by
  obtain ⟨e, d⟩ := U_perm ((sel_perm hi).cons I) hd
  rw [hl] at e d
  rw [e]
  obtain ⟨h1, h2⟩ := spec_yield hop hx ha (h.frame d)
  exact RD_gen hw h1 (by rw [hop]; rfl) (h2.mono fun sv H2 ⟨v, e, I2, qs, a, b, c, d⟩ => by subst e; exact ⟨⟨fun hh => Bool.noConfusion (hs.symm.trans hh), fun hj _ => by subst a; exact PH.le_trans (hsj hj) (PH.le_trans c (le_U b (.head _)))⟩, by subst a; exact hk v I2 qs b c d⟩)
theorem putL {I : PH} {y : Nat} {o : Obj} {l : List PH} {w : World} (o' : Obj) (hd : Dj (I :: sg y o :: l)) (s : Sub (U (I :: sg y o :: l)) w) : Dj (I :: sg y o' :: l) ∧ Step (U (I :: sg y o :: l)) w (U (I :: sg y o' :: l)) (w.putObj y o') := by
  have hn : ∀ b, sg y o b = none → sg y o' b = none := fun b h => by
    unfold sg at h ⊢
    split at h
    · cases h
    · rename_i hb; rw [if_neg hb]
  have hd' : Dj (I :: sg y o' :: l) := by
    obtain ⟨h1, h2⟩ := List.pairwise_cons.1 hd
    obtain ⟨h3, h4⟩ := List.pairwise_cons.1 h2
    refine List.pairwise_cons.2 ⟨fun A hA => ?_, List.pairwise_cons.2 ⟨fun A hA b => (h3 A hA b).imp (hn b) id, h4⟩⟩
    rcases List.mem_cons.1 hA with rfl | hA
    · exact fun b => (h1 _ (.head _) b).imp id (hn b)
    · exact h1 A (.tail _ hA)
  have hne : ∀ b, b ≠ y → U (I :: sg y o :: l) b = U (I :: sg y o' :: l) b := fun b hb => by
    simp [U, PH.uni, sg, hb]
  have hy : U (I :: sg y o :: l) y = some o := (U_some hd).2 ⟨_, .tail _ (.head _), sg_self y o⟩
  have hy' : U (I :: sg y o' :: l) y = some o' := (U_some hd').2 ⟨_, .tail _ (.head _), sg_self y o'⟩
  have hlt := lt_size_of (s y o hy)
  refine ⟨hd', fun b x hb => ?_, by simp, fun b _ hb => ?_, fun b _ hb => ?_, rfl, rfl, rfl⟩
  · by_cases e : b = y
    · subst e
      rw [hy'] at hb; cases hb
      exact World.putObj_heap_same hlt
    · rw [World.putObj_heap_other e]; exact s b x (by rw [hne b e]; exact hb)
  · exact World.putObj_heap_other fun e => by subst e; rw [hy] at hb; cases hb
  · rw [← hne b fun e => by subst e; rw [hy] at hb; cases hb]; exact hb
def lpR (f : FuncId) (T : Array Value) (ps : Array Tmp) (asn bo : Code) (D : Nat) (st : LoopState) (j : Option Code) : Loop := ⟨st, j, f, T, ps, asn, bo, D⟩
def endS : Option Code → LoopState
  | none => .ready
  | some _ => .done
theorem R_begin {y : Nat} {Q : Option Code → PH → Prop} {f : FuncId} {T : Array Value} {ps : Array Tmp} {asn bo : Code} {D : Nat} {I : PH} {l : List PH} (hC : C.rd = some (y, Q)) (hd : Dj (I :: sg y (.loop (lpR f T ps asn bo D .ready none)) :: l))
    (h : Dj (I :: sg y (.loop (lpR f T ps asn bo D .busy none)) :: l) → R C k σ (U (I :: sg y (.loop (lpR f T ps asn bo D .busy none)) :: l))) : R C (.beginRound :: k) σ (U (I :: sg y (.loop (lpR f T ps asn bo D .ready none)) :: l)) := by
  rintro w a cs s ⟨β, g⟩
  have hy := s.sub y _ ((U_some hd).2 ⟨_, .tail _ (.head _), sg_self y _⟩)
  obtain ⟨hd', t⟩ := putL (Obj.loop (lpR f T ps asn bo D .busy none)) hd s.sub
  exact Goal.steps (.one (stepR_beginRound (by simp [Cx.fr, hC]) (run_beginRound hy rfl))) (h hd' _ a cs (s.trans t) ⟨β, g.step t⟩)
theorem RC_begin {y : Nat} {Q : Option Code → PH → Prop} {f : FuncId} {T : Array Value} {ps : Array Tmp} {asn bo : Code} {D : Nat} {I : PH} {l : List PH} (hC : C.rd = some (y, Q)) (hd : Dj (I :: sg y (.loop (lpR f T ps asn bo D .ready none)) :: l))
    (h : Dj (I :: sg y (.loop (lpR f T ps asn bo D .busy none)) :: l) → RC C (.st k) σ (U (I :: sg y (.loop (lpR f T ps asn bo D .busy none)) :: l))) : RC C (.st (.beginRound :: k)) σ (U (I :: sg y (.loop (lpR f T ps asn bo D .ready none)) :: l)) := R_begin hC hd h
theorem RC_rend {y : Nat} {Q : Option Code → PH → Prop} (j : Option Code) (hC : C.rd = some (y, Q)) (hj : EndsAt j k) (h : Q j H) : RC C (.st k) σ H := by
  intro w a cs s _
  unfold Goal
  rw [hC]
  exact ⟨j, a, k, w, H, Steps.refl _ _, hj, s, h⟩
def setPs : List (Nat × Value) → List SV → List SV
  | [], tm => tm
  | (p, v) :: l, tm => setPs l (setT tm p (.v v))
def KnT (tm : List SV) (T : Array Value) : Prop := T.size = tm.length ∧ ∀ t sv, tm[t]? = some sv → matchSV (fun _ => 0) sv (T.getD t undef)
theorem KnT.set {tm : List SV} {T : Array Value} (h : KnT tm T) (p : Nat) (v : Value) : KnT (setT tm p (.v v)) (T.setIfInBounds p v) := by
  refine ⟨by simp [setT_length, h.1], fun t sv hx => ?_⟩
  have hlen := h.1
  rw [setT_getElem?] at hx
  by_cases e : p = t
  · subst e
    simp only [if_true] at hx
    split at hx
    · cases hx
      simp only [Array.getD_eq_getD_getElem?]
      rw [Array.getElem?_setIfInBounds_self_of_lt (by omega)]
      simp [matchSV]
    · cases hx
  · simp only [if_neg e] at hx
    have := h.2 t sv hx
    simpa [Array.getD_eq_getD_getElem?, Array.getElem?_setIfInBounds_ne e] using this
theorem KnT.setPs : ∀ (l : List (Nat × Value)) {tm : List SV} {T : Array Value}, KnT tm T → KnT (Sx.setPs l tm) (l.foldl (fun t (p, v) => t.setIfInBounds p v) T)
  | [], _, _, h => h
  | (p, v) :: l, _, _, h => KnT.setPs l (h.set p v)
def RdQ (y : Nat) (L : LoopState → Option Code → Loop) (I : PH) (Ψ : Value → PH → List PH → Prop) (j : Option Code) (H1 : PH) : Prop :=
  ∃ I2 qs, H1 = U (I2 :: sg y (.loop (L .busy none)) :: qs) ∧ Dj (I2 :: sg y (.loop (L .busy none)) :: qs) ∧ I.le I2 ∧ Ψ (.bool j.isNone) I2 (sg y (.loop (L (endS j) j)) :: qs)
theorem YldI_round {P : Program} {y : Nat} {f : FuncId} {fn : Func} (hf : P.funcs[f]? = some fn) {T : Array Value} {ps : Array Tmp} {asn bo : Code} {D : Nat} {args : Array Value} (hsz : args.size = ps.size) {I : PH} {l : List PH} {Ψ : Value → PH → List PH → Prop} {tm : List SV} (htm : KnT tm T)
    (h : ∀ w0, Dj (I :: sg y (.loop (lpR f T ps asn bo D .ready none)) :: l) → RC ⟨P, f, fn, hf, U (I :: sg y (.loop (lpR f T ps asn bo D .ready none)) :: l), w0, fun _ _ => False, some (y, RdQ y (lpR f T ps asn bo D) I Ψ)⟩
      (.st [.code asn, .beginRound, .code bo]) ⟨setPs (ps.toList.zip args.toList) tm, []⟩ (U (I :: sg y (.loop (lpR f T ps asn bo D .ready none)) :: l))) : YldI P y args I (sg y (.loop (lpR f T ps asn bo D .ready none)) :: l) Ψ := by
  intro hd w s
  have hy := s y _ ((U_some hd).2 ⟨_, .tail _ (.head _), sg_self y _⟩)
  have hyl := run_yield (P := P) (args := args) hy hsz
  refine ⟨_, _, _, _, hyl, trivial, fun c cs _ => ?_⟩
  have hk := KnT.setPs (ps.toList.zip args.toList) htm
  have eT : (ps.zip args).foldl (fun tmps (t, a) => tmps.setIfInBounds t a) T = (ps.toList.zip args.toList).foldl (fun t (p, v) => t.setIfInBounds p v) T := by
    rw [← Array.foldl_toList, Array.toList_zip]
  simp only [lpR] at eT ⊢
  rw [eT]
  generalize hT : (ps.toList.zip args.toList).foldl (fun t (p, v) => t.setIfInBounds p v) T = T2 at hk ⊢
  have hg : G w.heap.size ⟨setPs (ps.toList.zip args.toList) tm, []⟩ (U (I :: sg y (.loop (lpR f T ps asn bo D .ready none)) :: l)) { tmps := T2, defers := [] } w :=
    ⟨fun _ => 0, DfOk.nil, hk.1, hk.2, fun _ h => (List.not_mem_nil h).elim, fun _ h => (List.not_mem_nil h).elim, fun _ h => (List.not_mem_nil h).elim, List.Pairwise.nil⟩
  have hG := h w hd w _ (c :: cs) (Step.refl s) hg
  unfold Goal at hG
  obtain ⟨j, a, k, w1, H1, hs, hE, st, I2, qs, rfl, hd2, hle, hΨ⟩ := hG
  have h1 := st.sub y _ ((U_some hd2).2 ⟨_, .tail _ (.head _), sg_self y _⟩)
  obtain ⟨hd3, t⟩ := putL (Obj.loop (lpR f T ps asn bo D (endS j) j)) hd2 st.sub
  have her := run_endRound (P := P) j h1
  have eL : ({ lpR f T ps asn bo D .busy none with state := if j.isNone then .ready else .done, pending := j } : Loop) = lpR f T ps asn bo D (endS j) j := by cases j <;> rfl
  rw [eL] at her
  refine ⟨.returned (.bool j.isNone), _, ⟨_, st.trans t, I2, _, rfl, hd3, hle, hΨ⟩, stepsIn_wide.2 ?_⟩
  refine Steps.trans hs (.one ?_)
  cases j with
  | none =>
    have hk0 : k = [] := hE
    subst hk0
    exact stepR_round_end rfl rfl her
  | some c0 =>
    obtain ⟨k', rfl, rfl | ⟨id, rfl, hx⟩⟩ := hE
    · exact stepR_round_ret rfl rfl her
    · exact stepR_round_exit rfl rfl hx her
def unP : SV → SV | .v x => .v x | _ => .u
theorem R_range {gf : FuncId} {lb : Array Value} {g : Operand} {ps : Array Tmp} {asn bo : Code} {I : PH} {S0 Fr : List PH} {Ψ : Option Code → PH → List PH → Prop} (hC : C.rd = none) (hg : ev σ g = .v (.func (.func gf) #[] lb)) (hgo : Goes C.P gf) (hd : Dj (I :: S0 ++ Fr))
    (hcall : ∀ (y D : Nat) (T : Array Value), KnT (σ.tm.map unP) T → DoesI C.P gf (#[.func (.yield y) #[] #[]] ++ lb) I (sg y (.loop (lpR C.f T ps asn bo D .ready none)) :: S0) fun _ I2 qs => ∃ st j S2, st ≠ LoopState.busy ∧ qs = sg y (.loop (lpR C.f T ps asn bo D st j)) :: S2 ∧ Ψ j I2 S2)
    (hk : ∀ j I2 S2, Dj (I2 :: S2 ++ Fr) → I.le I2 → Ψ j I2 S2 → R C ((j.map Item.code).toList ++ k) σ (U (I2 :: S2 ++ Fr))) : R C (.code (.rangeFunc g ps asn bo) :: k) σ (U (I :: S0 ++ Fr)) := by
  rintro w a cs s ⟨β, gg⟩
  have hro : C.fr.roundOf = none := by simp [Cx.fr, hC]
  have hga : a.eval g = .func (.func gf) #[] lb := eval_v gg hg
  obtain ⟨D, hD⟩ : ∃ D, w.heap.size = D := ⟨_, rfl⟩
  obtain ⟨y, hy⟩ : ∃ y, w.heap.size + 1 = y := ⟨_, rfl⟩
  obtain ⟨L, hL⟩ : ∃ L, L = lpR C.f a.tmps ps asn bo D := ⟨_, rfl⟩
  obtain ⟨W1, hW1⟩ : ∃ W1, (w.alloc (.deferred (some []))).alloc (.loop (L .ready none)) = W1 := ⟨_, rfl⟩
  have hy1 : W1.heap[y]? = some (.loop (L .ready none)) := by
    rw [← hW1, ← hy]; have := World.alloc_heap_new (w.alloc (.deferred (some []))) (.loop (L .ready none)); rwa [World.size_alloc] at this
  have hold : ∀ b, b < w.heap.size → W1.heap[b]? = w.heap[b]? := fun b hb => by
    rw [← hW1]; exact (RowKit.Below.heap_alloc _ _ b (by simp; omega)).trans (RowKit.Below.heap_alloc _ _ b hb)
  have hD1 : W1.heap[D]? = some (.deferred (some [])) := by
    rw [← hW1, ← hD]; exact (RowKit.Below.heap_alloc _ _ _ (by simp)).trans (World.alloc_heap_new w _)
  have hsz1 : W1.heap.size = w.heap.size + 2 := by rw [← hW1]; simp
  have hos1 : W1.os = w.os ∧ W1.tape = w.tape ∧ W1.output = w.output := by rw [← hW1]; exact ⟨rfl, rfl, rfl⟩
  have hnew : ∀ b, w.heap.size ≤ b → U (I :: S0 ++ Fr) b = none := fun b hb => by
    cases h : U (I :: S0 ++ Fr) b with
    | none => rfl
    | some o => exact absurd (lt_size_of (s.sub b o h)) (by omega)
  have hput := put_new hd (b := y) (o := .loop (L .ready none)) (hnew y (by omega))
  obtain ⟨eU, hd1⟩ := U_perm (m := I :: (sg y (.loop (L .ready none)) :: S0) ++ Fr) (List.Perm.swap _ _ _) hput.2
  have hU1 : ∀ b, U (I :: (sg y (.loop (L .ready none)) :: S0) ++ Fr) b = if b = y then some (.loop (L .ready none)) else U (I :: S0 ++ Fr) b := fun b => (congrFun (hput.1.trans eU) b).symm
  have s1 : Sub (U (I :: (sg y (.loop (L .ready none)) :: S0) ++ Fr)) W1 := fun b o hb => by
    rw [hU1] at hb
    split at hb
    · rename_i e; cases hb; rw [e]; exact hy1
    · have := s.sub b o hb
      rw [hold b (lt_size_of this)]; exact this
  have hk0 : KnT (σ.tm.map unP) a.tmps := by
    refine ⟨by simp [gg.size], fun t sv ht => ?_⟩
    simp only [List.getElem?_map, Option.map_eq_some_iff] at ht
    obtain ⟨x, hx, rfl⟩ := ht
    have := gg.tm t x hx
    cases x with
    | v z => exact this
    | p _ _ => trivial
    | u => trivial
  have he : (Instr.enterLoop C.fr.fn a.tmps ps asn bo C.fr.roundOf).run C.P w = .ok (y, [markD D]) W1 := by
    rw [hro, run_enterLoop_outer, ← hW1, hL, ← hy, ← hD]; rfl
  subst hL
  have hc := (hcall y D a.tmps hk0).frame (F := Fr) hd1 W1 s1
  obtain ⟨fn, f1, f2, f3⟩ := hgo
  have hres : (resolve a.eval (rangeCall g y) 0).run C.P W1 = .ok { target := .fn (.func gf) lb, args := #[.func (.yield y) #[] #[]] } W1 := by
    simp only [resolve, hga]
    simp [Deferred.ofValue]
    rfl
  have hinv : (invoke (.fn (.func gf) lb) #[.func (.yield y) #[] #[]]).run C.P W1 = .ok (.enter gf (#[.func (.yield y) #[] #[]] ++ lb)) W1 := by
    simp [invoke, callFunc_run f1 f2 f3]
  have step1 := stepR_rangeFunc (P := C.P) (b := C.fr) (a := a) (k := k) (cs := cs) (w := w) he hres hinv
  obtain ⟨e, w3, fr, hR, hsteps, _, hleave⟩ := hc (C.fr.atR { a with defers := [markD D] ++ a.defers } (.inRangeFunc y :: k) :: cs)
  cases e with
  | outgrown => exact hR.elim
  | panicked c => exact hR.elim
  | returned v =>
    obtain ⟨H2, st, I2, qs, rfl, hd2, hle, rs, j, S2, hrs, rfl, hΨ⟩ := hR
    obtain ⟨eU2, hd3⟩ := U_perm (m := sg y (.loop (lpR C.f a.tmps ps asn bo D rs j)) :: (I2 :: S2 ++ Fr)) (List.Perm.swap _ _ _) hd2
    have h3y : w3.heap[y]? = some (.loop (lpR C.f a.tmps ps asn bo D rs j)) := st.sub y _ ((U_some hd2).2 ⟨_, .tail _ (.head _), sg_self y _⟩)
    have hend := run_endLoop (P := C.P) h3y hrs
    obtain ⟨w4, hw4⟩ : ∃ w4, w3.putObj y (.loop { lpR C.f a.tmps ps asn bo D rs j with state := .exhausted }) = w4 := ⟨_, rfl⟩
    rw [hw4] at hend
    have step2 : step C.P (lone fr (C.fr.atR { a with defers := [markD D] ++ a.defers } (.inRangeFunc y :: k) :: cs) w3) = .next (lone (C.fr.atR { a with defers := [markD D] ++ a.defers } (.endRangeFunc y :: k)) cs w3) := by
      rw [← finish_atR_inRangeFunc y v]; exact step_leave_returned hleave
    have step3 := stepR_endRangeFunc (b := C.fr) (a := { a with defers := [markD D] ++ a.defers }) (k := k) (cs := cs) hend
    have hpriv : ∀ b, b < W1.heap.size → b ≠ y → U (I :: S0 ++ Fr) b = none → w4.heap[b]? = W1.heap[b]? ∧ U (I2 :: S2 ++ Fr) b = none := fun b hb hby hn => by
      have hn1 : U (I :: (sg y (.loop (lpR C.f a.tmps ps asn bo D .ready none)) :: S0) ++ Fr) b = none := by rw [hU1, if_neg hby]; exact hn
      refine ⟨by rw [← hw4, World.putObj_heap_other hby]; exact st.priv b hb hn1, ?_⟩
      have := (congrFun eU2 b).symm.trans (st.dom b hb hn1)
      exact (PH.uni_none.1 this).2
    have hsub2 : ∀ b o, U (I2 :: S2 ++ Fr) b = some o → w4.heap[b]? = some o := fun b o hb => by
      have hne : b ≠ y := fun e => by
        subst e
        rcases hd3.head b with h | h
        · rw [sg_self] at h; cases h
        · rw [h] at hb; cases hb
      rw [← hw4, World.putObj_heap_other hne]
      exact st.sub b o ((congrFun eU2 b).trans (PH.le_uni_r hd3.head b o hb))
    have hsz3 := st.size
    have hsz4 : w4.heap.size = w3.heap.size := by rw [← hw4]; simp
    have hos4 : w4.os = w3.os ∧ w4.tape = w3.tape ∧ w4.output = w3.output := by rw [← hw4]; exact ⟨rfl, rfl, rfl⟩
    have hs0 := s.size
    refine Goal.steps (.head step1 (Steps.trans hsteps (.head step2 (.one step3)))) (hk j I2 S2 hd3.tail hle hΨ w4 _ cs ⟨hsub2, by omega, fun b hb hn => ?_, fun b hb hn => ?_, by rw [hos4.1, st.os, hos1.1, s.os], by rw [hos4.2.1, st.tape, hos1.2.1, s.tape], by rw [hos4.2.2, st.out, hos1.2.2, s.out]⟩ ⟨β, ?_, gg.size, gg.tm, fun B hB => ?_, gg.inj, gg.lo, gg.keys⟩)
    · rw [(hpriv b (by omega) (by omega) (s.dom b hb hn)).1, hold b (by omega)]; exact s.priv b hb hn
    · exact (hpriv b (by omega) (by omega) (s.dom b hb hn)).2
    · obtain ⟨ds, e1, e2, e3⟩ := gg.defers
      refine ⟨D :: ds, by simp [e1], List.nodup_cons.2 ⟨fun hm => ?_, e2⟩, fun d hdm => ?_⟩
      · have := lt_size_of (e3 D hm).2.2; omega
      · rcases List.mem_cons.1 hdm with rfl | hdm
        · obtain ⟨p1, p2⟩ := hpriv d (by omega) (by omega) (hnew d (by omega))
          exact ⟨by omega, p2, by rw [p1]; exact hD1⟩
        · obtain ⟨q1, q2, q3⟩ := e3 d hdm
          have hlt := lt_size_of q3
          obtain ⟨p1, p2⟩ := hpriv d (by omega) (by omega) q2
          exact ⟨q1, p2, by rw [p1, hold d hlt]; exact q3⟩
    · obtain ⟨b1, b2⟩ := gg.bx B hB
      have hlt := lt_size_of b1
      obtain ⟨p1, p2⟩ := hpriv _ (by omega) (by omega) b2
      exact ⟨by rw [p1, hold _ hlt]; exact b1, p2⟩
theorem RC_range {gf : FuncId} {lb : Array Value} {g : Operand} {ps : Array Tmp} {asn bo : Code} {I : PH} {l S0 Fr : List PH} {Ψ : Option Code → PH → List PH → Prop} (hd : Dj (I :: l)) (is : List Nat) (hC : C.rd = none) (hg : ev σ g = .v (.func (.func gf) #[] lb)) (hgo : Goes C.P gf) (hi : is.isPerm (List.range l.length) = true) (hl : sel l is = S0 ++ Fr)
    (hcall : ∀ (y D : Nat) (T : Array Value), KnT (σ.tm.map unP) T → DoesI C.P gf (#[.func (.yield y) #[] #[]] ++ lb) I (sg y (.loop (lpR C.f T ps asn bo D .ready none)) :: S0) fun _ I2 qs => ∃ st j S2, st ≠ LoopState.busy ∧ qs = sg y (.loop (lpR C.f T ps asn bo D st j)) :: S2 ∧ Ψ j I2 S2)
    (hk : ∀ j I2 S2, Dj (I2 :: S2 ++ Fr) → I.le I2 → Ψ j I2 S2 → RC C (.st ((j.map Item.code).toList ++ k)) σ (U (I2 :: S2 ++ Fr))) : RC C (.st (.code (.rangeFunc g ps asn bo) :: k)) σ (U (I :: l)) := by
  obtain ⟨e, d⟩ := U_perm ((sel_perm hi).cons I) hd
  rw [hl] at e d
  rw [e]
  exact R_range hC hg hgo d hcall hk
end
end Go.Sx
end
section
namespace Go.Proofs.YtfaclfkpnmcmlaaGreatDoor
open Go Go.Sx Dg Syn
theorem goes81 : Goes Tryz.prog 81 := ⟨_, Tryz.func81, rfl, rfl⟩
theorem goes141 : Goes Tryz.prog 141 := ⟨_, Tryz.func141, rfl, rfl⟩
theorem goes142 : Goes Tryz.prog 142 := ⟨_, Tryz.func142, rfl, rfl⟩
theorem goes102 : Goes Tryz.prog 102 := ⟨_, Tryz.func102, rfl, rfl⟩
theorem goes45 : Goes Tryz.prog 45 := ⟨_, Tryz.func45, rfl, rfl⟩
def YC2 (y : Nat) (S : Nat → PH) (stop : Nat) (W : List (List Nat × Nd)) (I0 : PH) : Prop :=
  ∀ {J : PH} {k : Nat} {p : List Nat} {n : Nd} {vp : Value} {cx : List Value}, I0.le J → k ≤ stop → W[k]? = some (p, n) → SlA J vp p → NdR J cx n → YldI Tryz.prog y #[vp, .agg cx.toArray] J [S k] fun r _ qs => r = .bool (decide (k ≠ stop)) ∧ qs = [S (k + 1)]
def wyS (vl vp y : Value) (n i : Nat) : St := ⟨dn 36 [(1, .v vp), (2, .v y), (6, .v (.bool false)), (10, .v vl), (11, .v (iv n)), (12, .v (iv i))], []⟩
def wyQ (S : Nat → PH) (l : List Nd) (k stop : Nat) (I0 : PH) (i : Nat) (H : PH) : Prop := ∃ I, H = U [I, S (k + szL (l.take i))] ∧ Dj [I, S (k + szL (l.take i))] ∧ I0.le I ∧ i ≤ l.length ∧ k + szL (l.take i) ≤ stop
theorem walk_y {y : Nat} {S : Nat → PH} {stop : Nat} {W : List (List Nat × Nd)} {I0 : PH} (hY : YC2 y S stop W I0) : ∀ (m : Nat) {I : PH} {v vp : Value} {l : List Nd} {p : List Nat} {k : Nat}, szL l < m → I0.le I → SlN I v l → CapN v → SlA I vp p → (∀ j, j < szL l → W[k + j]? = (wkL p 0 l)[j]?) → k ≤ stop → szL l < 2 ^ 40 → p.length + szL l < 2 ^ 40 →
    DoesI Tryz.prog 142 #[v, vp, .func (.yield y) #[] #[]] I [S k] fun r _ qs => (stop < k + szL l → r = .bool false ∧ qs = [S (stop + 1)]) ∧ (k + szL l ≤ stop → r = .bool true ∧ qs = [S (k + szL l)]) := by
  intro m
  induction m with
  | zero => intro I v vp l p k hm; omega
  | succ m ih =>
  intro I v vp l p k hm hI0 hS hC hP hW hks hz hp hd
  obtain ⟨va, vc, rfl, _⟩ := id hS
  obtain ⟨qa, qc, rfl, _⟩ := id hP
  refine Does_ofD Tryz.func142 rfl (by simp [Tryz.ntmps142]) fun w0 => ?_
  simp only [Tryz.ntmps142, iv]
  (refine RG ?_; simp only [go_sem])
  refine RC_loopD (fun i => l.length - i) (wyS (.slice va l.length vc) (.slice qa p.length qc) (.func (.yield y) #[] #[]) l.length) (wyQ S l k stop I) 0 (subT_dn (by simp only [go_sem, List.append_nil, iv])) (by simp only [go_sem, List.append_nil, wyS]) ?_ ?_
  · exact ⟨I, by simp [szL_nil], by simpa [szL_nil] using hd, PH.le_refl _, Nat.zero_le _, by simpa [szL_nil] using hks⟩
  rintro i H ⟨I1, rfl, hd1, hle1, hi, hki⟩ hnext
  simp only [wyS]
  rcases Nat.lt_or_ge i l.length with hlt | hge
  · have h11 : decide ((i : Int) < (l.length : Int)) = true := by simp; omega
    have e1' := wrapCap hC hlt
    obtain ⟨x, hx⟩ : ∃ x, l[i]? = some x := ⟨_, List.getElem?_eq_getElem hlt⟩
    obtain ⟨b, off, cs, rfl, hcs, hcell⟩ := Sl.load NdR.len (SlN.le hS hle1) hx
    have hcs0 := hcs
    obtain ⟨vk, na, nk, rfl, hrep, hkids, hcap⟩ := hcs.shape
    obtain ⟨ka, kc, rfl, _⟩ := id hkids
    have hsz := szL_mem (List.mem_of_getElem? hx)
    have hst : szL (l.take (i + 1)) = szL (l.take i) + (szL x.kids + 1) := by rw [take_snoc hx, szL_app, szL_cons, szL_nil]
    have hsl : szL (l.take (i + 1)) ≤ szL l := by
      conv => rhs; rw [← List.take_append_drop (i + 1) l]
      rw [szL_app]; omega
    have hwk : wkL p 0 l = wkL p 0 (l.take i) ++ (p ++ [i], x) :: (wkL (p ++ [i]) 0 x.kids ++ wkL p (i + 1) (l.drop (i + 1))) := by
      conv => lhs; rw [← List.take_append_drop (i + 1) l]
      rw [wkL_app, wkL_snoc p hx, List.append_assoc, List.cons_append, List.length_take, Nat.zero_add, Nat.min_eq_left (by omega)]
    have hwl : (wkL p 0 (l.take i)).length = szL (l.take i) := wkL_len _ _ _
    have hx0 : W[k + szL (l.take i)]? = some (p ++ [i], x) := by
      rw [hW _ (by omega), hwk, List.getElem?_append_right (by omega), hwl, Nat.sub_self]; rfl
    have hxs : ∀ j, j < szL x.kids → W[k + szL (l.take i) + 1 + j]? = (wkL (p ++ [i]) 0 x.kids)[j]? := fun j hj => by
      have h1 := hW (szL (l.take i) + 1 + j) (by omega)
      rw [hwk, List.getElem?_append_right (by omega), hwl, show szL (l.take i) + 1 + j - szL (l.take i) = j + 1 by omega, List.getElem?_cons_succ, List.getElem?_append_left (by rw [wkL_len]; exact hj)] at h1
      rw [← h1]; congr 1; omega
    (refine RG ?_; simp only [go_sem, h11, iv, sD, rD])
    refine ⟨by omega, ?_⟩
    refine RC_load (l := [.int .u8 x.kind, .string ⟨⟨x.text⟩⟩, .int .i64 x.tok, .int .i64 x.slot, .slice ka x.kids.length kc, sD na nk x.cond, rD x.cond]) (v := .agg #[.int .u8 x.kind, .string ⟨⟨x.text⟩⟩, .int .i64 x.tok, .int .i64 x.slot, .slice ka x.kids.length kc, sD na nk x.cond, rD x.cond]) rfl rfl rfl (cellsU hd1 (.head _) hcell) (.inl ⟨ag60, rfl⟩) ?_
    (refine RG ?_; simp only [go_sem, iv, sD, rD])
    refine RC_callI hd1 [0] rfl rfl rfl rfl goes103 (by rfl) (ps := []) (F := [_]) rfl (cloneA_c (SlA.le hP hle1) (by omega)) fun v I2 qs hd2 hle2 hq => ?_
    obtain ⟨A2, rfl, hA2⟩ := hq
    simp only [Z3] at hd2 ⊢
    obtain ⟨ua, uc, rfl⟩ := hA2.shape
    (refine RG ?_; simp only [go_sem, iv, sD, rD])
    refine RC_buildSliceI hd2 (by exact sl81) rfl rfl rfl rfl rfl (by decide) fun nb I3 hd3 hle3 hnb => ?_
    have hS3 : SlA I3 (.slice (some ⟨nb, 0, none⟩) 1 1) [i] := ⟨_, _, rfl, .inr ⟨nb, 0, _, rfl, cells_at hnb (by simp [flatP, Value.cells]) (by simp [flatP, Value.cells, iv]), .one rfl⟩⟩
    (refine RG ?_; simp only [go_sem, iv, sD, rD])
    refine RC_appendSl (R := AtR) (xs := p) (ys := [i]) hd3 (by exact sl81) (OwA.le hA2 hle3) hS3 (fun {I J c a} h k => h) (fun {I} c a h => AtR.len (I := I) c a h) (fun {I} c a h => AtR.ones (I := I) h) rfl rfl rfl rfl (by simp only [List.length_cons, List.length_nil]; omega) (by simp only [List.length_cons, List.length_nil]; unfold maxLen; omega) fun xa xc I4 A4 hd4 hle4 hA4 => ?_
    refine RC_freeze hd4 fun I5 hd5 hle5 hA5 => ?_
    have hP5 : SlA I5 (.slice xa (p ++ [i]).length xc) (p ++ [i]) := Ow.sl (R := AtR) (fun {I J c a} h k => h) hA4 hle5 hA5
    have hpl : (p ++ [i]).length = p.length + 1 := by simp
    have k15 := PH.le_trans hle2 (PH.le_trans hle3 (PH.le_trans hle4 hle5))
    (refine RG ?_; simp only [go_sem, iv, sD, rD])
    refine RC_yieldI hd5 [0] rfl rfl rfl rfl (by rfl) (ps := [S _]) (F := []) rfl (hY (PH.le_trans hI0 (PH.le_trans hle1 k15)) hki hx0 hP5 (hcs0.le k15)) fun v I6 qs hd6 hle6 hq => ?_
    obtain ⟨rfl, rfl⟩ := hq
    simp only [Z3] at hd6 ⊢
    rcases Nat.lt_or_ge (k + szL (l.take i)) stop with hks | hks
    rotate_left
    · have he : k + szL (l.take i) = stop := by omega
      have hdc : decide (k + szL (l.take i) ≠ stop) = false := by simp [he]
      rw [hdc]
      rw [he] at hd6 ⊢
      (refine RG ?_; simp only [go_sem, iv, sD, rD])
      exact R_ret_I rfl hd6 (r := [_]) rfl (PH.le_trans hle1 (PH.le_trans k15 hle6)) ⟨fun _ => ⟨rfl, rfl⟩, fun h => by omega⟩
    have hdc : decide (k + szL (l.take i) ≠ stop) = true := decide_eq_true (by omega)
    rw [hdc]
    (refine RG ?_; simp only [go_sem, iv, sD, rD])
    refine RC_callI hd6 [0] rfl rfl rfl rfl goes142 (by rfl) (ps := [S _]) (F := []) rfl (ih (l := x.kids) (p := p ++ [i]) (by omega) (PH.le_trans hI0 (PH.le_trans hle1 (PH.le_trans k15 hle6))) (SlN.le hkids (PH.le_trans k15 hle6)) hcap (SlA.le hP5 hle6) hxs (by omega) (by omega) (by omega)) fun v I7 qs hd7 hle7 hq => ?_
    have k17 := PH.le_trans k15 (PH.le_trans hle6 hle7)
    rcases Nat.lt_or_ge stop (k + szL (l.take i) + 1 + szL x.kids) with hs2 | hs2
    · obtain ⟨rfl, rfl⟩ := hq.1 hs2
      simp only [Z3] at hd7 ⊢
      (refine RG ?_; simp only [go_sem, iv, sD, rD])
      exact R_ret_I rfl hd7 (r := [_]) rfl (PH.le_trans hle1 k17) ⟨fun _ => ⟨rfl, rfl⟩, fun h => by omega⟩
    · obtain ⟨rfl, rfl⟩ := hq.2 hs2
      have eN : k + szL (l.take i) + 1 + szL x.kids = k + szL (l.take (i + 1)) := by omega
      rw [eN] at hd7 ⊢
      simp only [Z3] at hd7 ⊢
      (refine RG ?_; simp only [go_sem, iv, sD, rD, e1'])
      exact hnext (i + 1) _ _ (by omega) (subT_dn (by simp only [go_sem, List.append_nil, iv, sD, rD])) (by simp only [go_sem, List.append_nil, wyS, iv, sD, rD]) ⟨I7, rfl, hd7, PH.le_trans hle1 k17, hlt, by omega⟩
  · have : i = l.length := by omega
    subst this
    have h11 : decide (((l.length : Nat) : Int) < (l.length : Int)) = false := by simp
    rw [List.take_length] at hd1 hki ⊢
    (refine RG ?_; simp only [go_sem, h11, iv, sD, rD])
    exact R_ret_I rfl hd1 (r := [_]) rfl hle1 ⟨fun h => by omega, fun _ => ⟨rfl, rfl⟩⟩
def finW (stop N : Nat) : Nat := if stop < N then stop + 1 else N
theorem all1_y {y : Nat} {S : Nat → PH} {stop : Nat} {I0 I : PH} {cb : Nat} {vk vd : Value} {l : List Nd} (hY : YC2 y S stop (wkL [] 0 l) I0) (hI0 : I0.le I) (hb : Cells I cb 0 [vk, vd]) (hS : SlN I vk l) (hC : CapN vk) (hz : szL l < 2 ^ 36) :
    DoesI Tryz.prog 141 #[.func (.yield y) #[] #[], pt cb] I [S 0] fun _ _ qs => qs = [S (finW stop (szL l))] := by
  obtain ⟨ka, kc, rfl, _⟩ := id hS
  have hp : SlA I (.slice none 0 0) [] := ⟨none, 0, rfl, .inl rfl⟩
  intro hd
  refine Does_ofD Tryz.func141 rfl (by simp [Tryz.ntmps141]) fun w0 => ?_
  simp only [Tryz.ntmps141, pt]
  (refine RG ?_; simp only [go_sem])
  refine RC_load (l := [.slice ka l.length kc]) rfl rfl rfl (cellsU hd (.head _) (by simpa using hb.get (i := 0) rfl)) (.inr ⟨ag33, rfl⟩) ?_
  (refine RG ?_; simp only [go_sem])
  refine RC_callI hd [0] rfl rfl rfl rfl goes142 (by rfl) (ps := [S 0]) (F := []) rfl (walk_y hY (szL l + 1) (k := 0) (by omega) hI0 hS hC hp (fun j hj => by rw [Nat.zero_add]) (Nat.zero_le _) (by omega) (by simp only [List.length_nil]; omega)) fun v I2 qs hd2 hle2 hq => ?_
  rw [Nat.zero_add] at hq
  rcases Nat.lt_or_ge stop (szL l) with hs | hs
  · obtain ⟨rfl, rfl⟩ := hq.1 hs
    simp only [Z3] at hd2 ⊢
    (refine RG ?_; simp only [go_sem])
    exact R_end_I rfl hd2 (r := []) rfl hle2 (by unfold finW; rw [if_pos hs])
  · obtain ⟨rfl, rfl⟩ := hq.2 hs
    simp only [Z3] at hd2 ⊢
    (refine RG ?_; simp only [go_sem])
    exact R_end_I rfl hd2 (r := []) rfl hle2 (by unfold finW; rw [if_neg (by omega)])
theorem all_it {I : PH} {ka da : Option Addr} {kn kc dn' dc : Nat} : DoesI Tryz.prog 81 #[.agg #[.slice ka kn kc, .slice da dn' dc]] I [] fun r I2 qs => qs = [] ∧ ∃ cb, r = .func (.func 141) #[] #[pt cb] ∧ Cells I2 cb 0 [.slice ka kn kc, .slice da dn' dc] := by
  intro hd
  refine Does_ofD Tryz.func81 rfl (by simp [Tryz.ntmps81]) fun w0 => ?_
  simp only [Tryz.ntmps81]
  (refine RC_go 6 ?_; simp only [go_sem])
  refine RC_pubI 1 hd rfl fun cb hd2 => ?_
  refine RC_freeze (c := .st _) hd2 fun I2 hd3 hle3 hb3 => ?_
  have hb : Cells I2 cb 0 [.slice ka kn kc, .slice da dn' dc] := (cells_sg (by simp) rfl : Cells (sg cb (.cells [.slice ka kn kc, .slice da dn' dc].toArray 36 (0, 0))) cb 0 [.slice ka kn kc, .slice da dn' dc]).le hb3
  (refine RG ?_; simp only [go_sem, pubT, List.map, pt])
  exact R_ret_I rfl hd3 (r := [_]) rfl hle3 ⟨rfl, cb, rfl, hb⟩
theorem walk_it {I : PH} {ka da : Option Addr} {kn kc dn' dc : Nat} : DoesI Tryz.prog 45 #[.agg #[.slice ka kn kc, .slice da dn' dc]] I [] fun r I2 qs => qs = [] ∧ ∃ cb, r = .func (.func 102) #[] #[pt cb] ∧ Cells I2 cb 0 [.slice ka kn kc, .slice da dn' dc] := by
  intro hd
  refine Does_ofD Tryz.func45 rfl (by simp [Tryz.ntmps45]) fun w0 => ?_
  simp only [Tryz.ntmps45]
  (refine RC_go 6 ?_; simp only [go_sem])
  refine RC_pubI 1 hd rfl fun cb hd2 => ?_
  refine RC_freeze (c := .st _) hd2 fun I2 hd3 hle3 hb3 => ?_
  have hb : Cells I2 cb 0 [.slice ka kn kc, .slice da dn' dc] := (cells_sg (by simp) rfl : Cells (sg cb (.cells [.slice ka kn kc, .slice da dn' dc].toArray 36 (0, 0))) cb 0 [.slice ka kn kc, .slice da dn' dc]).le hb3
  (refine RG ?_; simp only [go_sem, pubT, List.map, pt])
  exact R_ret_I rfl hd3 (r := [_]) rfl hle3 ⟨rfl, cb, rfl, hb⟩
end Go.Proofs.YtfaclfkpnmcmlaaGreatDoor
end
section
namespace Go.Sx
open Go
theorem join_U {I : PH} {ps : List PH} : U (I :: ps) = U (I :: [U ps]) := by
  show I.uni (U ps) = I.uni ((U ps).uni PH.no)
  rw [PH.uni_no]
theorem join_Dj {I : PH} {ps : List PH} : Dj (I :: ps) ↔ Dj (I :: [U ps]) ∧ Dj ps := by
  constructor
  · exact fun h => ⟨List.pairwise_cons.2 ⟨fun A hA => by rw [List.mem_singleton.1 hA]; exact h.head, List.pairwise_singleton _ _⟩, h.tail⟩
  · exact fun h => h.2.cons ((List.pairwise_cons.1 h.1).1 _ (.head _))
theorem DoesI.split {P : Program} {f : FuncId} {args : Array Value} {I : PH} {ps : List PH} {Ψ Ψ' : Value → PH → List PH → Prop} (h : DoesI P f args I [U ps] Ψ) (k : ∀ v I2 qs, I.le I2 → Ψ v I2 qs → ∃ rs, qs = [U rs] ∧ Dj rs ∧ Ψ' v I2 rs) : DoesI P f args I ps Ψ' := fun hd => by
  have h1 := h (join_Dj.1 hd).1
  rw [← join_U] at h1
  exact h1.mono fun v H2 ⟨I2, qs, e, d, l, p⟩ => by
    obtain ⟨rs, rfl, dr, p'⟩ := k v I2 qs l p
    exact ⟨I2, rs, by rw [e, ← join_U], join_Dj.2 ⟨d, dr⟩, l, p'⟩
theorem YldI.join {P : Program} {y : Nat} {args : Array Value} {I : PH} {ps : List PH} {Ψ : Value → PH → List PH → Prop} (hps : Dj ps) (h : YldI P y args I ps Ψ) : YldI P y args I [U ps] fun v I2 qs => ∃ rs, qs = [U rs] ∧ Ψ v I2 rs := fun hd => by
  have h1 := h (join_Dj.2 ⟨hd, hps⟩)
  rw [join_U] at h1
  exact h1.imp fun v H2 ⟨I2, rs, e, d, l, p⟩ => ⟨I2, [U rs], by rw [e, join_U], (join_Dj.1 d).1, l, rs, rfl, p⟩
theorem YldI.join1 {P : Program} {y : Nat} {args : Array Value} {I A : PH} {ps : List PH} {Ψ : Value → PH → PH → List PH → Prop} (hps : Dj ps) (h : YldI P y args I (A :: ps) fun v I2 qs => ∃ A2 rs, qs = A2 :: rs ∧ Ψ v I2 A2 rs) : YldI P y args I [A, U ps] fun v I2 qs => ∃ A2 rs, qs = [A2, U rs] ∧ Ψ v I2 A2 rs := fun hd => by
  have e0 : ∀ {I A : PH} {ps : List PH}, U (I :: A :: ps) = U (I :: [A, U ps]) := fun {I A ps} => by
    show I.uni (A.uni (U ps)) = I.uni (A.uni ((U ps).uni PH.no)); rw [PH.uni_no]
  have hd2 : Dj (I :: A :: ps) := by
    obtain ⟨h1, h2⟩ := List.pairwise_cons.1 hd
    refine (join_Dj.2 ⟨h2, hps⟩).cons fun b => ?_
    rcases h1 A (.head _) b with e | e
    · exact .inl e
    · rcases h1 _ (.tail _ (.head _)) b with e2 | e2
      · exact .inl e2
      · exact .inr (PH.uni_none.2 ⟨e, e2⟩)
  have h1 := h hd2
  rw [e0] at h1
  refine h1.imp fun v H2 ⟨I2, qs, e, d, l, A2, rs, e2, p⟩ => ?_
  subst e2
  refine ⟨I2, [A2, U rs], by rw [e, e0], ?_, l, A2, rs, rfl, p⟩
  refine (join_Dj.1 d.tail).1.cons fun b => ?_
  rcases d.head b with e3 | e3
  · exact .inl e3
  · exact .inr (by rw [show U [A2, U rs] = U (A2 :: rs) from join_U.symm]; exact e3)
theorem YldI.perm {P : Program} {y : Nat} {args : Array Value} {I : PH} {ps ps' : List PH} {Ψ Ψ' : Value → PH → List PH → Prop} (hp : ps'.Perm ps) (h : YldI P y args I ps Ψ) (k : ∀ v I2 qs, Ψ v I2 qs → ∃ qs', qs.Perm qs' ∧ Ψ' v I2 qs') : YldI P y args I ps' Ψ' := fun hd => by
  obtain ⟨e, d⟩ := U_perm (hp.cons I) hd
  rw [e]
  refine (h d).imp fun v H2 ⟨I2, qs, e2, d2, l, p⟩ => ?_
  obtain ⟨qs', hq, p'⟩ := k v I2 qs p
  obtain ⟨e3, d3⟩ := U_perm (hq.cons I2) d2
  exact ⟨I2, qs', by rw [e2, e3], d3, l, p'⟩
theorem KnT.sub {tm tm' : List SV} {T : Array Value} (h : subT tm' tm) (k : KnT tm T) : KnT tm' T := by
  obtain ⟨h1, h2⟩ := subT_get h
  refine ⟨by rw [k.1, h1], fun t sv hx => ?_⟩
  rcases h2 t sv hx with rfl | h
  · trivial
  · exact k.2 t sv h
theorem unP_dn (n : Nat) (L : List (Nat × SV)) : (dn n L).map unP = dn n (L.map fun p => (p.1, unP p.2)) := map_dn _ rfl _ _
theorem sg_dj {y : Nat} {o : Obj} {S : PH} (h : S y = none) : Dj [sg y o, S] := List.pairwise_cons.2 ⟨fun A hA => by
  rw [List.mem_singleton.1 hA]
  intro b
  by_cases e : b = y
  · subst e; exact .inr h
  · exact .inl (by unfold sg; rw [if_neg e]), List.pairwise_singleton _ _⟩
theorem sg_fresh {I : PH} {y : Nat} {o : Obj} {S : PH} {l : List PH} (hd : Dj (I :: sg y o :: S :: l)) : S y = none := by
  have h := (List.pairwise_cons.1 hd.tail).1 S (.head _) y
  rcases h with h | h
  · rw [sg_self] at h; cases h
  · exact h
end Go.Sx
end
section
namespace Go.Proofs.YtfaclfkpnmcmlaaGreatDoor
open Go Go.Sx Dg Syn
def YC1 (y : Nat) (S : Nat → PH) (stop : Nat) (W : List (List Nat × Nd)) (I0 : PH) : Prop :=
  ∀ {J A : PH} {k : Nat} {p : List Nat} {n : Nd} {vp : Value} {cx : List Value}, I0.le J → k ≤ stop → W[k]? = some (p, n) → OwA J A vp p → NdR J cx n → YldI Tryz.prog y #[vp, .agg cx.toArray] J [A, S k] fun r _ qs => r = .bool (decide (k ≠ stop)) ∧ ∃ A2, qs = [A2, S (k + 1)]
def rS (stop : Nat) (e : Code) (k : Nat) : LoopState := if k ≤ stop then .ready else .done
def rJ (stop : Nat) (e : Code) (k : Nat) : Option Code := if k ≤ stop then none else some e
theorem rS_le {stop k : Nat} {e : Code} (h : k ≤ stop) : rS stop e k = .ready := if_pos h
theorem rJ_le {stop k : Nat} {e : Code} (h : k ≤ stop) : rJ stop e k = none := if_pos h
theorem rJ_gt {stop : Nat} {e : Code} : rJ stop e (stop + 1) = some e := if_neg (by omega)
theorem rS_nb (stop k : Nat) (e : Code) : rS stop e k ≠ LoopState.busy := by unfold rS; split <;> simp
theorem endS_rJ (stop k : Nat) (e : Code) : endS (rJ stop e k) = rS stop e k := by unfold rS rJ; split <;> rfl
def rP (f : FuncId) (T : Array Value) (ps : Array Tmp) (asn bo : Code) (D yy : Nat) (S : Nat → PH) (stop : Nat) (e : Code) (k : Nat) : PH := U [sg yy (.loop (lpR f T ps asn bo D (rS stop e k) (rJ stop e k))), S k]
theorem hcall_of {P : Program} {f : FuncId} {T : Array Value} {ps : Array Tmp} {asn bo : Code} {D yy : Nat} {gf : FuncId} {args : Array Value} {I : PH} {S : Nat → PH} {stop N : Nat} (e : Code) (hdom : ∀ k b, S 0 b = none → S k b = none)
    (h : (∀ k, S k yy = none) → DoesI P gf args I [rP f T ps asn bo D yy S stop e 0] fun _ _ qs => qs = [rP f T ps asn bo D yy S stop e N]) :
    DoesI P gf args I (sg yy (.loop (lpR f T ps asn bo D .ready none)) :: [S 0]) fun _ _ qs => ∃ st j S2, st ≠ LoopState.busy ∧ qs = sg yy (.loop (lpR f T ps asn bo D st j)) :: S2 ∧ (S2 = [S N] ∧ j = rJ stop e N) := fun hd => by
  have hf : ∀ k, S k yy = none := fun k => hdom k yy (sg_fresh hd)
  have h := h hf
  rw [rP, rS_le (Nat.zero_le _), rJ_le (Nat.zero_le _)] at h
  exact (DoesI.split h fun v I2 qs _ hq => ⟨[sg yy (.loop (lpR f T ps asn bo D (rS stop e N) (rJ stop e N))), S N], hq, sg_dj (hf N), _, _, _, rS_nb stop N e, rfl, rfl, rfl⟩) hd
theorem yc2_of {f : FuncId} {T : Array Value} {ps : Array Tmp} {asn bo : Code} {D yy : Nat} {S : Nat → PH} {stop : Nat} {e : Code} {W : List (List Nat × Nd)} {I0 : PH} (hf : ∀ k, S k yy = none)
    (h : ∀ {J : PH} {k : Nat} {p : List Nat} {n : Nd} {vp : Value} {cx : List Value}, I0.le J → k ≤ stop → W[k]? = some (p, n) → SlA J vp p → NdR J cx n → YldI Tryz.prog yy #[vp, .agg cx.toArray] J (sg yy (.loop (lpR f T ps asn bo D .ready none)) :: [S k]) fun r _ qs => r = .bool (decide (k ≠ stop)) ∧ qs = sg yy (.loop (lpR f T ps asn bo D (endS (rJ stop e (k + 1))) (rJ stop e (k + 1)))) :: [S (k + 1)]) :
    YC2 yy (rP f T ps asn bo D yy S stop e) stop W I0 := fun {J k p n vp cx} h0 hk hw hp hn => by
  have h1 := YldI.join (sg_dj (hf k)) (h h0 hk hw hp hn)
  rw [rP, rS_le hk, rJ_le hk]
  intro hd
  exact (h1 hd).imp fun v H2 ⟨I2, qs, e1, d, l, rs, e2, e3, e4⟩ => ⟨I2, qs, e1, d, l, e3, by rw [e2, e4, endS_rJ]; rfl⟩
theorem walk1_y {y : Nat} {S : Nat → PH} {stop : Nat} {I : PH} {tb : Nat} {ka da : Option Addr} {kc dn' dc : Nat} {l : List Nd} (hY : YC1 y S stop (wkL [] 0 l) I) (hdom : ∀ k b, S 0 b = none → S k b = none) (hb : Cells I tb 0 [.slice ka l.length kc, .slice da dn' dc]) (hS : SlN I (.slice ka l.length kc) l) (hC : CapN (.slice ka l.length kc)) (hz : szL l < 2 ^ 30) (hpl : ∀ x ∈ wkL [] 0 l, x.1.length < 2 ^ 40 ∧ szL x.2.kids < 2 ^ 36) :
    DoesI Tryz.prog 102 #[.func (.yield y) #[] #[], pt tb] I [S 0] fun _ _ qs => qs = [S (finW stop (szL l))] := by
  intro hd
  refine Does_ofD Tryz.func102 rfl (by simp [Tryz.ntmps102]) fun w0 => ?_
  simp only [Tryz.ntmps102, pt]
  (refine RC_go 3 ?_; simp only [go_sem])
  refine RC_pubI 2 hd rfl fun qb hd2 => ?_
  refine RC_freeze hd2 fun I2 hd3 hle2 hq2 => ?_
  have hqb : Cells I2 qb 0 [.func (.yield y) #[] #[]] := (cells_sg (by simp) rfl : Cells (sg qb (.cells [Value.func (.yield y) #[] #[]].toArray 192 (0, 0))) qb 0 [.func (.yield y) #[] #[]]).le hq2
  have hb := hb.le hle2
  (refine RG ?_; simp only [go_sem, pubT, List.map, pt])
  refine RC_load (l := [.slice ka l.length kc, .slice da dn' dc]) (v := .agg #[.slice ka l.length kc, .slice da dn' dc]) rfl rfl rfl (cellsU hd3 (.head _) (by simpa using hb)) (.inl ⟨ag36, rfl⟩) ?_
  (refine RG ?_; simp only [go_sem, pt])
  refine RC_callI hd3 [0] rfl rfl rfl rfl goes81 (by rfl) (ps := []) (F := [S 0]) rfl (all_it) fun v I3 qs hd4 hle3 hq => ?_
  obtain ⟨rfl, cb, rfl, hcb⟩ := hq
  simp only [Z3] at hd4 ⊢
  (refine RG ?_; simp only [go_sem, pt])
  refine RC_range hd4 [0] rfl rfl goes141 (by rfl) (S0 := [S 0]) (Fr := []) rfl (Ψ := fun j _ S2 => S2 = [S (finW stop (szL l))] ∧ j = rJ stop .ret (finW stop (szL l))) (fun yy D T hT => hcall_of .ret hdom fun hf => all1_y (yc2_of hf fun {J k p n vp cx} hJ hks hw hp hn => ?_) (PH.le_refl _) (hcb) (SlN.le hS (PH.le_trans hle2 hle3)) hC (by omega)) (fun j I4 S2 hd5 hle4 ⟨e1, e2⟩ => ?_)
  · have hkt : KnT (dn 16 [(2, .v (.pointer (some ⟨qb, 0, none⟩)))]) T := KnT.sub (by rw [unP_dn]; exact subT_dn (by simp only [List.map, unP, SubA, getA]; simp)) hT
    refine YldI_round Tryz.func102 rfl hkt fun w1 hd5 => ?_
    simp only [setPs, setT_dn, List.zip_cons_cons, List.zip_nil_right]
    obtain ⟨vk, na, nk, ec, hrep, hkids, hcap⟩ := hn.shape
    subst ec
    obtain ⟨ma, mc, rfl, _⟩ := id hkids
    (refine RG ?_; simp only [go_sem, iv, sD, rD])
    refine RC_begin rfl hd5 fun hd6 => ?_
    (refine RG ?_; simp only [go_sem, iv, sD, rD])
    refine R_drawnJ mixed [0, 1, 3, 2, 4, 5, 6] [] [] [0] [2, 4] J rfl rfl ?_
    (refine RD_go ?_; simp only [go_sem])
    refine RD_loadJ (l := [.func (.yield y) #[] #[]]) rfl (le_first hd6) rfl rfl rfl (hqb.le (PH.le_trans hle3 hJ)) (.inr ⟨ag192, rfl⟩) ?_
    (refine RD_go ?_; simp only [go_sem])
    obtain ⟨px1, px2⟩ := hpl _ (List.mem_of_getElem? hw)
    refine RD_callI hd6 [0, 1] rfl (fun _ => PH.le_refl _) rfl rfl rfl rfl goes103 (by rfl) (ps := []) (F := [_, _]) rfl (cloneA_c hp (by simp only at px1; omega)) fun v1 I4 qs hd7 hle4 hq => ?_
    obtain ⟨A4, rfl, hA4⟩ := hq
    simp only [Z3] at hd7 ⊢
    obtain ⟨ua, uc, rfl⟩ := hA4.shape
    (refine RD_go ?_; simp only [go_sem, iv, sD, rD])
    refine RD_callI hd7 [0, 1, 2] rfl (fun _ => hle4) rfl rfl rfl rfl goes104 (by rfl) (ps := []) (F := [_, _, _]) rfl (copied_c (szL n.kids + 1) (by omega) (hn.le hle4) px2) fun v2 I5 qs hd8 hle5 hq => ?_
    obtain ⟨rfl, cy, rfl, hcy⟩ := hq
    simp only [Z3] at hd8 ⊢
    have hcy0 := hcy
    obtain ⟨zk, za, zc, rfl, hzr, hzk, hzc⟩ := hcy.shape
    obtain ⟨ga, gc, rfl, _⟩ := id hzk
    (refine RD_go ?_; simp only [go_sem, iv, sD, rD])
    refine RD_yieldI hd8 [0, 2, 1] rfl (fun h => by cases h) rfl rfl rfl rfl (by rfl) (ps := [A4, S k]) (F := [_]) rfl (hY (PH.le_trans hle2 (PH.le_trans hle3 (PH.le_trans hJ (PH.le_trans hle4 hle5)))) hks hw (OwA.le hA4 hle5) hcy0) fun v3 I6 qs hd9 hle6 hq => ?_
    obtain ⟨rfl, A6, rfl⟩ := hq
    simp only [Z3] at hd9 ⊢
    have k46 := PH.le_trans hle4 (PH.le_trans hle5 hle6)
    by_cases hk : k = stop
    · subst hk
      rw [show decide (k ≠ k) = false by simp]
      (refine RD_go ?_; simp only [go_sem])
      refine RD_nil ?_
      (refine RC_parts hd9 [0, 1, 2] rfl fun hd10 => ?_; simp only [Z4] at hd10 ⊢)
      refine RC_freeze (c := .st _) hd10 fun I7 hd10 hle7 hA7 => ?_
      (refine RC_parts hd10 [1, 0] rfl fun hd11 => ?_; simp only [Z4] at hd11 ⊢)
      (refine RG ?_; simp only [go_sem])
      refine RC_rend (some .ret) rfl ⟨_, rfl, .inl rfl⟩ ⟨I7, [S (k + 1)], rfl, hd11, PH.le_trans k46 hle7, by simp, ?_⟩
      rw [rJ_gt]
    · rw [show decide (k ≠ stop) = true from decide_eq_true hk]
      (refine RD_go ?_; simp only [go_sem])
      refine RD_nil ?_
      (refine RC_parts hd9 [0, 1, 2] rfl fun hd10 => ?_; simp only [Z4] at hd10 ⊢)
      refine RC_freeze (c := .st _) hd10 fun I7 hd10 hle7 hA7 => ?_
      (refine RC_parts hd10 [1, 0] rfl fun hd11 => ?_; simp only [Z4] at hd11 ⊢)
      (refine RG ?_; simp only [go_sem])
      refine RC_rend none rfl rfl ⟨I7, [S (k + 1)], rfl, hd11, PH.le_trans k46 hle7, by simp [hk], ?_⟩
      rw [rJ_le (by omega)]
  · subst e1
    subst e2
    have hle := PH.le_trans hle2 (PH.le_trans hle3 hle4)
    simp only [List.append_nil] at hd5 ⊢
    unfold rJ
    split
    · simp only [Option.map_none, Option.toList_none, List.nil_append]
      (refine RG ?_; simp only [go_sem])
      exact R_end_I rfl hd5 (r := []) rfl hle rfl
    · simp only [Option.map_some, Option.toList_some, List.cons_append, List.nil_append]
      (refine RG ?_; simp only [go_sem])
      exact R_ret_I rfl hd5 (r := []) rfl hle rfl
end Go.Proofs.YtfaclfkpnmcmlaaGreatDoor
end
section
namespace Go.Proofs.YtfaclfkpnmcmlaaGreatDoor
open Go Go.Sx Dg Syn
theorem node_r {W : PH → Value → T → Prop} {u : Nat} (hW : WOk W u) {d : Nat} {I : PH} {cx cy : List Value} {n : Nd} (hz : szL n.kids < 2 ^ 36) (hx : NdR I cx n) (hy : NgRn W d I cy n) : DoesI Tryz.prog 31 #[.agg cx.toArray, .agg cy.toArray, .int .u32 u] I [] fun r _ qs => qs = [] ∧ r = .bool true := by
  intro hd
  obtain ⟨vk, xa, xk, rfl, hxr, hxk, _⟩ := hx.shape
  cases d with
  | zero => exact hy.elim
  | succ d =>
  obtain ⟨wk, w, rfl, hw, hyk⟩ := hy
  obtain ⟨ka, kc, rfl, _⟩ := id hxk
  obtain ⟨la, lc, rfl, _⟩ := id hyk
  obtain ⟨wa, wn, wc, rfl⟩ := hW.sh hw
  refine Does_ofD Tryz.func31 rfl (by simp [Tryz.ntmps31]) fun w0 => ?_
  simp only [Tryz.ntmps31, iv, sD, rD]
  (refine RG ?_; simp only [go_sem, iv, sD, rD, beq_self_eq_true])
  refine RC_callI hd [] rfl rfl rfl rfl goes58 (by rfl) (ps := []) (F := []) rfl (hW.al hxr hw) fun v J2 qs hd2 hle2 hq => ?_
  obtain ⟨rfl, rfl⟩ := hq
  simp only [Z3] at hd2 ⊢
  (refine RG ?_; simp only [go_sem, iv, sD, rD])
  refine RC_callI hd2 [] rfl rfl rfl rfl goes72 (by rfl) (ps := []) (F := []) rfl (nodes_r hW (szL n.kids + 1) d (by omega) (by unfold maxL; omega) (SlN.le hxk hle2) (Sl.le (R := NgRn W d) (fun {I J c a} h k => NgRn.le hW h k) hyk hle2)) fun v J3 qs hd3 hle3 hq => ?_
  obtain ⟨rfl, rfl⟩ := hq
  simp only [Z3] at hd3 ⊢
  (refine RG ?_; simp only [go_sem, iv])
  exact R_ret_I rfl hd3 (r := [_]) rfl (PH.le_trans hle2 hle3) ⟨rfl, rfl⟩
theorem RC_neBo {C : Cx} {ol rem : List Oper} {k : List Item} {σ : St} {H : PH} {o : Oper} {T T2 : TypeId} {x y : Operand} {a b : Bool} (hw : wantedS ol σ o = some true) (hop : o.op = .binOp .neq T x y T2) (hx : ev σ x = .v (.bool a)) (hy : ev σ y = .v (.bool b)) (hu : C.P.underlying T = some .bool) (h : RC C (.op ol rem k) (σ.put o.dst (.v (.bool (!(a == b))))) H) : RC C (.op ol (o :: rem) k) σ H := by
  refine RC_read (.bool (!(a == b))) hw (by simp [knownS, hop, noSel, Op.operands, hx, hy, isV]) (fun w _ => ?_) h
  simp [execOp, hop, cenv, hx, hy, Sem.run_bind, eqGuard, run_neq_bool w T a b hu, Result.andThen]
theorem wk_at : ∀ (m : Nat) (l0 : List Nd) (q : List Nat) (l : List Nd) (j : Nat) {p : List Nat} {n : Nd}, szL l < m → (∀ i, l[i]? = l0[j + i]?) → (p, n) ∈ wkL q j l → (∃ r, p = q ++ r ∧ r ≠ [] ∧ atW l0 (r.map Int.ofNat) = some n) ∧ p.length ≤ q.length + szL l ∧ szL n.kids < szL l := by
  intro m
  induction m with
  | zero => intro l0 q l j p n h; omega
  | succ m ih =>
  intro l0 q l j p n hm hl h
  cases l with
  | nil => rw [wkL] at h; cases h
  | cons x l =>
    rw [szL_cons] at hm ⊢
    rw [wkL, wkN_eq, List.cons_append, List.mem_cons, List.mem_append] at h
    have hx : l0[j]? = some x := by have := hl 0; rw [Nat.add_zero] at this; rw [← this]; rfl
    have hjl := (List.getElem?_eq_some_iff.1 hx).1
    have hat : ∀ ps, atW l0 (Int.ofNat j :: ps) = restW atW (some x) x.kids ps := fun ps => atW_in (by simp) (by simp; omega) (by simpa using hx)
    rcases h with h | h | h
    · cases h
      exact ⟨⟨[j], rfl, by simp, hat []⟩, by simp only [List.length_append, List.length_cons, List.length_nil]; omega, by omega⟩
    · obtain ⟨⟨r, rfl, hr, hn⟩, h2, h3⟩ := ih x.kids (q ++ [j]) x.kids 0 (by omega) (fun i => by rw [Nat.zero_add]) h
      refine ⟨⟨j :: r, by rw [List.append_assoc]; rfl, by simp, ?_⟩, by simp only [List.length_append, List.length_cons, List.length_nil] at h2 ⊢; omega, by omega⟩
      rw [List.map_cons, hat]
      cases r with
      | nil => exact absurd rfl hr
      | cons y r => exact hn
    · obtain ⟨h1, h2, h3⟩ := ih l0 q l (j + 1) (by omega) (fun i => by have := hl (i + 1); rw [List.getElem?_cons_succ] at this; rw [this]; congr 1; omega) h
      exact ⟨h1, by omega, by omega⟩
theorem rP_dom {f : FuncId} {T : Array Value} {ps : Array Tmp} {asn bo : Code} {D yy : Nat} {S : Nat → PH} {stop : Nat} {e : Code} (hdom : ∀ k b, S 0 b = none → S k b = none) : ∀ k b, rP f T ps asn bo D yy S stop e 0 b = none → rP f T ps asn bo D yy S stop e k b = none := fun k b h => by
  unfold rP at h ⊢
  rw [U_none] at h ⊢
  intro A hA
  rcases List.mem_cons.1 hA with rfl | hA
  · have := h _ (.head _)
    unfold sg at this ⊢
    split at this
    · cases this
    · rename_i hb; rw [if_neg hb]
  · rw [List.mem_singleton] at hA; subst hA
    exact hdom k b (h _ (.tail _ (.head _)))
theorem yc1_of {f : FuncId} {T : Array Value} {ps : Array Tmp} {asn bo : Code} {D yy : Nat} {S : Nat → PH} {stop : Nat} {e : Code} {W : List (List Nat × Nd)} {I0 : PH} (hf : ∀ k, S k yy = none)
    (h : ∀ {J A : PH} {k : Nat} {p : List Nat} {n : Nd} {vp : Value} {cx : List Value}, I0.le J → k ≤ stop → W[k]? = some (p, n) → OwA J A vp p → NdR J cx n → YldI Tryz.prog yy #[vp, .agg cx.toArray] J (sg yy (.loop (lpR f T ps asn bo D .ready none)) :: [A, S k]) fun r _ qs => r = .bool (decide (k ≠ stop)) ∧ ∃ A2, qs = sg yy (.loop (lpR f T ps asn bo D (endS (rJ stop e (k + 1))) (rJ stop e (k + 1)))) :: [A2, S (k + 1)]) :
    YC1 yy (rP f T ps asn bo D yy S stop e) stop W I0 := fun {J A k p n vp cx} h0 hk hw hp hn => by
  have h1 := YldI.perm (ps' := A :: [sg yy (.loop (lpR f T ps asn bo D .ready none)), S k]) (Ψ' := fun r _ qs => ∃ A2 rs, qs = A2 :: rs ∧ (r = .bool (decide (k ≠ stop)) ∧ rs = [sg yy (.loop (lpR f T ps asn bo D (endS (rJ stop e (k + 1))) (rJ stop e (k + 1)))), S (k + 1)])) (List.Perm.swap _ _ _) (h h0 hk hw hp hn) fun v I2 qs ⟨e1, A2, e2⟩ => by
    subst e2
    exact ⟨_, List.Perm.swap _ _ _, A2, _, rfl, e1, rfl⟩
  have h2 := YldI.join1 (sg_dj (hf k)) h1
  rw [rP, rS_le hk, rJ_le hk]
  intro hd
  exact (h2 hd).imp fun v H2 ⟨I2, qs, e1, d, l, A2, rs, e2, e3, e4⟩ => ⟨I2, qs, e1, d, l, e3, A2, by rw [e2, e4, endS_rJ]; rfl⟩
theorem TgR.le {u : Nat} (hu : u < 2 ^ 32) (hp : pop u 32 ≤ 8) {I J : PH} {v : Value} {t : Syn.Tr} (h : TgR (ThW u) I v t) (k : I.le J) : TgR (ThW u) J v t := by
  obtain ⟨vk, vd, d, e, h1, h2⟩ := h
  exact ⟨vk, vd, d, e, SlG.le hu hp h1 k, Sl.le (R := DgrR (ThW u)) (fun {I J c a} h k => DgrR.le hu hp h k) h2 k⟩
def nS (nb k : Nat) : PH := sg nb (.cells #[iv k] 3 (0, 0))
theorem nS_dom (nb : Nat) : ∀ k b, nS nb 0 b = none → nS nb k b = none := fun k b h => by
  unfold nS sg at h ⊢
  split at h
  · cases h
  · rename_i hb; rw [if_neg hb]
theorem nS_cell (nb k : Nat) : Cells (nS nb k) nb 0 [iv k] := cells_sg (by simp) rfl
end Go.Proofs.YtfaclfkpnmcmlaaGreatDoor
end
section
namespace Go.Ke
open Go Go.Sx
 noncomputable def rest (I H : PH) : PH := fun b => match I b with | some _ => none | none => H b
theorem rest_disj (I H : PH) : I.disj (rest I H) := fun b => by
  unfold rest; cases I b <;> simp
theorem uni_rest {I H : PH} (h : I.le H) : I.uni (rest I H) = H := by
  funext b; unfold PH.uni rest
  cases hb : I b with
  | none => rfl
  | some o => exact (h b o hb).symm
theorem frame_ke {X : Ctx} {e : Env} {M : LM} {I H : PH} (hR : Rel X e M I H) {f : FuncId} {args : Array Value} {Φ : Value → PH → Prop} (h : DoesI X.P f args I [] fun r I2 qs => qs = [] ∧ Φ r I2) :
    Does X.P f args H fun r H2 => ∃ I2, I.le I2 ∧ Φ r I2 ∧ Rel X e M I2 H2 := by
  have hd : Dj (I :: [] ++ [rest I H]) := List.pairwise_cons.2 ⟨fun B hB => by
    have hB2 : B ∈ [rest I H] := hB
    rw [List.mem_singleton] at hB2; subst hB2; exact rest_disj I H, List.pairwise_singleton _ _⟩
  have e1 : U (I :: [] ++ [rest I H]) = H := by
    show I.uni ((rest I H).uni PH.no) = H
    rw [PH.uni_no, uni_rest hR.le]
  have := h.frame hd
  rw [e1] at this
  refine this.mono fun r H2 ⟨I2, qs, q1, q2, q3, q4, q5⟩ => ?_
  subst q4
  have e2 : H2 = I2.uni (rest I H) := by
    rw [q1]; show I2.uni ((rest I H).uni PH.no) = _; rw [PH.uni_no]
  have hdis : I2.disj (rest I H) := (List.pairwise_cons.1 q2).1 _ (by simp)
  have hle2 : I2.le H2 := by rw [e2]; exact PH.le_uni _ _
  have priv : ∀ b, I b = none → H b ≠ none → I2 b = none ∧ H2 b = H b := by
    intro b h1 h2
    have hr : rest I H b = H b := by unfold rest; rw [h1]
    have h3 : I2 b = none := by
      rcases hdis b with h | h
      · exact h
      · rw [hr] at h; exact absurd h h2
    exact ⟨h3, by rw [e2]; unfold PH.uni; rw [h3]; exact hr⟩
  have keep : ∀ b o, H b = some o → H2 b = some o := by
    intro b o hb
    cases hI : I b with
    | none => rw [(priv b hI (by rw [hb]; simp)).2]; exact hb
    | some o' =>
      have := hR.le b o' hI
      rw [hb] at this; cases this
      exact hle2 b o (q3 b o hI)
  refine ⟨I2, q3, q5, hle2, hR.inj, fun id o hid => ?_⟩
  have ho := hR.ob id o hid
  cases o with
  | cells c ty gr =>
    obtain ⟨b, x, cs, post, h1, h2, h3, h4, h5⟩ := ho
    obtain ⟨p1, p2⟩ := priv b h2 (by rw [h3]; simp)
    exact ⟨b, x, cs, post, h1, p1, by rw [p2]; exact h3, h4, h5⟩
  | ro c =>
    obtain ⟨b, x, cs, post, ty, fz, h1, h2, h3⟩ := ho
    exact ⟨b, x, cs, post, ty, fz, h1, keep b _ h2, h3⟩
  | map es kt =>
    obtain ⟨b, h1, h2, h3, h4⟩ := ho
    have hne : H b ≠ none := by
      obtain ⟨_, _, h, _⟩ := h3; rw [h]; simp
    obtain ⟨p1, p2⟩ := priv b h2 hne
    exact ⟨b, h1, p1, h3.of_eq p2, h4⟩
  | dia t =>
    obtain ⟨a, b, h1, h2, h3⟩ := ho
    exact ⟨a, b, h1, X.mono h2 q3, h3⟩
  | dead => trivial
end Go.Ke
end
section
namespace Go.Proofs.YtfaclfkpnmcmlaaGreatDoor
open Go Go.Sx Go.Ke Dg Syn
theorem keyed240 {kt : TypeId} (h : (fun k : TypeId => k == 240) kt = true) : Maps.Keyed Tryz.prog kt := by
  have : kt = 240 := eq_of_beq h
  subst this; exact K240
 noncomputable def XKf (Q : Program) (ok : ∀ {kt : TypeId}, (fun k : TypeId => k == 240) kt = true → Maps.Keyed Q kt) : Ctx := ⟨Q, fun I a b t => RepD I (.agg #[a, b]) t, fun h k => RepD.le h k, fun k => k == 240, fun h => ok h⟩
theorem cubeRk_ne (on off : Nat) : ∀ n, cubeRk on off n ≠ .lf false
  | 0 => by simp [cubeRk]
  | n + 1 => by
    unfold cubeRk
    split
    · simp
    · split
      · simp
      · exact cubeRk_ne on off n
theorem cubeRk_eq (on off : Nat) : ∀ n, cubeRk on off n = cubeR on off n
  | 0 => rfl
  | n + 1 => by
    have h := cubeRk_ne on off n
    unfold cubeRk cubeR
    rw [← cubeRk_eq on off n]
    have h' : ¬ (T.lf false = cubeRk on off n) := fun e => h e.symm
    simp only [T.mk, if_neg h, if_neg h']
theorem cubeK_eq (on off : Nat) : cubeK on off = cubeT on off := by unfold cubeK cubeT; rw [cubeRk_eq]
theorem dOf_ok {e : Env} {M : LM} {I H : PH} {s : KS} {a : LV} {t : T} {y : Value} (hM : HasX [] M s.L) (hR : Rel (XKf Tryz.prog keyed240) e M I H) (h : dOf s a = some t) (hv : VR e a y) : RepD I y t := by
  unfold dOf at h
  split at h
  · rename_i i j
    split at h
    · rename_i hij
      subst hij
      split at h
      · rename_i t' hg
        cases h
        simp only [VR, VRs] at hv
        obtain ⟨cs, rfl, y1, ys, rfl, ⟨b1, _, _, _, h1, _⟩, y2, ys2, rfl, ⟨a2, _, _, h2, _⟩, rfl⟩ := hv
        rw [h1] at h2; cases h2
        obtain ⟨a, b, g1, g2, _⟩ := hR.ob i _ (hM i _ hg List.not_mem_nil)
        rw [h1] at g1; cases g1
        exact g2
      · cases h
    · cases h
  · cases h
    simp only [VR, VRs] at hv
    obtain ⟨cs, rfl, y1, ys, rfl, rfl, y2, ys2, rfl, rfl, rfl⟩ := hv
    exact rep_lf I false
  · cases h
    simp only [VR, VRs] at hv
    obtain ⟨cs, rfl, y1, ys, rfl, rfl, y2, ys2, rfl, rfl, rfl⟩ := hv
    exact rep_lf I true
  · cases h
theorem ovl_same (M : LM) (c : Nat) (L : Ke.Tr LO) : ovl M [] c c L = M := by
  funext id; unfold ovl; rw [if_neg (by simp)]
theorem rel_dia {e : Env} {M : LM} {I H : PH} {c : Nat} {a b : Value} {t : T} (h : Rel (XKf Tryz.prog keyed240) e M I H) (he : e c = none) (hM : M c = none) (hr : RepD I (.agg #[a, b]) t) : Rel (XKf Tryz.prog keyed240) (e.up c (.dia a b)) (M.up c (.dia t)) I H := by
  obtain ⟨a', k', e1⟩ := hr.shape
  simp only [Value.agg.injEq] at e1
  have e2 := congrArg Array.toList e1
  simp only [List.cons.injEq, and_true] at e2
  obtain ⟨rfl, rfl⟩ := e2
  refine ⟨h.le, fun i j oi oj b' y z hi hj hli hlj hbi hbj => ?_, fun j o hj => ?_⟩
  · by_cases ei : i = c
    · subst ei; rw [LM.up_self] at hi; cases hi; cases hli
    · by_cases ej : j = c
      · subst ej; rw [LM.up_self] at hj; cases hj; cases hlj
      · rw [LM.up_other ei] at hi; rw [LM.up_other ej] at hj
        rw [Env.up_other ei] at hbi; rw [Env.up_other ej] at hbj
        exact h.inj i j oi oj b' y z hi hj hli hlj hbi hbj
  · by_cases ej : j = c
    · subst ej; rw [LM.up_self] at hj; cases hj
      exact ⟨_, _, Env.up_self _ _ _, hr, ⟨_, _, _, rfl⟩, ⟨_, _, rfl⟩⟩
    · rw [LM.up_other ej] at hj
      exact (h.ob j o hj).keep (Env.le_up he) fun _ _ _ _ => rfl
theorem hook_new {f : FuncId} {args : List Value} {s : KS} {t : T} {v : LV} {s' : KS} {ws : List Nat} (hr : newD s t = some (v, s', ws)) {M : LM} {e : Env} {I H : PH} (hM : HasX [] M s.L) (hN : ∀ id, s.c ≤ id → s.L.get id = none) (hF : Fresh M e s.c s'.c) (hR : Rel (XKf Tryz.prog keyed240) e M I H)
    (h : DoesI Tryz.prog f args.toArray I [] fun r I2 qs => qs = [] ∧ RepD I2 r t) :
    Does (XKf Tryz.prog keyed240).P f args.toArray H fun y H2 => ∃ e2 I2, e.le e2 ∧ (∀ id, ¬ (s.c ≤ id ∧ id < s'.c) → e2 id = e id) ∧ VR e2 v y ∧ Rel (XKf Tryz.prog keyed240) e2 (ovl M ws s.c s'.c s'.L) I2 H2 ∧ I.le I2 := by
  unfold newD at hr
  split at hr
  · rename_i L hL
    cases hr
    obtain ⟨f1, f2⟩ := hF s.c (Nat.le_refl _) (Nat.lt_succ_self _)
    refine (frame_ke (X := (XKf Tryz.prog keyed240)) hR h).mono fun y H2 ⟨I2, h1, h2, h3⟩ => ?_
    obtain ⟨a, k, rfl⟩ := h2.shape
    refine ⟨e.up s.c (.dia (.slice a (T.subs t).length k) (iv (T.plc (T.subs t) t))), I2, Env.le_up f2, fun id hid => Env.up_other fun e => hid (by subst e; exact ⟨Nat.le_refl _, Nat.lt_succ_self _⟩), ?_, ?_, h1⟩
    · simp only [VR, VRs]
      exact ⟨_, rfl, _, _, rfl, ⟨_, _, _, _, Env.up_self _ _ _, rfl⟩, _, _, rfl, ⟨_, _, _, Env.up_self _ _ _, rfl⟩, rfl⟩
    · have : ovl M [] s.c (s.c + 1) L = M.up s.c (.dia t) := by
        funext id
        unfold ovl LM.up
        by_cases hid : id = s.c
        · subst hid
          rw [if_pos (.inr ⟨Nat.le_refl _, Nat.lt_succ_self _⟩), if_pos rfl, Tr.get_put hL, if_pos rfl]
        · rw [if_neg hid, if_neg (fun h => h.elim (fun h => by cases h) fun ⟨h1, h2⟩ => hid (Nat.le_antisymm (Nat.le_of_lt_succ h2) h1))]
      show Rel (XKf Tryz.prog keyed240) _ (ovl M [] s.c (s.c + 1) L) I2 H2
      rw [this]
      exact rel_dia h3 f2 f1 h2
  · cases hr
theorem hook_bl {f : FuncId} {args : List Value} {s : KS} {b : Bool} {v : LV} {s' : KS} {ws : List Nat} (hr : bl s b = some (v, s', ws)) {M : LM} {e : Env} {I H : PH} (hR : Rel (XKf Tryz.prog keyed240) e M I H)
    (h : Does Tryz.prog f args.toArray H fun r H2 => r = .bool b ∧ H2 = H) :
    Does (XKf Tryz.prog keyed240).P f args.toArray H fun y H2 => ∃ e2 I2, e.le e2 ∧ (∀ id, ¬ (s.c ≤ id ∧ id < s'.c) → e2 id = e id) ∧ VR e2 v y ∧ Rel (XKf Tryz.prog keyed240) e2 (ovl M ws s.c s'.c s'.L) I2 H2 ∧ I.le I2 := by
  cases hr
  refine Does.mono h fun y H2 ⟨h1, h2⟩ => ?_
  subst h1; subst h2
  exact ⟨e, I, Env.le_refl e, fun _ _ => rfl, by simp only [VR], by rw [ovl_same]; exact hR, PH.le_refl I⟩
theorem u32K_ok {a : Int} (h : u32K a = true) : a = (a.toNat : Int) ∧ a.toNat < 2 ^ 32 := by
  have := of_decide_eq_true h
  omega
theorem goes69k : Goes Tryz.prog 69 := ⟨_, Tryz.func69, rfl, rfl⟩
 noncomputable def HK (s : KS) (f : FuncId) (args : List LV) (r : LV × KS × List Nat) : Prop :=
  Goes Tryz.prog f ∧ ((∃ t, newD s t = some r ∧ ∀ {e : Env} {M : LM} {I H : PH} {args' : List Value}, HasX [] M s.L → Rel (XKf Tryz.prog keyed240) e M I H → VRs e args args' → DoesI Tryz.prog f args'.toArray I [] fun r I2 qs => qs = [] ∧ RepD I2 r t) ∨
    (∃ b, bl s b = some r ∧ ∀ {e : Env} {M : LM} {I H : PH} {args' : List Value}, HasX [] M s.L → Rel (XKf Tryz.prog keyed240) e M I H → VRs e args args' → Does Tryz.prog f args'.toArray H fun r H2 => r = .bool b ∧ H2 = H))
theorem hookD_inv {f : FuncId} {args : List LV} {s : KS} {r : LV × KS × List Nat} (h : hookD f args s = some r) : HK s f args r := by
  unfold hookD at h
  split at h
  · rename_i a b
    split at h
    · rename_i hu
      rw [Bool.and_eq_true] at hu
      obtain ⟨a1, a2⟩ := u32K_ok hu.1
      obtain ⟨b1, b2⟩ := u32K_ok hu.2
      refine ⟨goes69k, .inl ⟨_, h, fun {e M I H args'} hM hR hv => ?_⟩⟩
      simp only [VRs, VR] at hv
      obtain ⟨y1, ys, rfl, rfl, y2, ys2, rfl, rfl, rfl⟩ := hv
      have := cube_c (I := I) a2 b2
      rw [← a1, ← b1, ← cubeK_eq] at this
      exact this
    · cases h
  · split at h
    · rename_i hx hy
      refine ⟨goes94, .inl ⟨_, h, fun {e M I H args'} hM hR hv => ?_⟩⟩
      simp only [VRs] at hv
      obtain ⟨y1, ys, rfl, v1, y2, ys2, rfl, v2, rfl⟩ := hv
      exact and_c (dOf_ok hM hR hx v1) (dOf_ok hM hR hy v2)
    · cases h
  · split at h
    · rename_i hx hy
      refine ⟨goes39, .inl ⟨_, h, fun {e M I H args'} hM hR hv => ?_⟩⟩
      simp only [VRs] at hv
      obtain ⟨y1, ys, rfl, v1, y2, ys2, rfl, v2, rfl⟩ := hv
      exact or_c (dOf_ok hM hR hx v1) (dOf_ok hM hR hy v2)
    · cases h
  · split at h
    · rename_i hx
      refine ⟨goes71, .inl ⟨_, h, fun {e M I H args'} hM hR hv => ?_⟩⟩
      simp only [VRs] at hv
      obtain ⟨y1, ys, rfl, v1, rfl⟩ := hv
      exact not_c (dOf_ok hM hR hx v1)
    · cases h
  · refine ⟨goes27, .inl ⟨_, h, fun {e M I H args'} hM hR hv => ?_⟩⟩
    simp only [VRs] at hv
    subst hv
    exact Does.toI ((true_d I).mono fun v H2 ⟨h1, h2⟩ => by subst h1; subst h2; exact ⟨PH.le_refl _, rep_lf _ true⟩)
  · refine ⟨goes80, .inl ⟨_, h, fun {e M I H args'} hM hR hv => ?_⟩⟩
    simp only [VRs] at hv
    subst hv
    exact Does.toI ((false_d I).mono fun v H2 ⟨h1, h2⟩ => by subst h1; subst h2; exact ⟨PH.le_refl _, rep_lf _ false⟩)
  · split at h
    · rename_i hx
      refine ⟨goes50, .inr ⟨_, h, fun {e M I H args'} hM hR hv => ?_⟩⟩
      simp only [VRs] at hv
      obtain ⟨y1, ys, rfl, v1, rfl⟩ := hv
      exact empty_d (dOf_ok hM hR hx v1)
    · cases h
  · split at h
    · rename_i hx
      refine ⟨goes68, .inr ⟨_, h, fun {e M I H args'} hM hR hv => ?_⟩⟩
      simp only [VRs] at hv
      obtain ⟨y1, ys, rfl, v1, rfl⟩ := hv
      exact full_d (dOf_ok hM hR hx v1)
    · cases h
  · split at h
    · rename_i hu hx
      obtain ⟨a1, a2⟩ := u32K_ok hu
      refine ⟨goes36, .inr ⟨_, h, fun {e M I H args'} hM hR hv => ?_⟩⟩
      simp only [VRs, VR] at hv
      obtain ⟨y1, ys, rfl, v1, y2, ys2, rfl, rfl, rfl⟩ := hv
      have := has_c (RepD.le (dOf_ok hM hR hx v1) hR.le) a2
      rw [← a1] at this
      exact this
    · cases h
  · split at h
    · rename_i x y hx hy
      refine ⟨goes53, .inr ⟨_, h, fun {e M I H args'} hM hR hv => ?_⟩⟩
      simp only [VRs] at hv
      obtain ⟨y1, ys, rfl, v1, y2, ys2, rfl, v2, rfl⟩ := hv
      have r1 := RepD.le (dOf_ok hM hR hx v1) hR.le
      have r2 := RepD.le (dOf_ok hM hR hy v2) hR.le
      by_cases e1 : x = y
      · subst e1
        rw [decide_eq_true rfl]
        exact same_d r1 r2
      · rw [decide_eq_false e1]
        refine (sameB_d r1 r2).mono fun v H2 ⟨⟨b, h1, h3⟩, h2⟩ => ⟨?_, h2⟩
        cases b
        · exact h1
        · exact absurd (h3 rfl) e1
    · cases h
  · cases h
theorem hook_ok : CallOk (XKf Tryz.prog keyed240) 6 hookD := by
  have kp : ∀ {s : KS} {t : T} {r : LV × KS × List Nat}, newD s t = some r → r.2.1.c = s.c + 1 ∧ r.2.2 = [] ∧ ∀ id, id ≠ s.c → r.2.1.L.get id = s.L.get id := by
    intro s t r h
    unfold newD at h
    split at h
    · rename_i L hL
      cases h
      exact ⟨rfl, rfl, fun id hid => by simp only [Tr.get_put hL, if_neg hid]⟩
    · cases h
  refine ⟨fun {f args s r} h => (hookD_inv h).1, fun {f args s v s' ws} h => ?_, fun {f args s v s' ws} h => ?_, fun {f args s v s' ws} h => ?_, fun {f args s v s' ws} h {M e I H args'} hM hN hF hG hR hv => ?_⟩
  · rcases (hookD_inv h).2 with ⟨t, h1, _⟩ | ⟨b, h1, _⟩
    · have := (kp h1).1; simp only at this; omega
    · cases h1; exact Nat.le_refl _
  · rcases (hookD_inv h).2 with ⟨t, h1, _⟩ | ⟨b, h1, _⟩
    · intro id _ h3
      have hc := (kp h1).1
      exact (kp h1).2.2 id fun e1 => h3 (by simp only at hc; omega)
    · cases h1; intro id _ _; rfl
  · rcases (hookD_inv h).2 with ⟨t, h1, _⟩ | ⟨b, h1, _⟩
    · intro id hid
      rw [show ws = [] from (kp h1).2.1] at hid; cases hid
    · cases h1; intro id hid; cases hid
  · rcases (hookD_inv h).2 with ⟨t, h1, h2⟩ | ⟨b, h1, h2⟩
    · exact hook_new h1 hM hN hF hR (h2 hM hR hv)
    · exact hook_bl h1 hR (h2 hM hR hv)
theorem L0_get (x y : Value) (id : Nat) : (L0 x y).get id = if id = 3 then some (.ro powK) else if id = 2 then some (.ro [.v y]) else if id = 1 then some (.ro [.v x]) else if id = 0 then some (.ro signK) else none := by
  unfold L0
  rw [Tr.get_set _ _ _ _ (by omega), Tr.get_set _ _ _ _ (by omega), Tr.get_set _ _ _ _ (by omega), Tr.get_set _ _ _ _ (by omega)]
  rfl
 noncomputable def e0 : Env := fun id => if id < 6 then some (.blk id 0) else none
theorem e0_s {id : Nat} {x : EV} (h : e0 id = some x) : id < 6 ∧ x = .blk id 0 := by
  unfold e0 at h
  split at h
  · cases h; exact ⟨by assumption, rfl⟩
  · cases h
theorem cells_ro {H : PH} {b : Nat} {l : List Value} (h : Cells H b 0 l) : ∃ post ty fz, H b = some (.cells (l ++ post).toArray ty fz) := by
  obtain ⟨cs, ty, fz, h1, h2, h3⟩ := h
  rw [List.drop_zero] at h3
  refine ⟨cs.toList.drop l.length, ty, fz, ?_⟩
  rw [h1]
  have : cs = (l ++ cs.toList.drop l.length).toArray := by
    apply Array.ext'
    rw [List.toList_toArray]
    conv => lhs; rw [← List.take_append_drop l.length cs.toList, h3]
  exact congrArg (fun z => some (Obj.cells z ty fz)) this
theorem pow_vr (e : Env) : VRs e powK (Lib.pow10Tab.map fun z => Value.int .u64 z) := by
  rw [show powK = (Lib.pow10Tab.map fun z => Value.int .u64 z).map LV.v by kernel_rfl]
  exact VRs.map_v e _
theorem sign_vr (e : Env) : VRs e signK signsV := by
  rw [show signK = signsV.map LV.v by kernel_rfl]
  exact VRs.map_v e _
theorem rel0 {I : PH} {te te2 : TypeId} {pe pe2 : Value} (h0 : SignsIn I) (h1 : Cells I 1 0 [.iface te pe]) (h2 : Cells I 2 0 [.iface te2 pe2]) (h3 : TabIn I) : Rel (XKf Tryz.prog keyed240) e0 (fun id => (L0 (.iface te pe) (.iface te2 pe2)).get id) I I := by
  refine ⟨PH.le_refl I, fun i j oi oj b x y _ _ _ _ h h' => ?_, fun id o ho => ?_⟩
  · obtain ⟨_, e1⟩ := e0_s h
    obtain ⟨_, e2⟩ := e0_s h'
    cases e1; cases e2; rfl
  · simp only [L0_get] at ho
    split at ho
    · subst_vars; cases ho
      obtain ⟨ty, fz, hb⟩ := h3
      exact ⟨3, 0, Lib.pow10Tab.map fun z => Value.int .u64 z, [], ty, fz, rfl, by rw [List.append_nil]; exact hb, pow_vr e0⟩
    · split at ho
      · subst_vars; cases ho
        obtain ⟨post, ty, fz, hb⟩ := cells_ro h2
        exact ⟨2, 0, _, post, ty, fz, rfl, hb, VRs.map_v e0 [_]⟩
      · split at ho
        · subst_vars; cases ho
          obtain ⟨post, ty, fz, hb⟩ := cells_ro h1
          exact ⟨1, 0, _, post, ty, fz, rfl, hb, VRs.map_v e0 [_]⟩
        · split at ho
          · subst_vars; cases ho
            obtain ⟨post, ty, fz, hb⟩ := cells_ro h0
            exact ⟨0, 0, _, post, ty, fz, rfl, hb, sign_vr e0⟩
          · cases ho
theorem isT_s {r : Option (LV × KS × List Nat)} (h : isT r = true) : ∃ s, r = some (.v (.bool true), s, []) := by
  unfold isT at h
  split at h
  · subst h; exact ⟨_, rfl⟩
  · cases h
theorem awake_k {I : PH} (hV : VarsIn I) : DoesI Tryz.prog 17 #[] I [] fun r _ qs => qs = [] ∧ r = .bool true := by
  obtain ⟨h0, ⟨te, pe, h1⟩, ⟨te2, pe2, h2⟩, h3⟩ := hV
  obtain ⟨s', hr⟩ := isT_s (awakeK (XKf Tryz.prog keyed240).rep (XKf Tryz.prog keyed240).mono (XKf Tryz.prog keyed240).keyedOk te te2 pe pe2)
  have hC : CallOk (XKf Tryz.prog keyed240) 6 (callW (XKf Tryz.prog keyed240) hookD (runC (XKf Tryz.prog keyed240) 6 hookD 100000)) := callW_ok hook_ok (runC_ok hook_ok mixed _) mixed
  have hb : ∀ id, 1000 ≤ id → (L0 (.iface te pe) (.iface te2 pe2)).get id = none := fun id hid => by
    rw [L0_get, if_neg (by omega), if_neg (by omega), if_neg (by omega), if_neg (by omega)]
  refine Does.toI ((hC.does hr (M := fun id => (L0 (.iface te pe) (.iface te2 pe2)).get id) (e := e0) (I := I) (H := I) (args' := []) (fun id ob h _ => h) hb (fun id h _ => ⟨hb id h, ?_⟩) (fun g hg => ?_) (rel0 h0 h1 h2 h3) (by simp only [VRs])).mono fun y H2 ⟨e2, I2, _, _, h5, h6, h7⟩ => ?_)
  · unfold e0; rw [if_neg (by simp only at h; omega)]
  · unfold e0; rw [if_pos hg]
  · simp only [VR] at h5
    exact ⟨PH.le_trans h7 h6.le, h5⟩
end Go.Proofs.YtfaclfkpnmcmlaaGreatDoor
end
