import Derived.Test.YtfaclfkpnmcmlaaGreatDoorW02
import Derived.Test.YtfaclfkpnmcmlaaGreatDoorW07
import Derived.Sort.AssemblyPlain
import Derived.Shelf.LaysM
import Derived.Shelf.Strconv.Itoa3
import Derived.Shelf.LaysC
import Derived.Shelf.Strconv.AtoiAll
import Derived.Test.YtfaclfkpnmcmlaaGreatDoorProg
set_option maxHeartbeats 20000000
set_option linter.all false
section
namespace Go.Proofs.YtfaclfkpnmcmlaaGreatDoor
open Go Go.Sx Dg
theorem goes168 : Goes Tryz.prog 168 := ⟨_, Tryz.func168, rfl, rfl⟩
theorem goes236 : Goes Tryz.prog 236 := ⟨_, Tryz.func236, rfl, rfl⟩
theorem join_c {S : Nat → Nat → Option Bool} {f : Bool → Bool → Bool} {fid : FuncId} (hop : OpD fid S) (hgo : Goes Tryz.prog fid) (hS : Short S f) {pb mb q : Nat} {sla ra slb rb : Value} {ta tb : List T} :
    ∀ (n : Nat) {k : Nat} {s t : T} {ms : List T} {L : List (T × T)} {I : PH} {ps : List PH}, 24 ≤ n + k → k ≤ 24 → s.ok k → t.ok k → T.isIn ta s → T.isIn tb t → JoinI I pb mb q sla ra slb rb ta tb → JoinP f mb q ta tb ms L ps → ms.length + 2 ^ n ≤ 2 ^ 28 →
    DoesI Tryz.prog 168 #[pt pb, iv (T.plc ta s), iv (T.plc tb t), .func (.func fid) #[] #[]] I ps fun v I2 qs => ∃ us L2, JoinP f mb q ta tb (ms ++ us) L2 qs ∧ us.length + 1 ≤ 2 ^ n ∧ T.isIn (ms ++ us) (T.opT f s t) ∧ v = iv (T.plc (ms ++ us) (T.opT f s t)) := by
  intro n
  induction n with
  | zero =>
    intro k s t ms L I ps hn hk24 hs ht his hit hI hP hlen hd
    have hk : k = 24 := by omega
    subst hk
    obtain ⟨x, rfl⟩ := T.is_lf hs
    obtain ⟨y, rfl⟩ := T.is_lf ht
    refine Does_of Tryz.func168 rfl (by simp [Tryz.ntmps168]) fun w0 => ?_
    simp only [Tryz.ntmps168, pt, iv]
    (refine RG ?_; simp only [go_sem])
    refine RC_call rfl rfl rfl rfl hgo (hop _ _ _) fun v H2 hv => ?_
    obtain ⟨rfl, r, rfl, hr⟩ := hv
    have hsome : (S (T.plc ta (.lf x)) (T.plc tb (.lf y))).isSome = true := by
      cases h : S (T.plc ta (.lf x)) (T.plc tb (.lf y)) with
      | none => exact absurd ⟨by simp only [T.plc]; split <;> omega, by simp only [T.plc]; split <;> omega⟩ (hS.no h)
      | some b => rfl
    obtain ⟨b, hb⟩ := Option.isSome_iff_exists.1 hsome
    have hrb := hr b hb
    have hlf : T.opT f (.lf x) (.lf y) = .lf b := T.opT_lf trivial trivial (hS.yes hb)
    (refine RG ?_; simp only [go_sem, hsome])
    refine R_ret_I rfl hd (r := [_]) rfl (PH.le_refl _) ⟨[], L, by rw [List.append_nil]; exact hP, by simp, ?_, ?_⟩
    · rw [hlf]; trivial
    · rw [hlf, hrb]; rfl
  | succ n ih =>
    intro k s t ms L I ps hn hk24 hs ht his hit hI hP hlen hd
    have hs0 := hs.mono (Nat.zero_le k)
    have ht0 := ht.mono (Nat.zero_le k)
    refine Does_of Tryz.func168 rfl (by simp [Tryz.ntmps168]) fun w0 => ?_
    simp only [Tryz.ntmps168, pt, iv]
    (refine RG ?_; simp only [go_sem])
    refine RC_call rfl rfl rfl rfl hgo (hop _ _ _) fun v H2 hv => ?_
    obtain ⟨rfl, r, rfl, hr⟩ := hv
    cases hsh : S (T.plc ta s) (T.plc tb t) with
    | some b =>
      have hrb := hr b hsh
      have hlf : T.opT f s t = .lf b := T.opT_lf hs0 ht0 (hS.yes hsh)
      (refine RG ?_; simp only [go_sem, hsh, Option.isSome_some])
      refine R_ret_I rfl hd (r := [_]) rfl (PH.le_refl _) ⟨[], L, by rw [List.append_nil]; exact hP, by simp [Nat.one_le_two_pow], ?_, ?_⟩
      · rw [hlf]; trivial
      · rw [hlf, hrb]; rfl
    | none =>
      have hno := hS.no hsh
      have hps := T.plc_lt his
      have hpt := T.plc_lt hit
      have hla := hI.la
      have hlb := hI.lb
      obtain ⟨mk, N, rfl, hM, hN, hok⟩ := hP
      obtain ⟨A, sv, r', M, rfl, hA, hMm, sq⟩ := hM
      (refine RG ?_; simp only [go_sem, hsh, Option.isSome_none])
      refine R_drawn mixed [0, 1, 2, 3, 4, 5, 6, 7, 8, 9, 10] [3, 5] [] rfl rfl ?_
      (refine RD_go ?_; simp only [go_sem])
      refine RD_load (l := [_]) rfl rfl rfl rfl (cellsU hd (.head _) (cells_at hI.hp (by simp) rfl)) (.inr ⟨ag260, rfl⟩) ?_
      (refine RD_go ?_; simp only [go_sem])
      have hkey : KeyV Tryz.prog 335 (kV (T.plc ta s) (T.plc tb t)) := key335 (by omega) (by omega)
      by_cases hmem : (s, t) ∈ L
      · refine RD_lookup (by exact K335) (by exact hm260) (by exact ze3) (key := kV (T.plc ta s) (T.plc tb t)) rfl rfl rfl rfl rfl (hN.atU hd (by simp)) (by exact hkey) (iv (T.plc ms (T.opT f s t))) true (.inl ⟨rfl, (snS_at hok his hit).2 ⟨hmem, rfl⟩⟩) ?_
        (refine RD_go ?_; simp only [go_sem])
        refine RD_nil ?_
        (refine RG ?_; simp only [go_sem])
        refine R_ret_I rfl hd (r := [_]) rfl (PH.le_refl _) ⟨[], L, ?_, by simp [Nat.one_le_two_pow], ?_, ?_⟩
        · rw [List.append_nil]; exact ⟨_, N, rfl, ⟨A, sv, r', M, rfl, hA, hMm, sq⟩, hN, hok⟩
        · rw [List.append_nil]; exact (hok s t hmem).2.2
        · rw [List.append_nil]; rfl
      · refine RD_lookup (by exact K335) (by exact hm260) (by exact ze3) (key := kV (T.plc ta s) (T.plc tb t)) rfl rfl rfl rfl rfl (hN.atU hd (by simp)) (by exact hkey) (iv 0) false (.inr ⟨rfl, rfl, fun u hu => hmem ((snS_at hok his hit).1 hu).1⟩) ?_
        (refine RD_go ?_; simp only [go_sem])
        refine RD_nil ?_
        (refine RG ?_; simp only [go_sem])
        refine R_drawn mixed [12, 13, 0, 1, 2, 3, 4, 6, 7, 8, 9, 10, 5, 11, 14, 15] [3, 9] [5] rfl rfl ?_
        (refine RD_go ?_; simp only [go_sem])
        refine RD_load (l := [sla, ra]) (v := .agg #[sla, ra]) rfl rfl rfl rfl (cellsU hd (.head _) (cells_at hI.hp (by simp) rfl)) (.inl ⟨ag50, rfl⟩) ?_
        (refine RD_go ?_; simp only [go_sem])
        refine RD_load (l := [slb, rb]) (v := .agg #[slb, rb]) rfl rfl rfl rfl (cellsU hd (.head _) (cells_at hI.hp (by simp) rfl)) (.inl ⟨ag50, rfl⟩) ?_
        (refine RD_go ?_; simp only [go_sem])
        refine RD_call rfl rfl rfl rfl goes236 (at_c (hI.ha.le (le_first hd)) hI.sa his (by omega)) fun v1 H3 hv1 => ?_
        obtain ⟨rfl, rfl⟩ := hv1
        refine ⟨Keeps.le (PH.le_refl _), ?_⟩
        (refine RD_go ?_; simp only [go_sem])
        refine RD_call rfl rfl rfl rfl goes236 (at_c (hI.hb.le (le_first hd)) hI.sb hit (by omega)) fun v2 H3 hv2 => ?_
        obtain ⟨rfl, rfl⟩ := hv2
        refine ⟨Keeps.le (PH.le_refl _), ?_⟩
        (refine RD_go ?_; simp only [go_sem, decV, iv, T.dec_var])
        refine RD_nil ?_
        obtain ⟨i, hi⟩ : ∃ i, i = min s.var t.var := ⟨_, rfl⟩
        have hmin : (if ((t.var : Nat) : Int) < ((s.var : Nat) : Int) then ((t.var : Nat) : Int) else ((s.var : Nat) : Int)) = ((i : Nat) : Int) := by split <;> omega
        have hi24 : i < 24 := by
          rcases Nat.lt_or_ge i 24 with h | h
          · exact h
          · exfalso
            have h1 := T.var_le hs0
            have h2 := T.var_le ht0
            have h3 : s.ok 24 := by cases s with
              | lf b => trivial
              | nd v l r => exact absurd hs.2.1 (by simp only [T.var] at *; omega)
            have h4 : t.ok 24 := by cases t with
              | lf b => trivial
              | nd v l r => exact absurd ht.2.1 (by simp only [T.var] at *; omega)
            obtain ⟨x, rfl⟩ := T.is_lf h3
            obtain ⟨y, rfl⟩ := T.is_lf h4
            exact hno ⟨by simp only [T.plc]; split <;> omega, by simp only [T.plc]; split <;> omega⟩
        have his' : i ≤ s.var := by omega
        have hit' : i ≤ t.var := by omega
        have hki : k ≤ i := by have := T.var_ge hs hk24; have := T.var_ge ht hk24; omega
        have pn : 2 ^ (n + 1) = 2 ^ n + 2 ^ n := by rw [Nat.pow_succ]; omega
        have pnn : 0 < 2 ^ n := Nat.two_pow_pos n
        have dls := T.dec_lo ta s his' hi24
        have dhs := T.dec_hi ta s his' hi24
        have dlt := T.dec_lo tb t hit' hi24
        have dht := T.dec_hi tb t hit' hi24
        rw [T.dec_var] at dls dhs dlt dht
        cases h70 : decide (s.var = i) <;> cases h80 : decide (t.var = i)
        · simp only [decide_eq_false_iff_not] at h70 h80; omega
        have els : T.plc ta (T.lo i s) = T.plc ta s := by rw [← dls, if_neg (by simpa using h70)]
        have ehs : T.plc ta (T.hi i s) = T.plc ta s := by rw [← dhs, if_neg (by simpa using h70)]
        have elt : T.plc tb (T.lo i t) = (T.dec tb t).2.1 := by rw [← dlt, if_pos (by simpa using h80)]
        have eht : T.plc tb (T.hi i t) = (T.dec tb t).2.2 := by rw [← dht, if_pos (by simpa using h80)]
        (refine RG ?_; simp only [go_sem, decV, iv, T.dec_var, hmin, ieq, h70, h80])
        rotate_left
        have els : T.plc ta (T.lo i s) = (T.dec ta s).2.1 := by rw [← dls, if_pos (by simpa using h70)]
        have ehs : T.plc ta (T.hi i s) = (T.dec ta s).2.2 := by rw [← dhs, if_pos (by simpa using h70)]
        have elt : T.plc tb (T.lo i t) = T.plc tb t := by rw [← dlt, if_neg (by simpa using h80)]
        have eht : T.plc tb (T.hi i t) = T.plc tb t := by rw [← dht, if_neg (by simpa using h80)]
        (refine RG ?_; simp only [go_sem, decV, iv, T.dec_var, hmin, ieq, h70, h80])
        rotate_left
        have els : T.plc ta (T.lo i s) = (T.dec ta s).2.1 := by rw [← dls, if_pos (by simpa using h70)]
        have ehs : T.plc ta (T.hi i s) = (T.dec ta s).2.2 := by rw [← dhs, if_pos (by simpa using h70)]
        have elt : T.plc tb (T.lo i t) = (T.dec tb t).2.1 := by rw [← dlt, if_pos (by simpa using h80)]
        have eht : T.plc tb (T.hi i t) = (T.dec tb t).2.2 := by rw [← dht, if_pos (by simpa using h80)]
        (refine RG ?_; simp only [go_sem, decV, iv, T.dec_var, hmin, ieq, h70, h80])
        refine R_drawnK mixed [0, 1, 2, 3, 4, 5, 6, 7] [] [] [3] [5] [14, 15] rfl rfl ?_
        (refine RD_go ?_; simp only [go_sem])
        refine RD_nil ?_
        (refine RG ?_; simp only [go_sem, ieq, h80])
        all_goals
          refine R_drawnK mixed [0, 1, 2, 3, 4, 5, 6, 7] [] [] [3] [5] [14, 15] rfl rfl ?_
          (refine RD_go ?_; simp only [go_sem])
          refine RD_nil ?_
          (refine RG ?_; simp only [go_sem, ieq, h80])
          have c1 := ih (k := i + 1) (I := I) (ms := ms) (L := L) (by omega) (by omega) (T.lo_ok hs (by omega)) (T.lo_ok ht (by omega)) (T.isIn_lo hI.sa his i) (T.isIn_lo hI.sb hit i) hI ⟨_, N, rfl, ⟨A, sv, r', M, rfl, hA, hMm, sq⟩, hN, hok⟩ (by omega)
          rw [els, elt] at c1
          refine RC_callI hd [0, 1, 2, 3] rfl rfl rfl rfl goes168 rfl (F := []) rfl c1 fun v1 I2 qs hd2 hle2 hps => ?_
          obtain ⟨us1, L1, hP1, hn1, hin1, rfl⟩ := hps
          have hI2 := hI.le hle2
          simp only [List.append_nil] at hd2 ⊢
          (refine RG ?_; simp only [go_sem, iv])
          refine R_drawnJ mixed [0, 1, 2, 3, 4, 5, 6, 7, 8, 9, 10, 11, 12, 13, 14] [] [] [3] [12] I2 rfl rfl ?_
          (refine RD_go ?_; simp only [go_sem, iv])
          refine RD_loadJ (l := [_]) rfl (le_first hd2) rfl rfl rfl (cells_at hI2.hp (by simp) rfl) (.inr ⟨ag217, rfl⟩) ?_
          (refine RD_go ?_; simp only [go_sem, iv])
          have c2 := ih (k := i + 1) (I := I2) (ms := ms ++ us1) (L := L1) (by omega) (by omega) (T.hi_ok hs (by omega)) (T.hi_ok ht (by omega)) (T.isIn_hi hI.sa his i) (T.isIn_hi hI.sb hit i) hI2 hP1 (by simp only [List.length_append]; omega)
          rw [ehs, eht] at c2
          obtain ⟨mk1, N1, rfl, hM1, hN1, hok1⟩ := hP1
          obtain ⟨A1, sv1, r1', M1, rfl, hA1, hMm1, sq1⟩ := hM1
          refine RD_callI hd2 [0, 1, 2, 3] rfl (fun _ => PH.le_refl _) rfl rfl rfl rfl goes168 rfl (F := []) rfl c2 fun v2 I3 qs hd3 hle3 hps => ?_
          obtain ⟨us2, L2, hP2, hn2, hin2, rfl⟩ := hps
          have hI3 := hI2.le hle3
          obtain ⟨mk2, N2, rfl, hM2, hN2, hok2⟩ := hP2
          obtain ⟨A2, sv2, r2', M2, rfl, hA2, hMm2, sq2⟩ := hM2
          simp only [List.append_nil, List.cons_append, List.nil_append] at hd3 ⊢
          (refine RD_go ?_; simp only [go_sem, iv])
          have c3 := node_c (mb := mb) (I := I3) (i := i) ⟨A2, sv2, r2', M2, rfl, hA2, hMm2, sq2⟩ hi24 (T.opT_ok (f := f) (T.lo_ok hs his') (T.lo_ok ht hit') (by omega)) (T.opT_ok (f := f) (T.hi_ok hs his') (T.hi_ok ht hit') (by omega)) hin1.app hin2 (by simp only [List.length_append]; omega)
          rw [T.plc_app hin1] at c3
          refine RD_callI hd3 [0, 1, 2, 3] rfl (fun h => by cases h) rfl rfl rfl rfl goes125 rfl (F := [N2]) rfl c3 fun v3 I4 qs hd4 hle4 hps => ?_
          obtain ⟨us3, hM3, hn3, hin3, rfl⟩ := hps
          have hI4 := hI3.le hle4
          obtain ⟨A3, sv3, r3', M3, rfl, hA3, hMm3, sq3⟩ := hM3
          simp only [List.cons_append, List.nil_append] at hd4 ⊢
          (refine RD_go ?_; simp only [go_sem, iv])
          refine RD_nil ?_
          (refine RG ?_; simp only [go_sem, iv])
          refine R_drawn mixed [0, 1, 2, 3, 4, 5, 6] [3] [] rfl rfl ?_
          (refine RD_go ?_; simp only [go_sem, iv])
          refine RD_load (l := [_]) rfl rfl rfl rfl (cellsU hd4 (.head _) (cells_at hI4.hp (by simp) rfl)) (.inr ⟨ag260, rfl⟩) ?_
          (refine RD_go ?_; simp only [go_sem, iv])
          have hrec : T.mk i (T.opT f (T.lo i s) (T.lo i t)) (T.opT f (T.hi i s) (T.hi i t)) = T.opT f s t := (T.opT_rec hs0 ht0 hi hi24).symm
          rw [hrec] at hin3 ⊢
          (refine RD_parts hd4 [3, 0, 1, 2] rfl fun hd5 => ?_; simp only [Z4] at hd5 ⊢)
          refine RD_updateI (by exact K335) (by exact hm260) (key := kV (T.plc ta s) (T.plc tb t)) (v := iv (T.plc (ms ++ us1 ++ us2 ++ us3) (T.opT f s t))) hd5 rfl rfl rfl (.inl rfl) rfl rfl rfl hN2 (by exact hkey) fun N3 hd6 hN3 => ?_
          refine RD_nil ?_
          (refine RG ?_; simp only [go_sem, iv])
          (refine RC_parts hd6 [1, 2, 3, 0] rfl fun hd7 => ?_; simp only [Z4] at hd7 ⊢)
          have hok3 : OkL f ta tb (ms ++ us1 ++ us2 ++ us3) L2 := hok2.app
          refine R_ret_I rfl hd7 (r := [_]) rfl (PH.le_trans hle2 (PH.le_trans hle3 hle4)) ⟨us1 ++ us2 ++ us3, (s, t) :: L2, ?_, ?_, ?_, ?_⟩
          · refine ⟨_, N3, rfl, ⟨A3, sv3, r3', M3, rfl, ?_, ?_, ?_⟩, ?_, ?_⟩
            · simpa [List.append_assoc] using hA3
            · simpa [List.append_assoc] using hMm3
            · simpa [List.append_assoc] using sq3
            · refine hN3.congr fun y u => ?_
              have e1 := snS_snoc hok3 his hit y u
              rw [snS_app hok2] at e1
              simpa [List.append_assoc] using e1
            · intro s' t' hm
              rcases List.mem_cons.1 hm with e | hm
              · cases e; exact ⟨his, hit, by simpa [List.append_assoc] using hin3⟩
              · simpa [List.append_assoc] using hok3 s' t' hm
          · simp only [List.length_append]; omega
          · simpa [List.append_assoc] using hin3
          · simp [retV, iv, List.append_assoc]
end Go.Proofs.YtfaclfkpnmcmlaaGreatDoor
end
section
namespace Go.Proofs.YtfaclfkpnmcmlaaGreatDoor
open Go Go.Sx Dg
theorem with_c {S : Nat → Nat → Option Bool} {f : Bool → Bool → Bool} {fid : FuncId} (hop : OpD fid S) (hgo : Goes Tryz.prog fid) (hS : Short S f) {I : PH} {va vb : Value} {a b : T} (ha : RepD I va a) (hb : RepD I vb b) :
    DoesI Tryz.prog 96 #[va, vb, .func (.func fid) #[] #[]] I [] fun v I2 qs => qs = [] ∧ RepD I2 v (T.opT f a b) := by
  intro hd
  obtain ⟨oka, sla, rfl, hla⟩ := ha
  obtain ⟨okb, slb, rfl, hlb⟩ := hb
  refine Does_of Tryz.func96 rfl (by simp [Tryz.ntmps96]) fun w0 => ?_
  simp only [Tryz.ntmps96, pt, iv]
  (refine RG ?_; simp only [go_sem, iv])
  refine R_drawn mixed [1, 2, 0, 3, 4, 5, 6] [] [] rfl rfl ?_
  (refine RD_go ?_; simp only [go_sem, iv])
  refine RD_callI hd [] rfl (fun h => by cases h) rfl rfl rfl rfl goes124 rfl (F := []) rfl (newMaker_c I) fun v I2 qs hd2 hle2 hq => ?_
  obtain ⟨mb, rfl, A, sv, r, M, rfl, hA, hM, sq⟩ := hq
  simp only [List.append_nil] at hd2 ⊢
  (refine RD_go ?_; simp only [go_sem, iv, pt])
  refine RD_makeMapI 335 hd2 rfl rfl fun q N hd3 hN => ?_
  (refine RD_go ?_; simp only [go_sem, iv, pt])
  refine RD_nil ?_
  (refine RG ?_; simp only [go_sem, iv, pt])
  refine RC_pubI 13 hd3 rfl fun pb hd4 => ?_
  refine RC_freeze hd4 fun I3 hd5 hle5 hpb => ?_
  have hI : JoinI I3 pb mb q sla (iv (T.plc (T.subs a) a)) slb (iv (T.plc (T.subs b) b)) (T.subs a) (T.subs b) :=
    ⟨hpb _ _ (sg_self _ _), (hla.le hle2).le hle5, (hlb.le hle2).le hle5, T.subs_seq oka, T.subs_seq okb, by have := T.subs_len oka; omega, by have := T.subs_len okb; omega⟩
  (refine RG ?_; simp only [go_sem, iv, pt])
  refine R_drawnJ mixed [0, 1, 2, 3, 4, 5, 6, 7, 8, 9, 10, 11, 12] [] [] [3] [10] I3 rfl rfl ?_
  (refine RD_go ?_; simp only [go_sem, iv, pt])
  refine RD_loadJ (l := [_]) rfl (le_first hd5) rfl rfl rfl (cells_at hI.hp (by simp) rfl) (.inr ⟨ag217, rfl⟩) ?_
  (refine RD_go ?_; simp only [go_sem, iv, pt])
  (refine RD_parts hd5 [1, 2, 3, 0] rfl fun hd6 => ?_; simp only [Z4] at hd6 ⊢)
  have c1 := join_c hop hgo hS (pb := pb) (mb := mb) (q := q) 24 (k := 0) (s := a) (t := b) (ms := []) (L := []) (I := I3) (by omega) (by omega) oka okb (T.subs_in oka) (T.subs_in okb) hI ⟨_, N, rfl, ⟨A, sv, r, M, rfl, hA, hM, sq⟩, hN.congr fun y u => ⟨fun ⟨_, _, h, _⟩ => absurd h List.not_mem_nil, fun h => h.elim⟩, fun s t h => absurd h List.not_mem_nil⟩ (by simp)
  refine RD_callI hd6 [0, 1, 2, 3] rfl (fun _ => PH.le_refl _) rfl rfl rfl rfl goes168 rfl (F := []) rfl c1 fun v1 I4 qs hd7 hle7 hps => ?_
  obtain ⟨us, L2, hP, hn, hin, rfl⟩ := hps
  obtain ⟨mk, N2, rfl, hM2, hN2, _⟩ := hP
  obtain ⟨A2, sv2, r2, M2, rfl, hA2, hMm2, sq2⟩ := hM2
  simp only [List.append_nil, List.nil_append, List.cons_append] at hd7 hin ⊢
  (refine RD_go ?_; simp only [go_sem, iv, pt])
  have c2 := done_c (mb := mb) (I := I4) ⟨A2, sv2, r2, M2, rfl, hA2, hMm2, sq2⟩ hin (T.opT_ok oka okb (by omega)) (by simp only [List.nil_append]; omega)
  refine RD_callI hd7 [0, 1, 2, 3] rfl (fun h => by cases h) rfl rfl rfl rfl goes126 rfl (F := [N2]) rfl c2 fun v2 I5 qs hd8 hle8 hps => ?_
  obtain ⟨rfl, hr⟩ := hps
  simp only [List.nil_append] at hd8 ⊢
  obtain ⟨okr, slr, rfl, ⟨za, zc, rfl, hz⟩⟩ := hr
  (refine RD_go ?_; simp only [go_sem, iv, pt])
  refine RD_nil ?_
  (refine RG ?_; simp only [go_sem, iv, pt])
  refine RC_freeze (c := .st _) hd8 fun I6 hd9 hle9 _ => ?_
  refine R_ret_I rfl hd9 (r := [.agg #[.slice za (T.subs (T.opT f a b)).length zc, iv (T.plc (T.subs (T.opT f a b)) (T.opT f a b))]]) (by (simp only [Tryz.results96, go_sem, iv])) (PH.le_trans hle2 (PH.le_trans hle5 (PH.le_trans hle7 (PH.le_trans hle8 hle9)))) ⟨rfl, okr, _, rfl, LstD.le ⟨za, zc, rfl, hz⟩ hle9⟩
end Go.Proofs.YtfaclfkpnmcmlaaGreatDoor
end
section
namespace Go.Proofs.YtfaclfkpnmcmlaaGreatDoor
open Go Go.Sx Dg
theorem goes127 : Goes Tryz.prog 127 := ⟨_, Tryz.func127, rfl, rfl⟩
end Go.Proofs.YtfaclfkpnmcmlaaGreatDoor
namespace Go.Sx
theorem Cells.get {H : PH} {b off : Nat} {l : List Value} (h : Cells H b off l) {i : Nat} {x : Value} (hx : l[i]? = some x) : Cells H b (off + i) [x] := by
  have hi : i < l.length := by
    rcases Nat.lt_or_ge i l.length with h | h
    · exact h
    · rw [List.getElem?_eq_none h] at hx; cases hx
  have := h.sub i 1 (by omega)
  have e : (l.drop i).take 1 = [x] := by
    rw [List.drop_eq_getElem_cons hi]
    rw [List.getElem?_eq_getElem hi] at hx
    simp [Option.some.inj hx]
  rw [e] at this; exact this
end Go.Sx
namespace Go.Proofs.YtfaclfkpnmcmlaaGreatDoor
open Go Go.Sx Dg
theorem all_get {ts : List T} {t : T} (h : T.isIn ts t) : (T.lf false :: T.lf true :: ts)[T.plc ts t]? = some t := by
  cases t with
  | lf b => cases b <;> rfl
  | nd v l r =>
    have hm : T.nd v l r ∈ ts := h
    simp only [T.plc, List.getElem?_cons_succ]
    rw [List.getElem?_eq_getElem (List.idxOf_lt_length_of_mem hm)]; simp
def outC (ms ts : List T) : List Value := (T.lf false :: T.lf true :: ts).map fun t => iv (T.plc ms t.not)
theorem outC_get {ms ts : List T} {t : T} (h : T.isIn ts t) : (outC ms ts)[T.plc ts t]? = some (iv (T.plc ms t.not)) := by
  unfold outC; rw [List.getElem?_map, all_get h]; rfl
theorem plc_take {ts : List T} {j : Nat} {t : T} (h : T.isIn (ts.take j) t) : T.plc ts t = T.plc (ts.take j) t := by
  have := T.plc_app (us := ts.drop j) h
  rwa [List.take_append_drop] at this
theorem isIn_not {ms us : List T} (h : ∀ t, T.isIn us t → T.isIn ms t.not) {v : Nat} {l r : T} (hn : T.isIn ms (T.nd v l r).not) (t : T) (ht : T.isIn (us ++ [.nd v l r]) t) : T.isIn ms t.not := by
  rcases isIn_snoc.1 ht with h1 | rfl
  · exact h t h1
  · exact hn
def foldS (mb : Nat) (sl rv : Value) (n : Nat) (a : Nat × Value) : St :=
  ⟨sp 0 45 [(3, .v (.func (.func 125) #[pt mb] #[])), (4, .p 4 0), (9, .v a.2), (16, .v sl), (17, .v (.int .i64 n)), (18, .v (.int .i64 a.1))], [⟨4, 50, [sl, rv]⟩]⟩
def foldQ (mb : Nat) (ts : List T) (I0 : PH) (a : Nat × Value) (H : PH) : Prop :=
  ∃ I A mk ms, H = U (I :: A :: mk) ∧ Dj (I :: A :: mk) ∧ I0.le I ∧ a.1 ≤ ts.length ∧ Row A 3 1 a.2 (a.1 + 2) (outC ms (ts.take a.1)) ∧ IsMk mb ms mk ∧ ms.length ≤ a.1 ∧ ∀ t, T.isIn (ts.take a.1) t → T.isIn ms t.not
theorem fold_c {mb : Nat} {I : PH} {ps : List PH} {t : T} {sl : Value} (hok : t.ok 0) (hL : LstD I sl (T.subs t)) (hM : IsMk mb [] ps) :
    DoesI Tryz.prog 127 #[.agg #[sl, iv (T.plc (T.subs t) t)], .int .i64 1, .int .i64 0, .func (.func 125) #[pt mb] #[]] I ps fun v I2 qs => ∃ ms, IsMk mb ms qs ∧ T.isIn ms t.not ∧ v = iv (T.plc ms t.not) ∧ ms.length < 2 ^ 24 := by
  intro hd
  obtain ⟨za, zc, rfl, hz⟩ := hL
  have hlen := T.subs_len hok
  have hsq := T.subs_seq hok
  have hin := T.subs_in hok
  refine Does_of Tryz.func127 rfl (by simp [Tryz.ntmps127]) fun w0 => ?_
  simp only [Tryz.ntmps127, pt, iv]
  (refine RG ?_; simp only [go_sem])
  refine RC_buildSliceO hd sl81 rfl rfl rfl rfl rfl (by decide) fun b A hd1 hA => ?_
  (refine RG ?_; simp only [go_sem])
  refine RC_loopD (fun a => (T.subs t).length - a.1) (foldS mb (.slice za (T.subs t).length zc) (iv (T.plc (T.subs t) t)) (T.subs t).length) (foldQ mb (T.subs t) I) (0, .slice (some ⟨b, 0, none⟩) 2 2) (by simp only [go_sem, List.append_nil, foldS, iv, pt]) (by simp only [go_sem, List.append_nil, foldS, iv]) ?_ ?_
  · exact ⟨I, A, ps, [], rfl, hd1, PH.le_refl _, Nat.zero_le _, hA, hM, by simp, fun t ht => by cases t <;> simp_all [T.isIn, T.not]⟩
  rintro ⟨j, sv⟩ H ⟨I1, A1, mk, ms, rfl, hd2, hle2, hj, hA1, hM1, hml, hall⟩ hnext
  simp only at hj hA1 hml hall
  simp only [foldS]
  rcases Nat.lt_or_ge j (T.subs t).length with hlt | hge
  · have h19 : decide ((j : Int) < ((T.subs t).length : Int)) = true := by simp; omega
    rcases hz with h0 | ⟨lb, rfl, hc⟩
    · rw [h0] at hlt; simp at hlt
    obtain ⟨u, hu⟩ : ∃ u, (T.subs t)[j]? = some u := ⟨_, List.getElem?_eq_getElem hlt⟩
    obtain ⟨v, l, r, rfl, huk, hil, hir⟩ := hsq.2 j u hu
    (refine RG ?_; simp only [go_sem, h19, iv, pt])
    refine ⟨⟨by omega, by omega⟩, ?_⟩
    have hcell := hc.sub (j * 3) 3 (by have := tsC_len (T.subs t); omega)
    rw [tsC_get hu, Nat.zero_add] at hcell
    refine RC_load (l := decC (T.dec (T.subs t) (.nd v l r))) (v := decV (T.dec (T.subs t) (.nd v l r))) rfl rfl rfl (cellsU hd2 (.head _) (hcell.le hle2)) (.inl ⟨ag181, rfl⟩) ?_
    obtain ⟨g, cap, rfl, hg⟩ := hA1.cellsU hd2 (.tail _ (.head _)) (by omega)
    (refine RG ?_; simp only [go_sem, decV, iv, pt, T.dec])
    refine R_drawn mixed [0, 1, 2, 3, 4, 5, 6, 7, 8, 9, 10, 11, 12, 13, 14, 15, 16, 17] [8, 13] [] rfl rfl ?_
    (refine RD_go ?_; simp only [go_sem, iv, pt])
    have pl := T.plc_lt hil
    have pr := T.plc_lt hir
    have tl : ((T.subs t).take j).length = j := by simp; omega
    rw [tl] at pl pr
    have el := plc_take hil
    have er := plc_take hir
    have cl := hg.get (outC_get hil)
    have cr := hg.get (outC_get hir)
    rw [Nat.zero_add, ← el] at cl
    rw [Nat.zero_add, ← er] at cr
    refine ⟨⟨by omega, by omega⟩, ?_⟩
    refine RD_load (l := [iv (T.plc ms l.not)]) rfl rfl rfl rfl (by simpa using cl) (.inr ⟨ag3, rfl⟩) ?_
    (refine RD_go ?_; simp only [go_sem, iv, pt])
    refine ⟨⟨by omega, by omega⟩, ?_⟩
    refine RD_load (l := [iv (T.plc ms r.not)]) rfl rfl rfl rfl (by simpa using cr) (.inr ⟨ag3, rfl⟩) ?_
    (refine RD_go ?_; simp only [go_sem, iv, pt])
    have c1 := node_c (mb := mb) (I := I1) (i := v) hM1 huk.2.1 (T.not_ok huk.2.2.2.1) (T.not_ok huk.2.2.2.2) (hall l hil) (hall r hir) (by omega)
    obtain ⟨mA, mS, mR, mM, rfl, hmA, hmM, hmS⟩ := hM1
    refine RD_callI hd2 [1, 2, 3, 0] rfl (fun h => by cases h) rfl rfl rfl rfl goes125 rfl (F := [A1]) rfl c1 fun v1 I2 qs hd3 hle3 hps => ?_
    obtain ⟨us, hM2, hn2, hin2, rfl⟩ := hps
    obtain ⟨nA, nS, nR, nM, rfl, hnA, hnM, hnS⟩ := hM2
    simp only [List.cons_append, List.nil_append] at hd3 ⊢
    (refine RD_go ?_; simp only [go_sem, iv, pt])
    refine RD_buildSliceI hd3 sl81 rfl rfl rfl rfl rfl (by decide) fun nb I3 hd4 hle4 hnb => ?_
    (refine RD_go ?_; simp only [go_sem, iv, pt])
    (refine RD_parts hd4 [3, 0, 1, 2] rfl fun hd5 => ?_; simp only [Z4] at hd5 ⊢)
    have hA2 : Row A1 3 1 (.slice (some ⟨g, 0, none⟩) (j + 2) cap) (j + 2) (outC (ms ++ us) ((T.subs t).take j)) := hA1.xs rfl (by
      unfold outC
      refine List.map_congr_left fun x hx => ?_
      have : T.isIn ms x.not := by
        rcases List.mem_cons.1 hx with rfl | hx
        · trivial
        · rcases List.mem_cons.1 hx with rfl | hx
          · trivial
          · exact hall x (isIn_of_mem ⟨(hsq.1.sublist (List.take_sublist j _)), fun i u hu2 => by
              rw [List.getElem?_take] at hu2
              split at hu2
              · obtain ⟨a1, a2, a3, a4, a5, a6, a7⟩ := hsq.2 i u hu2
                rename_i hij
                exact ⟨a1, a2, a3, a4, a5, by rw [List.take_take, Nat.min_eq_left (Nat.le_of_lt hij)]; exact a6, by rw [List.take_take, Nat.min_eq_left (Nat.le_of_lt hij)]; exact a7⟩
              · cases hu2⟩ hx)
      rw [T.plc_app this])
    refine RD_appendI (m := 1) hd5 sl81 hA2 rfl rfl rfl rfl rfl rfl (cellsU hd5 (.head _) (cells_at (l := [iv (T.plc (ms ++ us) (T.mk v l.not r.not))]) hnb (by simp [flatP, Value.cells]) (by simp [flatP, Value.cells, iv]))) rfl rfl (by omega) (by unfold maxLen; omega) fun v' I4 A4 hd6 hle6 hA4 => ?_
    obtain ⟨a4, c4, rfl⟩ := hA4.slice
    (refine RD_go ?_; simp only [go_sem, iv, pt])
    refine RD_nil ?_
    have hw := wrap64 (n := j + 1) (by omega)
    have hw' : IntKind.i64.wrap ((j : Int) + 1) = ((j + 1 : Nat) : Int) := by rw [← hw]; congr 1
    (refine RG ?_; simp only [go_sem, iv, pt, hw'])
    have hmk : T.mk v l.not r.not = (T.nd v l r).not := by
      simp only [T.mk, T.not]; rw [if_neg]
      intro e; apply huk.2.2.1; rw [← T.not_not l, e, T.not_not]
    have htk : (T.subs t).take (j + 1) = (T.subs t).take j ++ [T.nd v l r] := by
      rw [List.take_succ_eq_append_getElem hlt]
      congr 1
      rw [List.getElem?_eq_getElem hlt] at hu
      rw [Option.some.inj hu]
    refine hnext (j + 1, .slice a4 (j + 2 + 1) c4) _ _ (by simp only; omega) (by simp only [go_sem, List.append_nil, foldS, iv, pt]) (by simp only [go_sem, List.append_nil, foldS, iv]) ⟨I4, A4, _, ms ++ us, rfl, hd6, PH.le_trans hle2 (PH.le_trans hle3 (PH.le_trans hle4 hle6)), hlt, hA4.xs (by omega) ?_, ⟨nA, nS, nR, nM, rfl, hnA, hnM, hnS⟩, by simp only [List.length_append]; omega, ?_⟩
    · simp only; rw [htk]; simp [outC, hmk]
    · simp only; rw [htk]
      exact isIn_not (fun x hx => (hall x hx).app) (by rw [← hmk]; exact hin2)
  · have h19 : decide ((j : Int) < ((T.subs t).length : Int)) = false := by simp; omega
    obtain ⟨g, cap, rfl, hg⟩ := hA1.cellsU hd2 (.tail _ (.head _)) (by omega)
    have hjl : j = (T.subs t).length := by omega
    subst hjl
    rw [List.take_length] at hg hall hA1
    have pt' := T.plc_lt hin
    have ct := hg.get (outC_get hin)
    rw [Nat.zero_add] at ct
    (refine RG ?_; simp only [go_sem, h19, iv])
    refine ⟨⟨by omega, by omega⟩, ?_⟩
    refine RC_load (l := [iv (T.plc ms t.not)]) rfl rfl rfl (by simpa using ct) (.inr ⟨ag3, rfl⟩) ?_
    (refine RG ?_; simp only [go_sem, iv])
    refine RC_freeze (c := .st _) (A := A1) hd2 fun I5 hd9 hle9 _ => ?_
    exact R_ret_I rfl hd9 (r := [_]) rfl (PH.le_trans hle2 hle9) ⟨ms, hM1, hall t hin, rfl, by omega⟩
end Go.Proofs.YtfaclfkpnmcmlaaGreatDoor
end
section
namespace Go.Proofs.YtfaclfkpnmcmlaaGreatDoor
open Go Go.Sx Dg
theorem goes96 : Goes Tryz.prog 96 := ⟨_, Tryz.func96, rfl, rfl⟩
theorem goes163 : Goes Tryz.prog 163 := ⟨_, Tryz.func163, rfl, rfl⟩
theorem goes97 : Goes Tryz.prog 97 := ⟨_, Tryz.func97, rfl, rfl⟩
theorem goes94 : Goes Tryz.prog 94 := ⟨_, Tryz.func94, rfl, rfl⟩
theorem goes39 : Goes Tryz.prog 39 := ⟨_, Tryz.func39, rfl, rfl⟩
theorem goes71 : Goes Tryz.prog 71 := ⟨_, Tryz.func71, rfl, rfl⟩
theorem goes50 : Goes Tryz.prog 50 := ⟨_, Tryz.func50, rfl, rfl⟩
theorem goes68 : Goes Tryz.prog 68 := ⟨_, Tryz.func68, rfl, rfl⟩
theorem goes27 : Goes Tryz.prog 27 := ⟨_, Tryz.func27, rfl, rfl⟩
theorem goes80 : Goes Tryz.prog 80 := ⟨_, Tryz.func80, rfl, rfl⟩
theorem RepD.shape {I : PH} {v : Value} {t : T} (h : RepD I v t) : ∃ a c, v = .agg #[.slice a (T.subs t).length c, iv (T.plc (T.subs t) t)] := by
  obtain ⟨_, sl, rfl, a, c, rfl, _⟩ := h; exact ⟨a, c, rfl⟩
theorem and_c {I : PH} {va vb : Value} {a b : T} (ha : RepD I va a) (hb : RepD I vb b) : DoesI Tryz.prog 94 #[va, vb] I [] fun v I2 qs => qs = [] ∧ RepD I2 v (a.and b) := by
  intro hd
  obtain ⟨xa, ca, rfl⟩ := ha.shape
  obtain ⟨xb, cb, rfl⟩ := hb.shape
  refine Does_of Tryz.func94 rfl (by simp [Tryz.ntmps94]) fun w0 => ?_
  simp only [Tryz.ntmps94, iv]
  (refine RG ?_; simp only [go_sem, iv])
  refine RC_callI hd [] rfl rfl rfl rfl goes96 rfl (F := []) rfl (with_c both_d goes163 short_and ha hb) fun v I2 qs hd2 hle2 hq => ?_
  obtain ⟨rfl, hr⟩ := hq
  obtain ⟨xr, cr, rfl⟩ := hr.shape
  simp only [List.append_nil] at hd2 ⊢
  (refine RG ?_; simp only [go_sem, iv])
  exact R_ret_I rfl hd2 (r := [.agg #[.slice xr (T.subs (a.and b)).length cr, iv (T.plc (T.subs (a.and b)) (a.and b))]]) (by (simp only [Tryz.results94, go_sem, iv, T.and_eq])) hle2 ⟨rfl, hr⟩
theorem or_c {I : PH} {va vb : Value} {a b : T} (ha : RepD I va a) (hb : RepD I vb b) : DoesI Tryz.prog 39 #[va, vb] I [] fun v I2 qs => qs = [] ∧ RepD I2 v (a.or b) := by
  intro hd
  obtain ⟨xa, ca, rfl⟩ := ha.shape
  obtain ⟨xb, cb, rfl⟩ := hb.shape
  refine Does_of Tryz.func39 rfl (by simp [Tryz.ntmps39]) fun w0 => ?_
  simp only [Tryz.ntmps39, iv]
  (refine RG ?_; simp only [go_sem, iv])
  refine RC_callI hd [] rfl rfl rfl rfl goes96 rfl (F := []) rfl (with_c either_d goes97 short_or ha hb) fun v I2 qs hd2 hle2 hq => ?_
  obtain ⟨rfl, hr⟩ := hq
  obtain ⟨xr, cr, rfl⟩ := hr.shape
  simp only [List.append_nil] at hd2 ⊢
  (refine RG ?_; simp only [go_sem, iv])
  exact R_ret_I rfl hd2 (r := [.agg #[.slice xr (T.subs (a.or b)).length cr, iv (T.plc (T.subs (a.or b)) (a.or b))]]) (by (simp only [Tryz.results39, go_sem, iv, T.or_eq])) hle2 ⟨rfl, hr⟩
theorem not_c {I : PH} {va : Value} {a : T} (ha : RepD I va a) : DoesI Tryz.prog 71 #[va] I [] fun v I2 qs => qs = [] ∧ RepD I2 v a.not := by
  intro hd
  obtain ⟨oka, sla, rfl, hla⟩ := ha
  obtain ⟨xa, ca, rfl, hz⟩ := id hla
  refine Does_of Tryz.func71 rfl (by simp [Tryz.ntmps71]) fun w0 => ?_
  simp only [Tryz.ntmps71, iv]
  (refine RG ?_; simp only [go_sem, iv])
  refine RC_callI hd [] rfl rfl rfl rfl goes124 rfl (F := []) rfl (newMaker_c I) fun v I2 qs hd2 hle2 hq => ?_
  obtain ⟨mb, rfl, hM⟩ := hq
  obtain ⟨A, sv, r, M, rfl, hA, hMm, sq⟩ := id hM
  simp only [List.append_nil] at hd2 ⊢
  (refine RG ?_; simp only [go_sem, iv, pt])
  refine RC_callI hd2 [0, 1, 2] rfl rfl rfl rfl goes127 rfl (F := []) rfl (fold_c (mb := mb) oka (hla.le hle2) hM) fun v1 I3 qs hd3 hle3 hq => ?_
  obtain ⟨ms, hM2, hin, rfl, hlen⟩ := hq
  obtain ⟨A2, sv2, r2, M2, rfl, hA2, hMm2, sq2⟩ := id hM2
  simp only [List.append_nil] at hd3 ⊢
  (refine RG ?_; simp only [go_sem, iv, pt])
  refine RC_callI hd3 [0, 1, 2] rfl rfl rfl rfl goes126 rfl (F := []) rfl (done_c (mb := mb) hM2 hin (T.not_ok oka) (by omega)) fun v2 I4 qs hd4 hle4 hq => ?_
  obtain ⟨rfl, hr⟩ := hq
  obtain ⟨xr, cr, rfl⟩ := hr.shape
  simp only [List.append_nil] at hd4 ⊢
  (refine RG ?_; simp only [go_sem, iv])
  exact R_ret_I rfl hd4 (r := [.agg #[.slice xr (T.subs a.not).length cr, iv (T.plc (T.subs a.not) a.not)]]) (by (simp only [Tryz.results71, go_sem, iv])) (PH.le_trans hle2 (PH.le_trans hle3 hle4)) ⟨rfl, hr⟩
end Go.Proofs.YtfaclfkpnmcmlaaGreatDoor
end
section
namespace Go.Proofs.YtfaclfkpnmcmlaaGreatDoor
open Go Go.Sx Dg
theorem and32 {a b : Nat} (ha : a < 2 ^ 32) (hb : b < 2 ^ 32) : andI .u32 (a : Int) (b : Int) = ((a &&& b : Nat) : Int) := by
  have ea : BitVec.ofInt 32 (a : Int) = BitVec.ofNat _ a := by rw [BitVec.ofInt_natCast]
  have eb : BitVec.ofInt 32 (b : Int) = BitVec.ofNat _ b := by rw [BitVec.ofInt_natCast]
  have hc : a &&& b < 2 ^ 32 := Nat.lt_of_le_of_lt Nat.and_le_left ha
  have : andI .u32 (a : Int) (b : Int) = IntKind.u32.wrap ((BitVec.ofInt 32 (a : Int) &&& BitVec.ofInt 32 (b : Int)).toNat : Int) := rfl
  rw [this, ea, eb, BitVec.toNat_and, BitVec.toNat_ofNat, BitVec.toNat_ofNat, Nat.mod_eq_of_lt ha, Nat.mod_eq_of_lt hb]
  simp only [IntKind.wrap, show IntKind.bits .u32 = 32 from rfl, show IntKind.signed .u32 = false from rfl]
  have : ((a &&& b : Nat) : Int) % (2 ^ 32 : Int) = ((a &&& b : Nat) : Int) := Int.emod_eq_of_lt (by omega) (by exact_mod_cast hc)
  simpa using this
theorem shr32 {a i : Nat} (hi : i ≤ 32) : shrI .u32 (a : Int) (i : Int) = ((a >>> i : Nat) : Int) := by
  have : shrI .u32 (a : Int) (i : Int) = Int.fdiv (a : Int) (2 ^ (min i 32)) := rfl
  have e : min i 32 = i := by omega
  rw [this, e, Nat.shiftRight_eq_div_pow]
  have : (2 ^ i : Int) = ((2 ^ i : Nat) : Int) := by simp
  rw [this, Int.fdiv_eq_ediv_of_nonneg _ (Int.natCast_nonneg _)]
  rfl
theorem shr_lt {a i : Nat} (ha : a < 2 ^ 32) : a >>> i < 2 ^ 32 := by rw [Nat.shiftRight_eq_div_pow]; exact Nat.lt_of_le_of_lt (Nat.div_le_self _ _) ha
theorem bitEq (a i : Nat) : ((((a >>> i) &&& 1 : Nat) : Int) == 1) = a.testBit i := by
  have : (a >>> i) &&& 1 = (a.testBit i).toNat := by
    rw [Nat.and_one_is_mod, Nat.testBit_eq_decide_div_mod_eq, Nat.shiftRight_eq_div_pow]
    have := Nat.mod_two_eq_zero_or_one (a / 2 ^ i)
    rcases this with h | h <;> simp [h]
  rw [this]; cases a.testBit i <;> rfl
def cubeR (on off : Nat) : Nat → T
  | 0 => .lf true
  | k + 1 => if on.testBit (23 - k) then T.mk (23 - k) (.lf false) (cubeR on off k) else if off.testBit (23 - k) then T.mk (23 - k) (cubeR on off k) (.lf false) else cubeR on off k
theorem cubeR_ok (on off : Nat) : ∀ k, k ≤ 24 → (cubeR on off k).ok (24 - k)
  | 0, _ => trivial
  | k + 1, hk => by
    have ih := cubeR_ok on off k (by omega)
    have e : 24 - k = 23 - k + 1 := by omega
    have e2 : 24 - (k + 1) = 23 - k := by omega
    rw [e] at ih
    unfold cubeR
    rw [e2]
    split
    · exact T.mk_ok (Nat.le_refl _) (by omega) trivial ih
    · split
      · exact T.mk_ok (Nat.le_refl _) (by omega) ih trivial
      · exact ih.mono (by omega)
theorem cubeR_at (on off : Nat) (c : Cfg) : ∀ k, k ≤ 24 → ((cubeR on off k).at' c = true ↔ ∀ i, 24 - k ≤ i → i < 24 → (on.testBit i = true → c i = true) ∧ (on.testBit i = false → off.testBit i = true → c i = false))
  | 0, _ => ⟨fun _ i h1 h2 => by omega, fun _ => rfl⟩
  | k + 1, hk => by
    have ih := cubeR_at on off c k (by omega)
    have step : (∀ i, 24 - (k + 1) ≤ i → i < 24 → (on.testBit i = true → c i = true) ∧ (on.testBit i = false → off.testBit i = true → c i = false)) ↔
        ((on.testBit (23 - k) = true → c (23 - k) = true) ∧ (on.testBit (23 - k) = false → off.testBit (23 - k) = true → c (23 - k) = false)) ∧ (∀ i, 24 - k ≤ i → i < 24 → (on.testBit i = true → c i = true) ∧ (on.testBit i = false → off.testBit i = true → c i = false)) := by
      constructor
      · exact fun h => ⟨h _ (by omega) (by omega), fun i h1 h2 => h i (by omega) h2⟩
      · rintro ⟨h1, h2⟩ i h3 h4
        by_cases e : i = 23 - k
        · subst e; exact h1
        · exact h2 i (by omega) h4
    rw [step, ← ih]
    have e : cubeR on off (k + 1) = if on.testBit (23 - k) then T.mk (23 - k) (.lf false) (cubeR on off k) else if off.testBit (23 - k) then T.mk (23 - k) (cubeR on off k) (.lf false) else cubeR on off k := rfl
    rw [e]
    generalize cubeR on off k = r
    cases h1 : on.testBit (23 - k) <;> cases h2 : off.testBit (23 - k) <;> cases hc : c (23 - k) <;> simp [T.mk_at, T.at', hc]
def cubeT (on off : Nat) : T := if (on &&& 16777215) &&& (off &&& 16777215) ≠ 0 then .lf false else cubeR (on &&& 16777215) (off &&& 16777215) 24
theorem cubeT_ok (on off : Nat) : (cubeT on off).ok 0 := by
  unfold cubeT; split
  · trivial
  · exact cubeR_ok _ _ 24 (Nat.le_refl _)
def cubeS (on off mb : Nat) (a : Nat × Nat) : St :=
  ⟨sp 0 45 [(0, .v (.int .u32 on)), (1, .v (.int .u32 off)), (4, .p 4 0), (5, .v (pt mb)), (6, .v (iv a.2)), (7, .v (.int .i64 (23 - (a.1 : Int))))], [⟨4, 50, [.slice none 0 0, .int .i64 0]⟩]⟩
def cubeQ (on off mb : Nat) (I0 : PH) (a : Nat × Nat) (H : PH) : Prop :=
  ∃ I mk ms, H = U (I :: mk) ∧ Dj (I :: mk) ∧ I0.le I ∧ a.1 ≤ 24 ∧ IsMk mb ms mk ∧ ms.length ≤ a.1 ∧ T.isIn ms (cubeR on off a.1) ∧ a.2 = T.plc ms (cubeR on off a.1)
theorem cube_c {I : PH} {on off : Nat} (hon : on < 2 ^ 32) (hoff : off < 2 ^ 32) : DoesI Tryz.prog 69 #[.int .u32 on, .int .u32 off] I [] fun v I2 qs => qs = [] ∧ RepD I2 v (cubeT on off) := by
  intro hd
  refine Does_of Tryz.func69 rfl (by simp [Tryz.ntmps69]) fun w0 => ?_
  simp only [Tryz.ntmps69, iv]
  have h16 : (16777215 : Nat) < 2 ^ 32 := by decide
  have hon2 : on &&& 16777215 < 2 ^ 32 := Nat.lt_of_le_of_lt Nat.and_le_left hon
  have hoff2 : off &&& 16777215 < 2 ^ 32 := Nat.lt_of_le_of_lt Nat.and_le_left hoff
  have e1 := and32 hon h16
  have e2 := and32 hoff h16
  have e3 := and32 hon2 hoff2
  simp only [Int.cast_ofNat_Int] at e1 e2
  by_cases hz : (on &&& 16777215) &&& (off &&& 16777215) = 0
  · have h15 : ((((on &&& 16777215) &&& (off &&& 16777215) : Nat) : Int) != 0) = false := by rw [hz]; rfl
    (refine RG ?_; simp only [go_sem, e1, e2, e3, h15])
    refine RC_callI hd [] rfl rfl rfl rfl goes124 rfl (F := []) rfl (newMaker_c I) fun v I2 qs hd2 hle2 hq => ?_
    obtain ⟨mb, rfl, hM⟩ := hq
    simp only [List.append_nil] at hd2 ⊢
    (refine RG ?_; simp only [go_sem, iv, pt])
    refine RC_loopD (fun a => 24 - a.1) (cubeS (on &&& 16777215) (off &&& 16777215) mb) (cubeQ (on &&& 16777215) (off &&& 16777215) mb I) (0, 1) (by simp only [go_sem, List.append_nil, cubeS, iv, pt, Int.sub_zero]) (by simp only [go_sem, List.append_nil, cubeS, iv]) ?_ ?_
    · exact ⟨I2, qs, [], rfl, hd2, hle2, Nat.zero_le _, hM, by simp, trivial, rfl⟩
    rintro ⟨k, r⟩ H ⟨I3, mk, ms, rfl, hd3, hle3, hk, hM3, hml, hin, hr⟩ hnext
    simp only at hk hM3 hml hin hr
    subst hr
    simp only [cubeS]
    rcases Nat.lt_or_ge k 24 with hlt | hge
    · have h19 : decide (23 - (k : Int) ≥ 0) = true := by simp; omega
      have ei : (23 - (k : Int)) = ((23 - k : Nat) : Int) := by omega
      have ewr : IntKind.i64.wrap (((23 - k : Nat) : Int) - 1) = 23 - ((k + 1 : Nat) : Int) := by
        have h1 : (((23 - k : Nat) : Int) - 1) = 22 - (k : Int) := by omega
        rw [h1]
        have : ∀ k : Nat, k < 24 → IntKind.i64.wrap (22 - (k : Int)) = 23 - ((k + 1 : Nat) : Int) := by decide
        exact this k hlt
      have hs1 := shr32 (a := on &&& 16777215) (i := 23 - k) (by omega)
      have hs2 := shr32 (a := off &&& 16777215) (i := 23 - k) (by omega)
      have ha1 := and32 (shr_lt (i := 23 - k) hon2) (show (1 : Nat) < 2 ^ 32 by decide)
      have ha2 := and32 (shr_lt (i := 23 - k) hoff2) (show (1 : Nat) < 2 ^ 32 by decide)
      simp only [Int.cast_ofNat_Int] at ha1 ha2
      have hb1 := bitEq (on &&& 16777215) (23 - k)
      have hb2 := bitEq (off &&& 16777215) (23 - k)
      have h19' : decide (((23 - k : Nat) : Int) ≥ 0) = true := by simp
      have ge0 : (0 : Int) ≤ ((23 - k : Nat) : Int) := by omega
      have hok := cubeR_ok (on &&& 16777215) (off &&& 16777215) k hk
      rw [show 24 - k = 23 - k + 1 by omega] at hok
      rw [ei]
      cases b1 : (on &&& 16777215).testBit (23 - k)
      · cases b2 : (off &&& 16777215).testBit (23 - k)
        · (refine RG ?_; simp only [go_sem, h19', ge0, hs1, hs2, ha1, ha2, hb1, hb2, b1, b2, iv, pt, ewr])
          refine hnext (k + 1, T.plc ms (cubeR (on &&& 16777215) (off &&& 16777215) k)) _ _ (by simp only; omega) (by simp only [go_sem, List.append_nil, cubeS, iv, pt]) (by simp only [go_sem, List.append_nil, cubeS, iv]) ⟨I3, mk, ms, rfl, hd3, hle3, hlt, hM3, by omega, ?_, ?_⟩
          · simp only [cubeR, b1, b2, Bool.false_eq_true, if_false]; exact hin
          · simp only [cubeR, b1, b2, Bool.false_eq_true, if_false]
        · (refine RG ?_; simp only [go_sem, h19', ge0, hs1, hs2, ha1, ha2, hb1, hb2, b1, b2, iv, pt])
          have c1 := node_c (mb := mb) (I := I3) (i := 23 - k) (lo := cubeR (on &&& 16777215) (off &&& 16777215) k) (hi := .lf false) hM3 (by omega) hok trivial hin trivial (by omega)
          obtain ⟨mA, mS, mR, mM, rfl, hmA, hmM, hmS⟩ := hM3
          refine RC_callI hd3 [0, 1, 2] rfl rfl rfl rfl goes125 rfl (F := []) rfl c1 fun v1 I4 qs hd4 hle4 hps => ?_
          obtain ⟨us, hM4, hn4, hin4, rfl⟩ := hps
          simp only [List.append_nil] at hd4 ⊢
          (refine RG ?_; simp only [go_sem, iv, pt, ewr])
          refine hnext (k + 1, T.plc (ms ++ us) (cubeR (on &&& 16777215) (off &&& 16777215) (k + 1))) _ _ (by simp only; omega) ?_ (by simp only [go_sem, List.append_nil, cubeS, iv]) ⟨I4, qs, ms ++ us, rfl, hd4, PH.le_trans hle3 hle4, hlt, hM4, by simp only [List.length_append]; omega, ?_, rfl⟩
          · simp only [cubeR, b1, b2, if_true, Bool.false_eq_true, if_false]; exact (by simp only [go_sem, List.append_nil, cubeS, iv, pt])
          · simp only [cubeR, b1, b2, if_true, Bool.false_eq_true, if_false]; exact hin4
      · (refine RG ?_; simp only [go_sem, h19', ge0, hs1, hs2, ha1, ha2, hb1, hb2, b1, iv, pt])
        have c1 := node_c (mb := mb) (I := I3) (i := 23 - k) (lo := .lf false) (hi := cubeR (on &&& 16777215) (off &&& 16777215) k) hM3 (by omega) trivial hok trivial hin (by omega)
        obtain ⟨mA, mS, mR, mM, rfl, hmA, hmM, hmS⟩ := hM3
        refine RC_callI hd3 [0, 1, 2] rfl rfl rfl rfl goes125 rfl (F := []) rfl c1 fun v1 I4 qs hd4 hle4 hps => ?_
        obtain ⟨us, hM4, hn4, hin4, rfl⟩ := hps
        simp only [List.append_nil] at hd4 ⊢
        (refine RG ?_; simp only [go_sem, iv, pt, ewr])
        refine hnext (k + 1, T.plc (ms ++ us) (cubeR (on &&& 16777215) (off &&& 16777215) (k + 1))) _ _ (by simp only; omega) ?_ (by simp only [go_sem, List.append_nil, cubeS, iv]) ⟨I4, qs, ms ++ us, rfl, hd4, PH.le_trans hle3 hle4, hlt, hM4, by simp only [List.length_append]; omega, ?_, rfl⟩
        · simp only [cubeR, b1, if_true, Bool.false_eq_true, if_false]; exact (by simp only [go_sem, List.append_nil, cubeS, iv, pt])
        · simp only [cubeR, b1, if_true, Bool.false_eq_true, if_false]; exact hin4
    · have hk24 : k = 24 := by omega
      subst hk24
      have h19 : decide (23 - ((24 : Nat) : Int) ≥ 0) = false := by decide
      have hok := cubeR_ok (on &&& 16777215) (off &&& 16777215) 24 (Nat.le_refl _)
      have hct : cubeT on off = cubeR (on &&& 16777215) (off &&& 16777215) 24 := by unfold cubeT; rw [if_neg (by simpa using hz)]
      rw [show 23 - ((24 : Nat) : Int) = -1 by decide] at h19 ⊢
      (refine RG ?_; simp only [go_sem, h19, iv, pt])
      obtain ⟨mA, mS, mR, mM, rfl, hmA, hmM, hmS⟩ := id hM3
      refine RC_callI hd3 [0, 1, 2] rfl rfl rfl rfl goes126 rfl (F := []) rfl (done_c (mb := mb) hM3 hin hok (by omega)) fun v2 I4 qs hd4 hle4 hq => ?_
      obtain ⟨rfl, hr⟩ := hq
      rw [← hct] at hr
      obtain ⟨xr, cr, rfl⟩ := hr.shape
      simp only [List.append_nil] at hd4 ⊢
      (refine RG ?_; simp only [go_sem, iv])
      exact R_ret_I rfl hd4 (r := [.agg #[.slice xr (T.subs (cubeT on off)).length cr, iv (T.plc (T.subs (cubeT on off)) (cubeT on off))]]) (by (simp only [Tryz.results69, go_sem, iv])) (PH.le_trans hle3 hle4) ⟨rfl, hr⟩
  · have h15 : ((((on &&& 16777215) &&& (off &&& 16777215) : Nat) : Int) != 0) = true := by
      simp only [bne_iff_ne, ne_eq]; omega
    have hct : cubeT on off = .lf false := by unfold cubeT; rw [if_pos (by simpa using hz)]
    (refine RG ?_; simp only [go_sem, e1, e2, e3, h15])
    exact R_ret_I rfl hd (r := [.agg #[.slice none 0 0, iv 0]]) (by (simp only [Tryz.results69, go_sem, iv])) (PH.le_refl _) ⟨rfl, by rw [hct]; exact rep_lf I false⟩
end Go.Proofs.YtfaclfkpnmcmlaaGreatDoor
end
section
namespace Go.Proofs.YtfaclfkpnmcmlaaGreatDoor
open Go Go.Sx Dg
def cfgOf (c : Nat) : Cfg := fun i => c.testBit i
def cubesT (l : List (Nat × Nat)) : T := l.foldl (fun d x => d.or (cubeT x.1 x.2)) (.lf false)
def inC (c : Nat) (x : Nat × Nat) : Bool := decide ((c &&& x.1) &&& 16777215 = x.1 &&& 16777215) && decide ((c &&& x.2) &&& 16777215 = 0)
def inB (l : List (Nat × Nat)) (c : Nat) : Bool := l.any (inC c)
theorem bit24 (i : Nat) : (16777215 : Nat).testBit i = decide (i < 24) := by
  rw [show (16777215 : Nat) = 2 ^ 24 - 1 from rfl, Nat.testBit_two_pow_sub_one]
theorem inC_iff (c : Nat) (x : Nat × Nat) : inC c x = true ↔ ∀ i, i < 24 → (x.1.testBit i = true → c.testBit i = true) ∧ (x.2.testBit i = true → c.testBit i = false) := by
  unfold inC
  rw [Bool.and_eq_true, decide_eq_true_eq, decide_eq_true_eq]
  constructor
  · rintro ⟨h1, h2⟩ i hi
    have e1 := congrArg (fun n => n.testBit i) h1
    have e2 := congrArg (fun n => n.testBit i) h2
    simp only [Nat.testBit_and, bit24, hi, decide_true, Bool.and_true, Nat.zero_testBit] at e1 e2
    refine ⟨fun h => ?_, fun h => ?_⟩
    · rw [h] at e1; simpa using e1
    · rw [h] at e2; simpa using e2
  · intro h
    constructor
    · apply Nat.eq_of_testBit_eq
      intro i
      simp only [Nat.testBit_and, bit24]
      by_cases hi : i < 24
      · have := (h i hi).1
        cases h1 : x.1.testBit i
        · simp
        · simp [this h1]
      · simp [hi]
    · apply Nat.eq_of_testBit_eq
      intro i
      simp only [Nat.testBit_and, bit24, Nat.zero_testBit]
      by_cases hi : i < 24
      · have := (h i hi).2
        cases h1 : x.2.testBit i
        · simp
        · simp [this h1]
      · simp [hi]
theorem cubeT_at (c : Nat) (x : Nat × Nat) : (cubeT x.1 x.2).at' (cfgOf c) = inC c x := by
  rw [Bool.eq_iff_iff, inC_iff]
  unfold cubeT
  split
  · rename_i h
    constructor
    · intro h; cases h
    · intro k
      refine absurd ?_ h
      apply Nat.eq_of_testBit_eq
      intro i
      simp only [Nat.testBit_and, bit24, Nat.zero_testBit]
      by_cases hi : i < 24
      · have h1 := (k i hi).1
        have h2 := (k i hi).2
        cases e1 : x.1.testBit i <;> cases e2 : x.2.testBit i <;> simp_all
      · simp [hi]
  · rename_i h
    have h0 : ∀ i, i < 24 → x.1.testBit i = true → x.2.testBit i = true → False := by
      intro i hi e1 e2
      apply h
      intro e
      have := congrArg (fun n => n.testBit i) e
      simp [Nat.testBit_and, bit24, hi, e1, e2] at this
    rw [cubeR_at _ _ _ 24 (Nat.le_refl _)]
    constructor
    · intro k i hi
      have := k i (by omega) hi
      simp only [Nat.testBit_and, bit24, hi, decide_true, Bool.and_true] at this
      refine ⟨this.1, fun e => ?_⟩
      cases e1 : x.1.testBit i
      · exact this.2 e1 e
      · exact (h0 i hi e1 e).elim
    · intro k i _ hi
      have := k i hi
      simp only [Nat.testBit_and, bit24, hi, decide_true, Bool.and_true]
      exact ⟨this.1, fun _ e => this.2 e⟩
theorem cubesT_fold (c : Nat) : ∀ (l : List (Nat × Nat)) (z : T), z.ok 0 → (l.foldl (fun d x => d.or (cubeT x.1 x.2)) z).ok 0 ∧ (l.foldl (fun d x => d.or (cubeT x.1 x.2)) z).at' (cfgOf c) = (z.at' (cfgOf c) || inB l c)
  | [], z, hz => ⟨hz, by simp [inB]⟩
  | x :: l, z, hz => by
    have hx := cubeT_ok x.1 x.2
    obtain ⟨h1, h2⟩ := cubesT_fold c l (z.or (cubeT x.1 x.2)) (T.or_ok hz hx)
    refine ⟨h1, ?_⟩
    rw [List.foldl_cons, h2, T.or_at hz hx, cubeT_at]
    simp [inB, Bool.or_assoc]
theorem cubesT_ok (l : List (Nat × Nat)) : (cubesT l).ok 0 := (cubesT_fold 0 l (.lf false) trivial).1
theorem cubesT_at (l : List (Nat × Nat)) (c : Nat) : (cubesT l).at' (cfgOf c) = inB l c := by
  have := (cubesT_fold c l (.lf false) trivial).2
  rw [show (T.lf false).at' (cfgOf c) = false from rfl, Bool.false_or] at this
  exact this
end Go.Proofs.YtfaclfkpnmcmlaaGreatDoor
end
section
namespace Go.Proofs.YtfaclfkpnmcmlaaGreatDoor
open Go Go.Sx Dg
theorem or32x {a b : Nat} (ha : a < 2 ^ 32) (hb : b < 2 ^ 32) : orI .u32 (a : Int) (b : Int) = ((a ||| b : Nat) : Int) := by
  have ea : BitVec.ofInt 32 (a : Int) = BitVec.ofNat _ a := by rw [BitVec.ofInt_natCast]
  have eb : BitVec.ofInt 32 (b : Int) = BitVec.ofNat _ b := by rw [BitVec.ofInt_natCast]
  have hc : a ||| b < 2 ^ 32 := Nat.or_lt_two_pow ha hb
  have : orI .u32 (a : Int) (b : Int) = IntKind.u32.wrap ((BitVec.ofInt 32 (a : Int) ||| BitVec.ofInt 32 (b : Int)).toNat : Int) := rfl
  rw [this, ea, eb, BitVec.toNat_or, BitVec.toNat_ofNat, BitVec.toNat_ofNat, Nat.mod_eq_of_lt ha, Nat.mod_eq_of_lt hb]
  simp only [IntKind.wrap, show IntKind.bits .u32 = 32 from rfl, show IntKind.signed .u32 = false from rfl]
  have : ((a ||| b : Nat) : Int) % (2 ^ 32 : Int) = ((a ||| b : Nat) : Int) := Int.emod_eq_of_lt (by omega) (by exact_mod_cast hc)
  simpa using this
theorem shl32 {i : Nat} (hi : i < 32) : shlI .u32 1 (i : Int) = ((2 ^ i : Nat) : Int) := by
  have : shlI .u32 1 (i : Int) = IntKind.u32.wrap (1 * 2 ^ (min i 32)) := rfl
  have e : min i 32 = i := by omega
  have hc : (2 : Nat) ^ i < 2 ^ 32 := Nat.pow_lt_pow_right (by omega) hi
  rw [this, e, show (1 * 2 ^ i : Int) = ((2 ^ i : Nat) : Int) by simp]
  simp only [IntKind.wrap, show IntKind.bits .u32 = 32 from rfl, show IntKind.signed .u32 = false from rfl]
  have : ((2 ^ i : Nat) : Int) % (2 ^ 32 : Int) = ((2 ^ i : Nat) : Int) := Int.emod_eq_of_lt (Int.natCast_nonneg _) (by exact_mod_cast hc)
  simpa using this
def bitsF (l : List (Nat × Nat)) : Nat := l.foldl (fun u x => (u ||| x.1) ||| x.2) 0
def bitsN (l : List (Nat × Nat)) : Nat := bitsF l &&& 16777215
theorem bitsF_snoc (l : List (Nat × Nat)) (x : Nat × Nat) : bitsF (l ++ [x]) = (bitsF l ||| x.1) ||| x.2 := by unfold bitsF; rw [List.foldl_append]; rfl
def SubB (l : List (Nat × Nat)) (u : Nat) : Prop := ∀ x ∈ l, ∀ i, i < 24 → x.1.testBit i = true ∨ x.2.testBit i = true → u.testBit i = true
theorem SubB.left {l : List (Nat × Nat)} {u : Nat} (h : SubB l u) (v : Nat) : SubB l (u ||| v) := fun x hx i hi hb => by rw [Nat.testBit_or, h x hx i hi hb]; rfl
theorem fold_le (l : List (Nat × Nat)) : ∀ (z i : Nat), z.testBit i = true → (l.foldl (fun u x => (u ||| x.1) ||| x.2) z).testBit i = true := by
  induction l with
  | nil => intro z i h; exact h
  | cons y l ih => intro z i h; exact ih _ i (by rw [Nat.testBit_or, Nat.testBit_or, h]; rfl)
theorem fold_sub (l : List (Nat × Nat)) : ∀ (z : Nat), ∀ x ∈ l, ∀ i, x.1.testBit i = true ∨ x.2.testBit i = true → (l.foldl (fun u x => (u ||| x.1) ||| x.2) z).testBit i = true := by
  induction l with
  | nil => intro z x hx; exact (List.not_mem_nil hx).elim
  | cons y l ih =>
    intro z x hx i hb
    rcases List.mem_cons.1 hx with rfl | hx
    · refine fold_le l _ i ?_
      rw [Nat.testBit_or, Nat.testBit_or]
      rcases hb with hb | hb <;> rw [hb] <;> simp
    · exact ih _ x hx i hb
theorem subB_bits (l : List (Nat × Nat)) : SubB l (bitsN l) := fun x hx i hi hb => by
  unfold bitsN
  rw [Nat.testBit_and, bit24]
  simp only [hi, decide_true, Bool.and_true]
  exact fold_sub l 0 x hx i hb
theorem bitsN_lt (l : List (Nat × Nat)) : bitsN l < 2 ^ 24 := Nat.lt_of_le_of_lt Nat.and_le_right (by decide)
theorem inB_sub {l : List (Nat × Nat)} {u : Nat} (h : SubB l u) (c : Nat) : inB l (c &&& u) = inB l c := by
  unfold inB
  have : ∀ x ∈ l, inC (c &&& u) x = inC c x := fun x hx => by
    rw [Bool.eq_iff_iff, inC_iff, inC_iff]
    constructor
    · intro k i hi
      obtain ⟨k1, k2⟩ := k i hi
      rw [Nat.testBit_and] at k1 k2
      refine ⟨fun hb => ?_, fun hb => ?_⟩
      · have := k1 hb; rw [Bool.and_eq_true] at this; exact this.1
      · have := k2 hb; rw [h x hx i hi (.inr hb), Bool.and_true] at this; exact this
    · intro k i hi
      obtain ⟨k1, k2⟩ := k i hi
      rw [Nat.testBit_and]
      exact ⟨fun hb => by rw [k1 hb, h x hx i hi (.inl hb)]; rfl, fun hb => by rw [k2 hb]; rfl⟩
  clear h
  induction l with
  | nil => rfl
  | cons y l ih =>
    rw [List.any_cons, List.any_cons, this y (.head _), ih fun x hx => this x (.tail _ hx)]
def cfgsN (u : Nat) : Nat → List Nat
  | 0 => [0]
  | i + 1 => if u.testBit i = true then cfgsN u i ++ (cfgsN u i).map (fun x => x ||| 2 ^ i) else cfgsN u i
theorem cfgsN_lt (u : Nat) : ∀ (i : Nat), ∀ x ∈ cfgsN u i, x < 2 ^ i
  | 0, x, h => by
    unfold cfgsN at h
    rw [List.mem_singleton] at h; subst h; decide
  | i + 1, x, h => by
    have hm : ∀ y ∈ cfgsN u i, y < 2 ^ (i + 1) := fun y hy => Nat.lt_of_lt_of_le (cfgsN_lt u i y hy) (Nat.pow_le_pow_right (by omega) (by omega))
    unfold cfgsN at h
    split at h
    · rcases List.mem_append.1 h with h | h
      · exact hm x h
      · obtain ⟨y, hy, rfl⟩ := List.mem_map.1 h
        exact Nat.or_lt_two_pow (hm y hy) (Nat.pow_lt_pow_right (by omega) (by omega))
    · exact hm x h
theorem cfgsN_mem (u c : Nat) : ∀ i : Nat, (c &&& u) % 2 ^ i ∈ cfgsN u i
  | 0 => by unfold cfgsN; rw [Nat.pow_zero, Nat.mod_one]; exact .head _
  | i + 1 => by
    have ih := cfgsN_mem u c i
    have key : ∀ y : Nat, (∀ j, y.testBit j = (decide (j < i + 1) && (c &&& u).testBit j)) → (c &&& u) % 2 ^ (i + 1) = y := fun y hy => by
      apply Nat.eq_of_testBit_eq
      intro j
      rw [hy j, Nat.testBit_mod_two_pow]
    unfold cfgsN
    by_cases hu : u.testBit i = true
    · rw [if_pos hu]
      by_cases hc : c.testBit i = true
      · refine List.mem_append_right _ (List.mem_map.2 ⟨_, ih, (key _ fun j => ?_).symm⟩)
        rw [Nat.testBit_or, Nat.testBit_mod_two_pow, Nat.testBit_two_pow]
        by_cases hj : i = j
        · subst hj; simp [Nat.testBit_and, hu, hc]
        · rw [show decide (j < i + 1) = decide (j < i) by rw [decide_eq_decide]; omega]
          simp [hj]
      · refine List.mem_append_left _ ?_
        rw [key _ fun j => ?_]
        · exact ih
        · rw [Nat.testBit_mod_two_pow]
          by_cases hj : i = j
          · subst hj; simp [Nat.testBit_and, hc]
          · rw [show decide (j < i + 1) = decide (j < i) by rw [decide_eq_decide]; omega]
    · rw [if_neg hu, key _ fun j => ?_]
      · exact ih
      · rw [Nat.testBit_mod_two_pow]
        by_cases hj : i = j
        · subst hj; simp [Nat.testBit_and, hu]
        · rw [show decide (j < i + 1) = decide (j < i) by rw [decide_eq_decide]; omega]
def thoseN (l : List (Nat × Nat)) (u : Nat) : List Nat := (cfgsN u 32).filter (inB l)
theorem thoseN_mem {l : List (Nat × Nat)} {u c : Nat} (hu : u < 2 ^ 32) (h : SubB l u) : (thoseN l u).contains (c &&& u) = inB l c := by
  have h1 := cfgsN_mem u c 32
  rw [Nat.mod_eq_of_lt (Nat.lt_of_le_of_lt Nat.and_le_right hu)] at h1
  rw [Bool.eq_iff_iff, List.contains_iff_mem]
  unfold thoseN
  rw [List.mem_filter, inB_sub h]
  exact ⟨fun h => h.2, fun k => ⟨h1, k⟩⟩
end Go.Proofs.YtfaclfkpnmcmlaaGreatDoor
end
section
namespace Syn
open Dg
abbrev Txt := List UInt8
structure Nd where
  kind : Nat
  text : Txt
  tok : Int
  slot : Int
  kids : List Nd
  cond : T
structure Dgn where
  code : Nat
  tok : Int
  cond : T
deriving DecidableEq
structure Tok where
  kind : Nat
  text : Txt
  cond : T
  fits : Bool
abbrev ff : T := .lf false
def maxL : Nat := 2 ^ 40
end Syn
end
section
namespace Go.Proofs.YtfaclfkpnmcmlaaGreatDoor
open Go Go.Sx Dg Syn
def LR {α : Type} (R : List Value → α → Prop) : List Value → List α → Prop
  | xs, [] => xs = []
  | xs, a :: l => ∃ c ys, xs = c ++ ys ∧ R c a ∧ LR R ys l
section
variable {α : Type} {R : List Value → α → Prop} {n : Nat}
theorem LR.len (hR : ∀ c a, R c a → c.length = n) : ∀ {l : List α} {xs : List Value}, LR R xs l → xs.length = l.length * n
  | [], xs, h => by rw [show xs = [] from h]; simp
  | a :: l, xs, ⟨c, ys, e, h1, h2⟩ => by
    rw [e, List.length_append, hR c a h1, LR.len hR h2, List.length_cons, Nat.add_mul]; omega
theorem LR.mono {R' : List Value → α → Prop} (h : ∀ c a, R c a → R' c a) : ∀ {l : List α} {xs : List Value}, LR R xs l → LR R' xs l
  | [], xs, k => k
  | a :: l, xs, ⟨c, ys, e, h1, h2⟩ => ⟨c, ys, e, h c a h1, LR.mono h h2⟩
theorem LR.app : ∀ {l m : List α} {xs ys : List Value}, LR R xs l → LR R ys m → LR R (xs ++ ys) (l ++ m)
  | [], m, xs, ys, h, k => by rw [show xs = [] from h]; exact k
  | a :: l, m, xs, ys, ⟨c, zs, e, h1, h2⟩, k => ⟨c, zs ++ ys, by rw [e, List.append_assoc], h1, LR.app h2 k⟩
theorem LR.one {c : List Value} {a : α} (h : R c a) : LR R c [a] := ⟨c, [], by simp, h, rfl⟩
theorem LR.get (hR : ∀ c a, R c a → c.length = n) : ∀ {l : List α} {xs : List Value} {i : Nat} {a : α}, LR R xs l → l[i]? = some a → R ((xs.drop (i * n)).take n) a
  | [], xs, i, a, h, k => by simp at k
  | b :: l, xs, 0, a, ⟨c, ys, e, h1, h2⟩, k => by
    simp only [List.getElem?_cons_zero, Option.some.injEq] at k
    subst k
    rw [e, Nat.zero_mul, List.drop_zero, List.take_left' (hR c b h1)]; exact h1
  | b :: l, xs, i + 1, a, ⟨c, ys, e, h1, h2⟩, k => by
    simp only [List.getElem?_cons_succ] at k
    rw [e, Nat.add_mul, Nat.one_mul, Nat.add_comm, ← List.drop_drop, List.drop_left' (hR c b h1)]
    exact LR.get hR h2 k
theorem LR.split (hR : ∀ c a, R c a → c.length = n) : ∀ {l : List α} {xs : List Value} (i : Nat), LR R xs l → LR R (xs.take (i * n)) (l.take i) ∧ LR R (xs.drop (i * n)) (l.drop i)
  | l, xs, 0, h => by simp only [Nat.zero_mul, List.take_zero, List.drop_zero]; exact ⟨rfl, h⟩
  | [], xs, i + 1, h => by rw [show xs = [] from h]; simp only [List.take_nil, List.drop_nil]; exact ⟨rfl, rfl⟩
  | b :: l, xs, i + 1, ⟨c, ys, e, h1, h2⟩ => by
    obtain ⟨k1, k2⟩ := LR.split hR i h2
    have hc := hR c b h1
    rw [e, Nat.add_mul, Nat.one_mul, Nat.add_comm (i * n)]
    constructor
    · have : (c ++ ys).take (n + i * n) = c ++ ys.take (i * n) := by rw [← hc]; exact List.take_length_add_append _
      rw [this, List.take_succ_cons]; exact ⟨c, _, rfl, h1, k1⟩
    · rw [← List.drop_drop, List.drop_left' hc, List.drop_succ_cons]; exact k2
theorem LR.set (hR : ∀ c a, R c a → c.length = n) {l : List α} {xs : List Value} {i : Nat} {a : α} {c : List Value} (h : LR R xs l) (hi : i < l.length) (hc : R c a) : LR R (xs.take (i * n) ++ c ++ xs.drop ((i + 1) * n)) (l.set i a) := by
  obtain ⟨h1, h2⟩ := LR.split hR i h
  obtain ⟨_, h4⟩ := LR.split hR (i + 1) h
  have e : l.set i a = l.take i ++ [a] ++ l.drop (i + 1) := by
    rw [List.set_eq_take_append_cons_drop, if_pos hi]; simp
  rw [e]
  exact (h1.app (.one hc)).app h4
end
def Sl {α : Type} (R : PH → List Value → α → Prop) (I : PH) (v : Value) (l : List α) : Prop := ∃ a c, v = .slice a l.length c ∧ (l = [] ∨ ∃ b off xs, a = some ⟨b, off, none⟩ ∧ Cells I b off xs ∧ LR (R I) xs l)
theorem Sl.le {α : Type} {R : PH → List Value → α → Prop} (hR : ∀ {I J c a}, R I c a → I.le J → R J c a) {I J : PH} {v : Value} {l : List α} (h : Sl R I v l) (hle : I.le J) : Sl R J v l := by
  obtain ⟨a, c, e, h⟩ := h
  exact ⟨a, c, e, h.imp id fun ⟨b, off, xs, e1, e2, e3⟩ => ⟨b, off, xs, e1, e2.le hle, e3.mono fun c a h => hR h hle⟩⟩
def Ow {α : Type} (R : PH → List Value → α → Prop) (e : TypeId) (size : Nat) (I A : PH) (v : Value) (l : List α) : Prop := ∃ xs, Row A e size v l.length xs ∧ LR (R I) xs l
theorem Ow.le {α : Type} {R : PH → List Value → α → Prop} (hR : ∀ {I J c a}, R I c a → I.le J → R J c a) {e : TypeId} {size : Nat} {I J A : PH} {v : Value} {l : List α} (h : Ow R e size I A v l) (hle : I.le J) : Ow R e size J A v l := by
  obtain ⟨xs, h1, h2⟩ := h; exact ⟨xs, h1, h2.mono fun c a h => hR h hle⟩
theorem Ow.nil {α : Type} (R : PH → List Value → α → Prop) (e : TypeId) (size : Nat) (I : PH) : Ow R e size I PH.no (.slice none 0 0) ([] : List α) := ⟨[], Row.nil e size, rfl⟩
theorem Ow.sl {α : Type} {R : PH → List Value → α → Prop} (hR : ∀ {I J c a}, R I c a → I.le J → R J c a) {e : TypeId} {size : Nat} {I J A : PH} {v : Value} {l : List α} (h : Ow R e size I A v l) (h1 : I.le J) (h2 : A.le J) : Sl R J v l := by
  obtain ⟨xs, h3, h4⟩ := h
  obtain ⟨a, c, e⟩ := h3.slice
  rcases Nat.eq_zero_or_pos l.length with hz | hp
  · subst e; exact ⟨a, c, rfl, .inl (List.length_eq_zero_iff.1 hz)⟩
  · obtain ⟨g, cap, e2, hc⟩ := h3.1.cells hp
    exact ⟨_, cap, e2, .inr ⟨g, 0, xs, rfl, hc.le h2, h4.mono fun c a h => hR h h1⟩⟩
theorem Ow.shape {α : Type} {R : PH → List Value → α → Prop} {e : TypeId} {size : Nat} {I A : PH} {v : Value} {l : List α} (h : Ow R e size I A v l) : ∃ a c, v = .slice a l.length c := by
  obtain ⟨xs, h3, _⟩ := h; exact h3.slice
end Go.Proofs.YtfaclfkpnmcmlaaGreatDoor
end
section
namespace Go.Proofs.YtfaclfkpnmcmlaaGreatDoor
open Go Go.Sx Dg Syn
theorem LR.ones {α : Type} {R : List Value → α → Prop} (hR : ∀ c a, R c a → c.all Sx.one = true) : ∀ {l : List α} {xs : List Value}, LR R xs l → xs.all Sx.one = true
  | [], xs, h => by rw [show xs = [] from h]; rfl
  | a :: l, xs, ⟨c, ys, e, h1, h2⟩ => by rw [e, List.all_append, hR c a h1, LR.ones hR h2]; rfl
end Go.Proofs.YtfaclfkpnmcmlaaGreatDoor
end
section
namespace Go.Proofs.YtfaclfkpnmcmlaaGreatDoor
open Go Go.Sx Dg Syn
theorem Sl.load {α : Type} {R : PH → List Value → α → Prop} {n : Nat} (hR : ∀ {I} c a, R I c a → c.length = n) {I : PH} {a : Option Addr} {m c : Nat} {l : List α} (h : Sl R I (.slice a m c) l) {i : Nat} {x : α} (hi : l[i]? = some x) :
    ∃ b off cs, a = some ⟨b, off, none⟩ ∧ R I cs x ∧ Cells I b (off + i * n) cs := by
  obtain ⟨a', c', e, h⟩ := h
  cases e
  have hlt : i < l.length := by
    rcases Nat.lt_or_ge i l.length with h | h
    · exact h
    · rw [List.getElem?_eq_none h] at hi; cases hi
  rcases h with h0 | ⟨b, off, xs, rfl, hc, hr⟩
  · rw [h0] at hlt; simp at hlt
  · have hlen := hr.len (n := n) (fun c a h => hR c a h)
    have h1 : (i + 1) * n ≤ l.length * n := Nat.mul_le_mul_right _ hlt
    rw [Nat.add_mul] at h1
    exact ⟨b, off, _, rfl, hr.get (fun c a h => hR c a h) hi, hc.sub (i * n) n (by omega)⟩
end Go.Proofs.YtfaclfkpnmcmlaaGreatDoor
end
section
namespace Go.Proofs.YtfaclfkpnmcmlaaGreatDoor
open Go Go.Sx Dg Syn
def sD (a : Option Addr) (c : Nat) (t : T) : Value := .slice a (T.subs t).length c
def rD (t : T) : Value := iv (T.plc (T.subs t) t)
theorem RepD.shape2 {I : PH} {v : Value} {t : T} (h : RepD I v t) : ∃ a c, v = .agg #[sD a c t, rD t] := h.shape
end Go.Proofs.YtfaclfkpnmcmlaaGreatDoor
end
section
namespace Go.Proofs.YtfaclfkpnmcmlaaGreatDoor
open Go Go.Sx Dg Syn
def DgR (I : PH) (c : List Value) (e : Dgn) : Prop := ∃ a k, c = [.int .u8 e.code, .int .i64 e.tok, sD a k e.cond, rD e.cond] ∧ RepD I (.agg #[sD a k e.cond, rD e.cond]) e.cond
theorem DgR.le {I J : PH} {c : List Value} {e : Dgn} (h : DgR I c e) (hle : I.le J) : DgR J c e := by
  obtain ⟨a, k, e, h⟩ := h; exact ⟨a, k, e, RepD.le h hle⟩
theorem DgR.len {I : PH} (c : List Value) (e : Dgn) (h : DgR I c e) : c.length = 4 := by obtain ⟨a, k, e, _⟩ := h; rw [e]; rfl
abbrev OwE (I D : PH) (v : Value) (e : List Dgn) : Prop := Ow DgR 80 4 I D v e
theorem OwE.le {I J D : PH} {v : Value} {e : List Dgn} (h : OwE I D v e) (hle : I.le J) : OwE J D v e := Ow.le (R := DgR) (fun {I J c a} h k => DgR.le h k) h hle
theorem Sl.monoR {α : Type} {R R' : PH → List Value → α → Prop} {I : PH} {v : Value} {l : List α} (h : Sl R I v l) (hR : ∀ c a, R I c a → R' I c a) : Sl R' I v l := by
  obtain ⟨a, c, e, h⟩ := h
  exact ⟨a, c, e, h.imp id fun ⟨b, off, xs, e1, e2, e3⟩ => ⟨b, off, xs, e1, e2, e3.mono hR⟩⟩
def CapOk : Value → Prop
  | .slice _ n c => n ≤ c
  | _ => True
def CapN : Value → Prop
  | .slice _ n c => n ≤ c ∧ (0 < n → c ≤ maxLen)
  | _ => True
def NdRn : Nat → PH → List Value → Nd → Prop
  | 0, _, _, _ => False
  | d + 1, I, c, n => ∃ vk a k, c = [.int .u8 n.kind, .string ⟨⟨n.text⟩⟩, .int .i64 n.tok, .int .i64 n.slot, vk, sD a k n.cond, rD n.cond] ∧ RepD I (.agg #[sD a k n.cond, rD n.cond]) n.cond ∧ Sl (NdRn d) I vk n.kids ∧ CapN vk
theorem NdRn.le : ∀ {d : Nat} {I J : PH} {c : List Value} {n : Nd}, NdRn d I c n → I.le J → NdRn d J c n
  | 0, _, _, _, _, h, _ => h
  | d + 1, I, J, c, n, ⟨vk, a, k, e, h, hk, hc⟩, hle => ⟨vk, a, k, e, RepD.le h hle, Sl.le (R := NdRn d) (fun {I J c a} h k => NdRn.le h k) hk hle, hc⟩
theorem NdRn.up : ∀ {d : Nat} {I : PH} {c : List Value} {n : Nd}, NdRn d I c n → NdRn (d + 1) I c n
  | 0, _, _, _, h => h.elim
  | d + 1, I, c, n, ⟨vk, a, k, e, h, hk, hc⟩ => ⟨vk, a, k, e, h, hk.monoR fun _ _ h => NdRn.up h, hc⟩
theorem NdRn.ups {d d' : Nat} {I : PH} {c : List Value} {n : Nd} (h : NdRn d I c n) (hd : d ≤ d') : NdRn d' I c n := by
  induction hd with
  | refl => exact h
  | step _ ih => exact ih.up
def NdR (I : PH) (c : List Value) (n : Nd) : Prop := ∃ d, NdRn d I c n
theorem LR.depth {I : PH} : ∀ {l : List Nd} {xs : List Value}, LR (NdR I) xs l → ∃ d, LR (NdRn d I) xs l
  | [], xs, h => ⟨0, h⟩
  | a :: l, xs, ⟨c, ys, e, ⟨d, h1⟩, h2⟩ => by
    obtain ⟨d', h3⟩ := LR.depth h2
    exact ⟨max d d', c, ys, e, h1.ups (Nat.le_max_left _ _), h3.mono fun _ _ h => h.ups (Nat.le_max_right _ _)⟩
theorem NdR.mk {I : PH} {vk : Value} {a : Option Addr} {k : Nat} {n : Nd} (h : RepD I (.agg #[sD a k n.cond, rD n.cond]) n.cond) (hk : Sl NdR I vk n.kids) (hc : CapN vk) : NdR I [.int .u8 n.kind, .string ⟨⟨n.text⟩⟩, .int .i64 n.tok, .int .i64 n.slot, vk, sD a k n.cond, rD n.cond] n := by
  obtain ⟨b, c, e, h2⟩ := hk
  rcases h2 with h2 | ⟨b', off, xs, e1, e2, e3⟩
  · exact ⟨1, vk, a, k, rfl, h, ⟨b, c, e, .inl h2⟩, hc⟩
  · obtain ⟨d, h4⟩ := LR.depth e3
    exact ⟨d + 1, vk, a, k, rfl, h, ⟨b, c, e, .inr ⟨b', off, xs, e1, e2, h4⟩⟩, hc⟩
theorem NdR.shape {I : PH} {c : List Value} {n : Nd} (h : NdR I c n) : ∃ vk a k, c = [.int .u8 n.kind, .string ⟨⟨n.text⟩⟩, .int .i64 n.tok, .int .i64 n.slot, vk, sD a k n.cond, rD n.cond] ∧ RepD I (.agg #[sD a k n.cond, rD n.cond]) n.cond ∧ Sl NdR I vk n.kids ∧ CapN vk := by
  obtain ⟨d, h⟩ := h
  cases d with
  | zero => exact h.elim
  | succ d =>
    obtain ⟨vk, a, k, e, h1, h2, h3⟩ := h
    exact ⟨vk, a, k, e, h1, h2.monoR fun _ _ h => ⟨d, h⟩, h3⟩
theorem NdR.le {I J : PH} {c : List Value} {n : Nd} (h : NdR I c n) (hle : I.le J) : NdR J c n := by obtain ⟨d, h⟩ := h; exact ⟨d, h.le hle⟩
theorem NdR.len {I : PH} (c : List Value) (n : Nd) (h : NdR I c n) : c.length = 7 := by obtain ⟨vk, a, k, e, _⟩ := h.shape; rw [e]; rfl
abbrev OwN (I A : PH) (v : Value) (l : List Nd) : Prop := Ow NdR 60 7 I A v l
abbrev SlN (I : PH) (v : Value) (l : List Nd) : Prop := Sl NdR I v l
theorem OwN.le {I J A : PH} {v : Value} {l : List Nd} (h : OwN I A v l) (hle : I.le J) : OwN J A v l := Ow.le (R := NdR) (fun {I J c a} h k => NdR.le h k) h hle
theorem SlN.le {I J : PH} {v : Value} {l : List Nd} (h : SlN I v l) (hle : I.le J) : SlN J v l := Sl.le (R := NdR) (fun {I J c a} h k => NdR.le h k) h hle
end Go.Proofs.YtfaclfkpnmcmlaaGreatDoor
end
section
namespace Go.Proofs.YtfaclfkpnmcmlaaGreatDoor
open Go Go.Sx Dg Syn
theorem row_put {g cap n size p : Nat} {cur : Array Value} {e : TypeId} {xs cs : List Value} (hl : xs.length = n * size) (h1 : n ≤ cap) (h2 : cap ≤ maxLen) (h3 : cur.size = cap * size) (h4 : cur.toList.take (n * size) = xs) (hp : p + cs.length ≤ n * size) :
    Row (sg g (.cells (setCs cur.toList p cs).toArray e (0, 0))) e size (.slice (some ⟨g, 0, none⟩) n cap) n (setCs xs p cs) :=
  Row.of_sg (by rw [setCs_length]; exact hl) h1 h2 (by simp [setCs_length]; exact h3) (by
    show (setCs cur.toList p cs).take (n * size) = _
    rw [setCs_take _ _ _ _ hp, h4])
theorem lr_put {α : Type} {R : List Value → α → Prop} {n : Nat} (hR : ∀ c a, R c a → c.length = n) {l : List α} {xs : List Value} {i k : Nat} {a : α} {c cs : List Value} (h : LR R xs l) (hi : i < l.length) (hc : (xs.drop (i * n)).take n = c) (hk : k + cs.length ≤ n) (ha : R (setCs c k cs) a) : LR R (setCs xs (i * n + k) cs) (l.set i a) := by
  have hlen := h.len hR
  have hin : (i + 1) * n ≤ l.length * n := Nat.mul_le_mul_right _ hi
  rw [Nat.add_mul, Nat.one_mul] at hin
  have hcl : c.length = n := by rw [← hc]; simp; omega
  have hset := h.set hR hi ha
  have e : setCs xs (i * n + k) cs = xs.take (i * n) ++ setCs c k cs ++ xs.drop ((i + 1) * n) := by
    rw [setCs_drop _ _ _ (by omega), setCs_drop _ _ _ (by omega)]
    have e1 : xs.take (i * n + k) = xs.take (i * n) ++ c.take k := by
      rw [← hc, List.take_take, Nat.min_eq_left (by omega), List.take_add]
    have e2 : xs.drop (i * n + k + cs.length) = c.drop (k + cs.length) ++ xs.drop ((i + 1) * n) := by
      have h3 : (xs.drop (i * n)).drop n = xs.drop ((i + 1) * n) := by rw [List.drop_drop, Nat.add_mul, Nat.one_mul]
      have h4 : xs.drop (i * n) = c ++ xs.drop ((i + 1) * n) := by rw [← hc, ← h3, List.take_append_drop]
      rw [Nat.add_assoc, ← List.drop_drop, h4, List.drop_append_of_le_length (by omega)]
    rw [e1, e2]; simp
  rw [e]; exact hset
theorem Ow.open' {α : Type} {R : PH → List Value → α → Prop} {e : TypeId} {size : Nat} {I A : PH} {v : Value} {l : List α} (h : Ow R e size I A v l) (hn : 0 < l.length) (hR : ∀ c a, R I c a → c.length = size) :
    ∃ g cap cur xs, v = .slice (some ⟨g, 0, none⟩) l.length cap ∧ A = sg g (.cells cur e (0, 0)) ∧ l.length ≤ cap ∧ cap ≤ maxLen ∧ cur.size = cap * size ∧ cur.toList.take (l.length * size) = xs ∧ xs.length = l.length * size ∧ LR (R I) xs l := by
  obtain ⟨xs, h1, h2⟩ := h
  obtain ⟨g, cap, cur, e1, e2, e3, e4, e5, e6⟩ := h1.sg hn
  exact ⟨g, cap, cur, xs, e1, e2, e3, e4, e5, e6, h2.len hR, h2⟩
theorem cells_elem {α : Type} {R : List Value → α → Prop} {n : Nat} (hR : ∀ c a, R c a → c.length = n) {g : Nat} {cur : Array Value} {e : TypeId} {l : List α} {xs c : List Value} {i k m : Nat} (h : LR R xs l) (hi : i < l.length) (hcs : l.length * n ≤ cur.size) (htk : cur.toList.take (l.length * n) = xs) (hc : (xs.drop (i * n)).take n = c) (hk : k + m ≤ n) :
    Cells (sg g (.cells cur e (0, 0))) g (i * n + k) ((c.drop k).take m) := by
  have hlen := h.len hR
  have hin : (i + 1) * n ≤ l.length * n := Nat.mul_le_mul_right _ hi
  rw [Nat.add_mul, Nat.one_mul] at hin
  have hcl : c.length = n := by rw [← hc]; simp; omega
  have h0 : Cells (sg g (.cells cur e (0, 0))) g 0 xs := cells_sg (by omega) (by rw [List.drop_zero, hlen]; exact htk)
  have h1 := (h0.sub (i * n) n (by omega)).sub k m (by rw [hc]; omega)
  rwa [hc, Nat.zero_add] at h1
theorem NdR.ones {I : PH} {c : List Value} {n : Nd} (h : NdR I c n) : c.all Sx.one = true := by
  obtain ⟨vk, a, k, e, _, hk, _⟩ := h.shape
  obtain ⟨x, y, rfl, _⟩ := hk
  rw [e]; rfl
theorem Ow.cap {α : Type} {R : PH → List Value → α → Prop} {e : TypeId} {size : Nat} {I A : PH} {v : Value} {l : List α} (h : Ow R e size I A v l) (hR : ∀ c a, R I c a → c.length = size) : CapOk v := by
  rcases Nat.eq_zero_or_pos l.length with h0 | h0
  · obtain ⟨a, c, rfl⟩ := h.shape
    show l.length ≤ c
    omega
  · obtain ⟨g, cap, cur, xs, rfl, _, h1, _⟩ := h.open' h0 hR
    exact h1
theorem Ow.capN {α : Type} {R : PH → List Value → α → Prop} {e : TypeId} {size : Nat} {I A : PH} {v : Value} {l : List α} (h : Ow R e size I A v l) (hR : ∀ c a, R I c a → c.length = size) : CapN v := by
  rcases Nat.eq_zero_or_pos l.length with h0 | h0
  · obtain ⟨a, c, rfl⟩ := h.shape
    exact ⟨by omega, fun h => by omega⟩
  · obtain ⟨g, cap, cur, xs, rfl, _, h1, h2, _⟩ := h.open' h0 hR
    exact ⟨h1, fun _ => h2⟩
end Go.Proofs.YtfaclfkpnmcmlaaGreatDoor
end
section
namespace Go.Proofs.YtfaclfkpnmcmlaaGreatDoor
open Go Go.Sx Dg Syn
section
variable {C : Cx} {k : List Item} {σ : St} {α : Type} {R : PH → List Value → α → Prop}
theorem RC_appendSl {ol rem : List Oper} {o : Oper} {t e : TypeId} {size bytes : Nat} {x y : Operand} {v vy : Value} {xs ys : List α} {I A : PH} {l : List PH} (hd : Dj (I :: A :: l)) (ht : SlT C.P t e size bytes) (hA : Ow R e size I A v xs) (hS : Sl R I vy ys) (hR : ∀ {I J c a}, R I c a → I.le J → R J c a) (hn : ∀ {I} c a, R I c a → c.length = size) (h1 : ∀ {I} c a, R I c a → c.all Sx.one = true)
    (hw : wantedS ol σ o = some true) (hop : o.op = .call ⟨.builtin .append, #[x, y], #[t, t]⟩) (hx : ev σ x = .v v) (hy : ev σ y = .v vy) (hb : (xs.length + ys.length) * bytes ≤ 140737488355328) (h63 : xs.length + ys.length ≤ maxLen)
    (hk : ∀ a c I2 A2, Dj (I2 :: A2 :: l) → I.le I2 → Ow R e size I2 A2 (.slice a (xs ++ ys).length c) (xs ++ ys) → RC C (.op ol rem k) (σ.put o.dst (.v (.slice a (xs ++ ys).length c))) (U (I2 :: A2 :: l))) : RC C (.op ol (o :: rem) k) σ (U (I :: A :: l)) := by
  obtain ⟨ya, yc, rfl, hS⟩ := hS
  rcases hS with rfl | ⟨b, off, zs, rfl, hc, hr⟩
  · have hcap := hA.cap fun c a h => hn c a h
    obtain ⟨va, vc, rfl⟩ := hA.shape
    refine RC_appendN ht hw hop hx hcap hy ?_
    have := hk va vc I A hd (PH.le_refl _) (by simpa using hA)
    simpa using this
  · obtain ⟨bs, hrow, hlr⟩ := hA
    refine RC_appendI hd ht hrow hw hop hx hy (cellsU hd (.head _) hc) (hr.len fun c a h => hn c a h) (hr.ones fun c a h => h1 c a h) hb h63 fun v' I2 A2 hd2 hle2 hA2 => ?_
    obtain ⟨a, c, rfl⟩ := hA2.slice
    have e : xs.length + ys.length = (xs ++ ys).length := by simp
    have := hk a c I2 A2 hd2 hle2 ⟨bs ++ zs, by rw [e] at hA2; exact hA2, LR.app (hlr.mono fun _ _ h => hR h hle2) (hr.mono fun _ _ h => hR h hle2)⟩
    rw [e]; exact this
theorem RD_appendSl {ol : List Oper} {fr : FrD} {str : StD} {i : Nat} {lo : List (Nat × Oper)} {o : Oper} {t e : TypeId} {size bytes : Nat} {x y : Operand} {v vy : Value} {xs ys : List α} {I A : PH} {l : List PH} (hd : Dj (I :: A :: l)) (ht : SlT C.P t e size bytes) (hA : Ow R e size I A v xs) (hS : Sl R I vy ys) (hR : ∀ {I J c a}, R I c a → I.le J → R J c a) (hn : ∀ {I} c a, R I c a → c.length = size) (h1 : ∀ {I} c a, R I c a → c.all Sx.one = true)
    (hs : str.h.contains i = false) (hsj : str.j.contains i = false) (hw : wantedS ol σ o = some true) (hop : o.op = .call ⟨.builtin .append, #[x, y], #[t, t]⟩) (hx : ev σ x = .v v) (hy : ev σ y = .v vy) (hb : (xs.length + ys.length) * bytes ≤ 140737488355328) (h63 : xs.length + ys.length ≤ maxLen)
    (hk : ∀ a c I2 A2, Dj (I2 :: A2 :: l) → I.le I2 → Ow R e size I2 A2 (.slice a (xs ++ ys).length c) (xs ++ ys) → RD C ol fr str lo k (σ.put o.dst (.v (.slice a (xs ++ ys).length c))) (U (I2 :: A2 :: l))) : RD C ol fr str ((i, o) :: lo) k σ (U (I :: A :: l)) := by
  obtain ⟨ya, yc, rfl, hS⟩ := hS
  rcases hS with rfl | ⟨b, off, zs, rfl, hc, hr⟩
  · have hcap := hA.cap fun c a h => hn c a h
    obtain ⟨va, vc, rfl⟩ := hA.shape
    obtain ⟨a, b⟩ := spec_appendN (H := U (I :: A :: l)) ht hop hx hcap hy
    refine RD_gen hw a (by rw [hop]; rfl) (b.mono fun sv H2 ⟨e1, e2⟩ => ⟨Keeps.non hs hsj, ?_⟩)
    subst e1; subst e2
    have := hk va vc I A hd (PH.le_refl _) (by simpa using hA)
    simpa using this
  · obtain ⟨bs, hrow, hlr⟩ := hA
    refine RD_appendI hd ht hrow hs hsj hw hop hx hy (cellsU hd (.head _) hc) (hr.len fun c a h => hn c a h) (hr.ones fun c a h => h1 c a h) hb h63 fun v' I2 A2 hd2 hle2 hA2 => ?_
    obtain ⟨a, c, rfl⟩ := hA2.slice
    have e : xs.length + ys.length = (xs ++ ys).length := by simp
    have := hk a c I2 A2 hd2 hle2 ⟨bs ++ zs, by rw [e] at hA2; exact hA2, LR.app (hlr.mono fun _ _ h => hR h hle2) (hr.mono fun _ _ h => hR h hle2)⟩
    rw [e]; exact this
end
end Go.Proofs.YtfaclfkpnmcmlaaGreatDoor
end
section
namespace Go.Proofs.YtfaclfkpnmcmlaaGreatDoor
open Go Go.Sx Dg Syn
section
variable {pb : Nat} {ts : List Tok} {lv fv ov : Value}
theorem OwN.sl {I J A : PH} {v : Value} {l : List Nd} (h : OwN I A v l) (h1 : I.le J) (h2 : A.le J) : SlN J v l := Ow.sl (R := NdR) (fun {I J c a} h k => NdR.le h k) h h1 h2
end
end Go.Proofs.YtfaclfkpnmcmlaaGreatDoor
end
section
namespace Syn
open Dg
structure Key where
  slot : Int
  tok : Int
  kind : Nat
  text : Txt
deriving DecidableEq
def Nd.key (n : Nd) : Key := ⟨n.slot, n.tok, n.kind, n.text⟩
end Syn
end
section
namespace Syn
open Dg
structure Tr where
  kids : List Nd
  diags : List Dgn
end Syn
end
section
namespace Syn
open Dg
def Dgn.key (d : Dgn) : Int × Nat := (d.tok, d.code)
end Syn
end
section
namespace Go.Proofs.YtfaclfkpnmcmlaaGreatDoor
open Go Go.Sx Dg Syn
theorem goes161 : Goes Tryz.prog 161 := ⟨_, Tryz.func161, rfl, rfl⟩
theorem goes162 : Goes Tryz.prog 162 := ⟨_, Tryz.func162, rfl, rfl⟩
theorem goes232 : Goes Tryz.prog 232 := ⟨_, Tryz.func232, rfl, rfl⟩
theorem goes233 : Goes Tryz.prog 233 := ⟨_, Tryz.func233, rfl, rfl⟩
theorem goes160 : Goes Tryz.prog 160 := ⟨_, Tryz.func160, rfl, rfl⟩
theorem goes145 : Goes Tryz.prog 145 := ⟨_, Tryz.func145, rfl, rfl⟩
theorem goes93 : Goes Tryz.prog 93 := ⟨_, Tryz.func93, rfl, rfl⟩
theorem Does.keep {P : Program} {f : FuncId} {args : Array Value} {I : PH} {w : Value} (h : Does P f args I fun v H2 => v = w ∧ H2 = I) : DoesI P f args I [] fun v I2 qs => qs = [] ∧ v = w :=
  Does.toI (h.mono fun v H2 ⟨e1, e2⟩ => ⟨by rw [e2]; exact PH.le_refl _, e1⟩)
def cmpZ (a b : Int) : Int := if a < b then -1 else if b < a then 1 else 0
theorem nanInt_c (a : Int) (H : PH) : Does Tryz.prog 232 #[.int .i64 a] H fun v H2 => v = .bool false ∧ H2 = H := by
  refine Does_of Tryz.func232 rfl (by simp [Tryz.ntmps232]) fun w0 => ?_
  simp only [Tryz.ntmps232]
  (refine RG ?_; simp only [go_sem, bne_self_eq_false])
  exact R_ret (r := [_]) rfl ⟨rfl, rfl⟩
theorem nanCode_c (a : Int) (H : PH) : Does Tryz.prog 233 #[.int .u8 a] H fun v H2 => v = .bool false ∧ H2 = H := by
  refine Does_of Tryz.func233 rfl (by simp [Tryz.ntmps233]) fun w0 => ?_
  simp only [Tryz.ntmps233]
  (refine RG ?_; simp only [go_sem, bne_self_eq_false])
  exact R_ret (r := [_]) rfl ⟨rfl, rfl⟩
theorem cmpInt_c (a b : Int) (H : PH) : Does Tryz.prog 161 #[.int .i64 a, .int .i64 b] H fun v H2 => v = .int .i64 (cmpZ a b) ∧ H2 = H := by
  refine Does_ofD Tryz.func161 rfl (by simp [Tryz.ntmps161]) fun w0 => ?_
  simp only [Tryz.ntmps161]
  (refine RG ?_; simp only [go_sem])
  refine RC_call rfl rfl rfl rfl goes232 (nanInt_c a H) fun v H2 hv => ?_
  obtain ⟨rfl, rfl⟩ := hv
  (refine RG ?_; simp only [go_sem])
  refine RC_call rfl rfl rfl rfl goes232 (nanInt_c b H2) fun v H3 hv => ?_
  obtain ⟨rfl, rfl⟩ := hv
  by_cases h1 : a < b
  · have q1 : decide (a < b) = true := decide_eq_true h1
    (refine RG ?_; simp only [go_sem, q1])
    exact R_ret (r := [_]) rfl ⟨by simp [cmpZ, h1, retV], rfl⟩
  · have q1 : decide (a < b) = false := decide_eq_false h1
    by_cases h2 : b < a
    · have q2 : decide (a > b) = true := decide_eq_true h2
      (refine RG ?_; simp only [go_sem, q1, q2, Bool.false_or, Bool.not_false])
      exact R_ret (r := [_]) rfl ⟨by simp [cmpZ, h1, h2, retV], rfl⟩
    · have q2 : decide (a > b) = false := decide_eq_false h2
      (refine RG ?_; simp only [go_sem, q1, q2, Bool.false_or, Bool.not_true])
      exact R_ret (r := [_]) rfl ⟨by simp [cmpZ, h1, h2, retV], rfl⟩
theorem cmpCode_c (a b : Int) (H : PH) : Does Tryz.prog 162 #[.int .u8 a, .int .u8 b] H fun v H2 => v = .int .i64 (cmpZ a b) ∧ H2 = H := by
  refine Does_ofD Tryz.func162 rfl (by simp [Tryz.ntmps162]) fun w0 => ?_
  simp only [Tryz.ntmps162]
  (refine RG ?_; simp only [go_sem])
  refine RC_call rfl rfl rfl rfl goes233 (nanCode_c a H) fun v H2 hv => ?_
  obtain ⟨rfl, rfl⟩ := hv
  (refine RG ?_; simp only [go_sem])
  refine RC_call rfl rfl rfl rfl goes233 (nanCode_c b H2) fun v H3 hv => ?_
  obtain ⟨rfl, rfl⟩ := hv
  by_cases h1 : a < b
  · have q1 : decide (a < b) = true := decide_eq_true h1
    (refine RG ?_; simp only [go_sem, q1])
    exact R_ret (r := [_]) rfl ⟨by simp [cmpZ, h1, retV], rfl⟩
  · have q1 : decide (a < b) = false := decide_eq_false h1
    by_cases h2 : b < a
    · have q2 : decide (a > b) = true := decide_eq_true h2
      (refine RG ?_; simp only [go_sem, q1, q2, Bool.false_or, Bool.not_false])
      exact R_ret (r := [_]) rfl ⟨by simp [cmpZ, h1, h2, retV], rfl⟩
    · have q2 : decide (a > b) = false := decide_eq_false h2
      (refine RG ?_; simp only [go_sem, q1, q2, Bool.false_or, Bool.not_true])
      exact R_ret (r := [_]) rfl ⟨by simp [cmpZ, h1, h2, retV], rfl⟩
def orZ : List Int → Int
  | [] => 0
  | a :: l => if a = 0 then orZ l else a
def orlS (sv : Value) (n : Nat) (i : Nat) : St := ⟨dn 18 [(3, .v (.int .i64 0)), (6, .v sv), (7, .v (iv n)), (8, .v (iv i))], []⟩
theorem or_z {H : PH} {b c : Nat} {zs : List Int} (h : Cells H b 0 (zs.map fun z => .int .i64 z)) (hl : zs.length ≤ 100) : Does Tryz.prog 160 #[.slice (some ⟨b, 0, none⟩) zs.length c] H fun v H2 => v = .int .i64 (orZ zs) ∧ H2 = H := by
  refine Does_ofD Tryz.func160 rfl (by simp [Tryz.ntmps160]) fun w0 => ?_
  simp only [Tryz.ntmps160]
  (refine RG ?_; simp only [go_sem])
  refine RC_loopD (fun x => zs.length - x) (orlS (.slice (some ⟨b, 0, none⟩) zs.length c) zs.length) (fun i H2 => H2 = H ∧ i ≤ zs.length ∧ orZ (zs.drop i) = orZ zs) 0 (subT_dn (by simp only [go_sem, List.append_nil, iv])) (by simp only [go_sem, List.append_nil, orlS]) ⟨rfl, Nat.zero_le _, rfl⟩ ?_
  rintro i H2 ⟨rfl, hi, hz⟩ hnext
  simp only [orlS]
  rcases Nat.lt_or_ge i zs.length with hlt | hge
  · have h9 : decide ((i : Int) < (zs.length : Int)) = true := by simp; omega
    have e1 := wrap64 (n := i + 1) (by omega)
    have e1' : IntKind.i64.wrap ((i : Int) + 1) = ((i + 1 : Nat) : Int) := by rw [← e1]; congr 1
    obtain ⟨z, hg⟩ : ∃ z, zs[i]? = some z := ⟨_, List.getElem?_eq_getElem hlt⟩
    have hd : zs.drop i = z :: zs.drop (i + 1) := by
      rw [List.drop_eq_getElem_cons hlt]
      rw [List.getElem?_eq_getElem hlt] at hg
      rw [Option.some.inj hg]
    have hcell := h.sub i 1 (by simp; omega)
    have hm : ((zs.map fun z => Value.int .i64 z).drop i).take 1 = [.int .i64 z] := by
      rw [← List.map_drop, hd]; rfl
    rw [hm, Nat.zero_add] at hcell
    rw [hd] at hz
    (refine RG ?_; simp only [go_sem, h9, iv])
    refine ⟨by omega, ?_⟩
    refine RC_load (l := [.int .i64 z]) rfl rfl rfl (by simpa using hcell) (.inr ⟨ag3, rfl⟩) ?_
    by_cases h0 : z = 0
    · have q : (z != 0) = false := by simp [h0]
      (refine RG ?_; simp only [go_sem, iv, q, e1'])
      exact hnext (i + 1) _ _ (by omega) (subT_dn (by simp only [go_sem, List.append_nil, iv])) (by simp only [go_sem, List.append_nil, orlS]) ⟨rfl, hlt, by rw [← hz]; simp [orZ, h0]⟩
    · have q : (z != 0) = true := by simp [h0]
      (refine RG ?_; simp only [go_sem, iv, q])
      exact R_ret (r := [_]) rfl ⟨by rw [← hz]; simp [orZ, h0, retV], rfl⟩
  · have hin : i = zs.length := by omega
    subst hin
    have h9 : decide ((zs.length : Int) < (zs.length : Int)) = false := by simp
    rw [List.drop_length] at hz
    (refine RG ?_; simp only [go_sem, h9, iv])
    exact R_ret (r := [_]) rfl ⟨by rw [← hz]; rfl, rfl⟩
theorem key_c (k t o g : Int) (x : Txt) (ea fa : Option Addr) (en ec fn fc : Nat) (H : PH) : Does Tryz.prog 145 #[.agg #[.int .u8 k, .string ⟨⟨x⟩⟩, .int .i64 t, .int .i64 o, .slice ea en ec, .slice fa fn fc, .int .i64 g]] H fun v H2 => v = .agg #[.int .i64 o, .int .i64 t, .int .u8 k, .string ⟨⟨x⟩⟩] ∧ H2 = H := by
  refine Does_ofD Tryz.func145 rfl (by simp [Tryz.ntmps145]) fun w0 => ?_
  simp only [Tryz.ntmps145]
  (refine RG ?_; simp only [go_sem])
  exact R_ret (r := [.agg #[.int .i64 o, .int .i64 t, .int .u8 k, .string ⟨⟨x⟩⟩]]) (by (simp only [Tryz.results145, go_sem])) ⟨rfl, rfl⟩
def diagZ (x y : Dgn) : Int := orZ [cmpZ x.tok y.tok, cmpZ x.code y.code]
theorem diagZ_eq (x y : Dgn) : (diagZ x y == 0) = decide (x.key = y.key) := by
  unfold diagZ cmpZ orZ orZ orZ Dgn.key
  by_cases a1 : x.tok < y.tok
  · have : x.tok ≠ y.tok := by omega
    simp [a1, this]
  · by_cases a2 : y.tok < x.tok
    · have : x.tok ≠ y.tok := by omega
      simp [a1, a2, this]
    · have e : x.tok = y.tok := by omega
      by_cases b1 : x.code < y.code
      · have : x.code ≠ y.code := by omega
        simp [b1, this, e]
      · by_cases b2 : y.code < x.code
        · have : x.code ≠ y.code := by omega
          simp [b1, b2, this, e]
        · have e2 : x.code = y.code := by omega
          simp [e, e2]
theorem diags_c {I : PH} {x y : Dgn} {cx cy : List Value} (hx : DgR I cx x) (hy : DgR I cy y) : DoesI Tryz.prog 93 #[.agg cx.toArray, .agg cy.toArray] I [] fun v I2 qs => qs = [] ∧ v = .int .i64 (diagZ x y) := by
  intro hd
  obtain ⟨a1, k1, rfl, h1⟩ := hx
  obtain ⟨a2, k2, rfl, h2⟩ := hy
  refine Does_ofD Tryz.func93 rfl (by simp [Tryz.ntmps93]) fun w0 => ?_
  simp only [Tryz.ntmps93, sD, rD, iv]
  (refine RG ?_; simp only [go_sem])
  refine R_drawn mixed [0, 1, 2, 3, 5, 6, 7, 8, 4, 9, 10, 11, 12] [] [] rfl rfl ?_
  (refine RD_go ?_; simp only [go_sem])
  refine RD_callI hd [] rfl (fun h => by cases h) rfl rfl rfl rfl goes161 (by rfl) (ps := []) (F := []) rfl (Does.keep (cmpInt_c x.tok y.tok I)) fun v I2 qs hd2 hle2 hq => ?_
  obtain ⟨rfl, rfl⟩ := hq
  simp only [Z3] at hd2 ⊢
  (refine RD_go ?_; simp only [go_sem])
  refine RD_callI hd2 [] rfl (fun h => by cases h) rfl rfl rfl rfl goes162 (by rfl) (ps := []) (F := []) rfl (Does.keep (cmpCode_c x.code y.code I2)) fun v I3 qs hd3 hle3 hq => ?_
  obtain ⟨rfl, rfl⟩ := hq
  simp only [Z3] at hd3 ⊢
  (refine RD_go ?_; simp only [go_sem])
  refine RD_buildSliceI hd3 (by exact sl81) rfl rfl rfl rfl rfl (by decide) fun nb I6 hd6 hle6 hnb => ?_
  (refine RD_go ?_; simp only [go_sem])
  refine RD_callI hd6 [] rfl (fun h => by cases h) rfl rfl rfl rfl goes160 (by rfl) (ps := []) (F := []) rfl (Does.keep (or_z (zs := [cmpZ x.tok y.tok, cmpZ x.code y.code]) (cells_at hnb (by simp [flatP, Value.cells]) (by simp [flatP, Value.cells])) (by simp))) fun v I7 qs hd7 hle7 hq => ?_
  obtain ⟨rfl, rfl⟩ := hq
  simp only [Z3] at hd7 ⊢
  (refine RD_go ?_; simp only [go_sem])
  refine RD_nil ?_
  (refine RG ?_; simp only [go_sem])
  exact R_ret_I rfl hd7 (r := [_]) rfl (PH.le_trans hle2 (PH.le_trans hle3 (PH.le_trans hle6 hle7))) ⟨rfl, rfl⟩
end Go.Proofs.YtfaclfkpnmcmlaaGreatDoor
end
section
namespace Syn
open Dg
mutual
def szN : Nd → Nat
  | ⟨_, _, _, _, ks, _⟩ => szL ks + 1
def szL : List Nd → Nat
  | [] => 0
  | n :: l => szN n + szL l
end
theorem szN_eq (n : Nd) : szN n = szL n.kids + 1 := by cases n; rfl
theorem szL_nil : szL [] = 0 := rfl
theorem szL_cons (n : Nd) (l : List Nd) : szL (n :: l) = szL n.kids + 1 + szL l := by rw [szL, szN_eq]
theorem szL_app : ∀ (a b : List Nd), szL (a ++ b) = szL a + szL b
  | [], b => by simp [szL]
  | n :: a, b => by rw [List.cons_append, szL_cons, szL_cons, szL_app a b]; omega
theorem szL_mem {n : Nd} : ∀ {l : List Nd}, n ∈ l → szL n.kids + 1 ≤ szL l
  | [], h => (List.not_mem_nil h).elim
  | m :: l, h => by
    rw [szL_cons]
    rcases List.mem_cons.1 h with e | e
    · subst e; omega
    · have := szL_mem e; omega
theorem szL_len : ∀ (l : List Nd), l.length ≤ szL l
  | [] => Nat.le_refl _
  | n :: l => by rw [szL_cons, List.length_cons]; have := szL_len l; omega
end Syn
end
section
namespace Go.Proofs.YtfaclfkpnmcmlaaGreatDoor
open Go Go.Sx Dg Syn
theorem wrapLen {n : Nat} (h : n ≤ maxLen) : IntKind.i64.wrap (n : Int) = (n : Int) := by
  unfold maxLen at h
  simp only [IntKind.wrap, show IntKind.bits .i64 = 64 from rfl, show IntKind.signed .i64 = true from rfl]
  simp; omega
theorem wrapCap {i n c : Nat} {a : Option Addr} (hC : CapN (.slice a n c)) (hi : i < n) : IntKind.i64.wrap ((i : Int) + 1) = ((i + 1 : Nat) : Int) := by
  have h : n ≤ c ∧ (0 < n → c ≤ maxLen) := hC
  have h2 := h.2 (by omega)
  have := wrapLen (n := i + 1) (by omega)
  rw [← this]; congr 1
theorem take_snoc {α : Type} {l : List α} {i : Nat} {n : α} (h : l[i]? = some n) : l.take (i + 1) = l.take i ++ [n] := by
  rw [List.take_add_one, h]; rfl
end Go.Proofs.YtfaclfkpnmcmlaaGreatDoor
end
section
namespace Go.Proofs.YtfaclfkpnmcmlaaGreatDoor
open Go Go.Sx Dg Syn
theorem goes23 : Goes Tryz.prog 23 := ⟨_, Tryz.func23, rfl, rfl⟩
theorem goes34 : Goes Tryz.prog 34 := ⟨_, Tryz.func34, rfl, rfl⟩
theorem goes63 : Goes Tryz.prog 63 := ⟨_, Tryz.func63, rfl, rfl⟩
theorem goes64 : Goes Tryz.prog 64 := ⟨_, Tryz.func64, rfl, rfl⟩
theorem goes21 : Goes Tryz.prog 21 := ⟨_, Tryz.func21, rfl, rfl⟩
theorem goes25 : Goes Tryz.prog 25 := ⟨_, Tryz.func25, rfl, rfl⟩
theorem goes69w : Goes Tryz.prog 69 := ⟨_, Tryz.func69, rfl, rfl⟩
def CubeR (_ : PH) (c : List Value) (x : Nat × Nat) : Prop := c = [.int .u32 x.1, .int .u32 x.2] ∧ x.1 < 2 ^ 32 ∧ x.2 < 2 ^ 32
abbrev SlC (I : PH) (v : Value) (l : List (Nat × Nat)) : Prop := Sl CubeR I v l
theorem CubeR.len {I : PH} (c : List Value) (x : Nat × Nat) (h : CubeR I c x) : c.length = 2 := by rw [h.1]; rfl
theorem SlC.le {I J : PH} {v : Value} {l : List (Nat × Nat)} (h : SlC I v l) (k : I.le J) : SlC J v l := Sl.le (R := CubeR) (fun {I J c a} h k => h) h k
def setS (v : Value) (x : Nat × Option Addr × Nat × T) : St := ⟨dn 26 [(0, .v v), (2, .p 2 0), (3, .p 3 0), (4, .v (iv x.1))], [⟨2, 50, [.slice none 0 0, .int .i64 0]⟩, ⟨3, 50, [sD x.2.1 x.2.2.1 x.2.2.2, rD x.2.2.2]⟩]⟩
def setQ (l : List (Nat × Nat)) (I0 : PH) (x : Nat × Option Addr × Nat × T) (H : PH) : Prop := ∃ I, H = U [I] ∧ Dj [I] ∧ I0.le I ∧ x.1 ≤ l.length ∧ x.2.2.2 = cubesT (l.take x.1) ∧ RepD I (.agg #[sD x.2.1 x.2.2.1 x.2.2.2, rD x.2.2.2]) x.2.2.2
theorem take_snoc' {α : Type} {l : List α} {i : Nat} {n : α} (h : l[i]? = some n) : l.take (i + 1) = l.take i ++ [n] := by
  rw [List.take_add_one, h]; rfl
theorem set_c {I : PH} {v : Value} {l : List (Nat × Nat)} (hS : SlC I v l) (hl : l.length < 2 ^ 60) : DoesI Tryz.prog 23 #[v] I [] fun r I2 qs => qs = [] ∧ RepD I2 r (cubesT l) := by
  obtain ⟨va, vc, rfl, _⟩ := id hS
  intro hd
  refine Does_ofD Tryz.func23 rfl (by simp [Tryz.ntmps23]) fun w0 => ?_
  simp only [Tryz.ntmps23]
  (refine RG ?_; simp only [go_sem])
  refine RC_call rfl rfl rfl rfl goes80 (false_d _) fun v H2 hv => ?_
  obtain ⟨rfl, rfl⟩ := hv
  (refine RG ?_; simp only [go_sem, iv])
  refine RC_loopD (fun x => l.length - x.1) (setS (.slice va l.length vc)) (setQ l I) (0, none, 0, .lf false) (subT_dn (by simp only [go_sem, List.append_nil, iv])) (by simp only [go_sem, List.append_nil, setS, sD, rD, iv, T.subs, T.vis, T.plc, List.length_nil, Bool.false_eq_true, if_false]) ?_ ?_
  · exact ⟨I, rfl, hd, PH.le_refl _, Nat.zero_le _, rfl, rep_lf I false⟩
  rintro ⟨i, da, dk, d⟩ H ⟨I1, rfl, hd1, hle1, hi, hde, hr⟩ hnext
  simp only at hi hde hr
  simp only [setS]
  rcases Nat.lt_or_ge i l.length with hlt | hge
  · have h9 : decide ((i : Int) < (l.length : Int)) = true := decide_eq_true (by omega)
    have e1 : IntKind.i64.wrap ((i : Int) + 1) = ((i + 1 : Nat) : Int) := by rw [← wrap64 (n := i + 1) (by omega)]; congr 1
    obtain ⟨x, hx⟩ : ∃ x, l[i]? = some x := ⟨_, List.getElem?_eq_getElem hlt⟩
    obtain ⟨b, off, cs, rfl, ⟨rfl, x1, x2⟩, hcell⟩ := Sl.load (fun {I} c a h => CubeR.len (I := I) c a h) (SlC.le hS hle1) hx
    have c0 := hcell.get (i := 0) rfl
    have c1 := hcell.get (i := 1) rfl
    (refine RG ?_; simp only [go_sem, iv, h9])
    refine R_drawn mixed [0, 1, 2, 3, 4, 5, 6, 7, 8, 9, 10, 11, 12, 13] [5, 10] [] rfl rfl ?_
    (refine RD_go ?_; simp only [go_sem, iv, sD, rD])
    try refine ⟨by omega, ?_⟩
    refine RD_load (l := [.int .u32 x.1]) rfl rfl rfl rfl (cellsU hd1 (.head _) (by simpa using c0)) (.inr ⟨ag23, rfl⟩) ?_
    (refine RD_go ?_; simp only [go_sem, iv, sD, rD])
    try refine ⟨by omega, ?_⟩
    refine RD_load (l := [.int .u32 x.2]) rfl rfl rfl rfl (cellsU hd1 (.head _) (by simpa using c1)) (.inr ⟨ag23, rfl⟩) ?_
    (refine RD_go ?_; simp only [go_sem, iv, sD, rD])
    refine RD_callI hd1 [] rfl (fun h => by cases h) rfl rfl rfl rfl goes69w (by rfl) (ps := []) (F := []) rfl (cube_c x1 x2) fun v1 I2 qs hd2 hle2 hq => ?_
    obtain ⟨rfl, hc2⟩ := hq
    simp only [Z3] at hd2 ⊢
    obtain ⟨za, zk, rfl⟩ := hc2.shape2
    (refine RD_go ?_; simp only [go_sem, iv, sD, rD])
    refine RD_callI hd2 [] rfl (fun h => by cases h) rfl rfl rfl rfl goes39 (by rfl) (ps := []) (F := []) rfl (or_c (hr.le hle2) hc2) fun v2 I3 qs hd3 hle3 hq => ?_
    obtain ⟨rfl, hr3⟩ := hq
    simp only [Z3] at hd3 ⊢
    obtain ⟨ya, yk, rfl⟩ := hr3.shape2
    (refine RD_go ?_; simp only [go_sem, iv, sD, rD])
    refine RD_nil ?_
    (refine RG ?_; simp only [go_sem, iv, e1])
    refine hnext (i + 1, ya, yk, d.or (cubeT x.1 x.2)) _ _ (by simp only; omega) (subT_dn (by simp only [go_sem, List.append_nil, iv])) (by simp only [go_sem, List.append_nil, setS, sD, rD, iv]) ⟨I3, rfl, hd3, PH.le_trans hle1 (PH.le_trans hle2 hle3), hlt, ?_, hr3⟩
    simp only
    rw [take_snoc' hx, hde]
    unfold cubesT
    rw [List.foldl_append]; rfl
  · have : i = l.length := by omega
    subst this
    rw [List.take_length] at hde
    have h9 : decide (((l.length : Nat) : Int) < (l.length : Int)) = false := by simp
    (refine RG ?_; simp only [go_sem, iv, h9, sD, rD])
    exact R_ret_I rfl hd1 (r := [.agg #[sD da dk d, rD d]]) (by (simp only [Tryz.results23, go_sem, iv, sD, rD])) hle1 ⟨rfl, by rw [← hde]; exact hr⟩
def innS (v : Value) (c : Nat) (i : Nat) : St := ⟨dn 38 [(0, .v v), (1, .v (.int .u32 c)), (5, .v (iv i))], []⟩
theorem in_c {H : PH} {v : Value} {l : List (Nat × Nat)} {c : Nat} (hS : SlC H v l) (hl : l.length < 2 ^ 60) (hc : c < 2 ^ 32) : Does Tryz.prog 34 #[v, .int .u32 c] H fun r H2 => r = .bool (inB l c) ∧ H2 = H := by
  obtain ⟨va, vc, rfl, _⟩ := id hS
  refine Does_ofD Tryz.func34 rfl (by simp [Tryz.ntmps34]) fun w0 => ?_
  simp only [Tryz.ntmps34]
  (refine RG ?_; simp only [go_sem])
  refine RC_loopD (fun x => l.length - x) (innS (.slice va l.length vc) c) (fun i H2 => H2 = H ∧ i ≤ l.length ∧ inB l c = (l.drop i).any (inC c)) 0 (subT_dn (by simp only [go_sem, List.append_nil, iv])) (by simp only [go_sem, List.append_nil, innS]) ⟨rfl, Nat.zero_le _, rfl⟩ ?_
  rintro i H2 ⟨rfl, hi, ha⟩ hnext
  simp only [innS]
  rcases Nat.lt_or_ge i l.length with hlt | hge
  · have h9 : decide ((i : Int) < (l.length : Int)) = true := decide_eq_true (by omega)
    have e1 : IntKind.i64.wrap ((i : Int) + 1) = ((i + 1 : Nat) : Int) := by rw [← wrap64 (n := i + 1) (by omega)]; congr 1
    obtain ⟨x, hx⟩ : ∃ x, l[i]? = some x := ⟨_, List.getElem?_eq_getElem hlt⟩
    obtain ⟨b, off, cs, rfl, ⟨rfl, x1, x2⟩, hcell⟩ := Sl.load (fun {I} c a h => CubeR.len (I := I) c a h) hS hx
    have c0 := hcell.get (i := 0) rfl
    have c1 := hcell.get (i := 1) rfl
    have hdr : l.drop i = x :: l.drop (i + 1) := by
      rw [List.drop_eq_getElem_cons hlt]
      rw [List.getElem?_eq_getElem hlt] at hx
      rw [Option.some.inj hx]
    rw [hdr, List.any_cons] at ha
    have b1 : c &&& x.1 < 2 ^ 32 := Nat.lt_of_le_of_lt Nat.and_le_left hc
    have b2 : c &&& x.2 < 2 ^ 32 := Nat.lt_of_le_of_lt Nat.and_le_left hc
    have a1 := and32 hc x1
    have a2 : andI .u32 ((c &&& x.1 : Nat) : Int) 16777215 = (((c &&& x.1) &&& 16777215 : Nat) : Int) := and32 b1 (by decide)
    have a3 : andI .u32 ((x.1 : Nat) : Int) 16777215 = ((x.1 &&& 16777215 : Nat) : Int) := and32 x1 (by decide)
    have a4 := and32 hc x2
    have a5 : andI .u32 ((c &&& x.2 : Nat) : Int) 16777215 = (((c &&& x.2) &&& 16777215 : Nat) : Int) := and32 b2 (by decide)
    have q1 := ieq ((c &&& x.1) &&& 16777215) (x.1 &&& 16777215)
    have q2 : ((((c &&& x.2) &&& 16777215 : Nat) : Int) == 0) = decide ((c &&& x.2) &&& 16777215 = 0) := ieq0 _
    (refine RG ?_; simp only [go_sem, iv, h9])
    refine R_drawn mixed [0, 1, 2, 3, 4, 5, 6, 7, 8, 9, 10, 11, 12, 13, 14, 15, 16, 17, 18, 19, 20, 21, 22, 23, 24, 25] [5, 12, 21] [] rfl rfl ?_
    (refine RD_go ?_; simp only [go_sem, iv])
    try refine ⟨by omega, ?_⟩
    refine RD_load (l := [.int .u32 x.1]) rfl rfl rfl rfl (by simpa using c0) (.inr ⟨ag23, rfl⟩) ?_
    (refine RD_go ?_; simp only [go_sem, iv])
    try refine ⟨by omega, ?_⟩
    refine RD_load (l := [.int .u32 x.1]) rfl rfl rfl rfl (by simpa using c0) (.inr ⟨ag23, rfl⟩) ?_
    cases h1 : decide ((c &&& x.1) &&& 16777215 = x.1 &&& 16777215)
    · rw [h1] at q1
      have hin : inC c x = false := by unfold inC; rw [h1]; rfl
      (refine RD_go ?_; simp only [go_sem, iv, a1, a2, a3, q1])
      refine RD_nil ?_
      (refine RG ?_; simp only [go_sem, iv, e1])
      exact hnext (i + 1) _ _ (by omega) (subT_dn (by simp only [go_sem, List.append_nil, iv])) (by simp only [go_sem, List.append_nil, innS]) ⟨rfl, hlt, by rw [ha, hin, Bool.false_or]⟩
    · rw [h1] at q1
      (refine RD_go ?_; simp only [go_sem, iv, a1, a2, a3, q1])
      try refine ⟨by omega, ?_⟩
      refine RD_load (l := [.int .u32 x.2]) rfl rfl rfl rfl (by simpa using c1) (.inr ⟨ag23, rfl⟩) ?_
      cases h2 : decide ((c &&& x.2) &&& 16777215 = 0)
      · rw [h2] at q2
        have hin : inC c x = false := by unfold inC; rw [h2, Bool.and_false]
        (refine RD_go ?_; simp only [go_sem, iv, a4, a5, q2])
        refine RD_nil ?_
        (refine RG ?_; simp only [go_sem, iv, e1])
        exact hnext (i + 1) _ _ (by omega) (subT_dn (by simp only [go_sem, List.append_nil, iv])) (by simp only [go_sem, List.append_nil, innS]) ⟨rfl, hlt, by rw [ha, hin, Bool.false_or]⟩
      · rw [h2] at q2
        have hin : inC c x = true := by unfold inC; rw [h1, h2]; rfl
        (refine RD_go ?_; simp only [go_sem, iv, a4, a5, q2])
        refine RD_nil ?_
        (refine RG ?_; simp only [go_sem, iv])
        exact R_ret (r := [_]) rfl ⟨by rw [ha, hin]; rfl, rfl⟩
  · have : i = l.length := by omega
    subst this
    rw [List.drop_length] at ha
    have h9 : decide (((l.length : Nat) : Int) < (l.length : Int)) = false := by simp
    (refine RG ?_; simp only [go_sem, iv, h9])
    exact R_ret (r := [_]) rfl ⟨by rw [ha]; rfl, rfl⟩
def btS (v : Value) (x : Nat × Nat) : St := ⟨dn 26 [(0, .v v), (3, .v (.int .u32 x.2)), (4, .v (iv x.1))], []⟩
theorem bits_c {H : PH} {v : Value} {l : List (Nat × Nat)} (hS : SlC H v l) (hl : l.length < 2 ^ 60) : Does Tryz.prog 63 #[v] H fun r H2 => r = .int .u32 (bitsN l : Nat) ∧ H2 = H := by
  obtain ⟨va, vc, rfl, _⟩ := id hS
  refine Does_ofD Tryz.func63 rfl (by simp [Tryz.ntmps63]) fun w0 => ?_
  simp only [Tryz.ntmps63]
  (refine RG ?_; simp only [go_sem])
  refine RC_loopD (fun x => l.length - x.1) (btS (.slice va l.length vc)) (fun x H2 => H2 = H ∧ x.1 ≤ l.length ∧ x.2 < 2 ^ 32 ∧ x.2 = bitsF (l.take x.1)) (0, 0) (subT_dn (by simp only [go_sem, List.append_nil, iv])) (by simp only [go_sem, List.append_nil, btS]) ⟨rfl, Nat.zero_le _, by decide, rfl⟩ ?_
  rintro ⟨i, u⟩ H2 ⟨rfl, hi, hu, hub⟩ hnext
  simp only at hi hu hub
  simp only [btS]
  rcases Nat.lt_or_ge i l.length with hlt | hge
  · have h9 : decide ((i : Int) < (l.length : Int)) = true := decide_eq_true (by omega)
    have e1 : IntKind.i64.wrap ((i : Int) + 1) = ((i + 1 : Nat) : Int) := by rw [← wrap64 (n := i + 1) (by omega)]; congr 1
    obtain ⟨x, hx⟩ : ∃ x, l[i]? = some x := ⟨_, List.getElem?_eq_getElem hlt⟩
    obtain ⟨b, off, cs, rfl, ⟨rfl, x1, x2⟩, hcell⟩ := Sl.load (fun {I} c a h => CubeR.len (I := I) c a h) hS hx
    have c0 := hcell.get (i := 0) rfl
    have c1 := hcell.get (i := 1) rfl
    have hn1 := Nat.or_lt_two_pow hu x1
    have q1 := or32x hu x1
    have q2 := or32x hn1 x2
    (refine RG ?_; simp only [go_sem, iv, h9])
    refine R_drawn mixed [0, 1, 2, 3, 4, 5, 6, 7, 8, 9, 10, 11, 12, 13] [5, 11] [] rfl rfl ?_
    (refine RD_go ?_; simp only [go_sem, iv])
    try refine ⟨by omega, ?_⟩
    refine RD_load (l := [.int .u32 x.1]) rfl rfl rfl rfl (by simpa using c0) (.inr ⟨ag23, rfl⟩) ?_
    (refine RD_go ?_; simp only [go_sem, iv, q1])
    try refine ⟨by omega, ?_⟩
    refine RD_load (l := [.int .u32 x.2]) rfl rfl rfl rfl (by simpa using c1) (.inr ⟨ag23, rfl⟩) ?_
    (refine RD_go ?_; simp only [go_sem, iv, q2])
    refine RD_nil ?_
    (refine RG ?_; simp only [go_sem, iv, e1])
    exact hnext (i + 1, (u ||| x.1) ||| x.2) _ _ (by simp only; omega) (subT_dn (by simp only [go_sem, List.append_nil, iv])) (by simp only [go_sem, List.append_nil, btS]) ⟨rfl, hlt, Nat.or_lt_two_pow hn1 x2, by simp only; rw [take_snoc' hx, bitsF_snoc, ← hub]⟩
  · have : i = l.length := by omega
    subst this
    have h9 : decide (((l.length : Nat) : Int) < (l.length : Int)) = false := by simp
    have a1 : andI .u32 (u : Int) 16777215 = ((u &&& 16777215 : Nat) : Int) := and32 hu (by decide)
    (refine RG ?_; simp only [go_sem, iv, h9, a1])
    rw [List.take_length] at hub
    exact R_ret (r := [_]) rfl ⟨by rw [hub]; rfl, rfl⟩
def pop (u : Nat) : Nat → Nat
  | 0 => 0
  | i + 1 => pop u i + (u.testBit i).toNat
theorem pop_le (u : Nat) : ∀ i, pop u i ≤ i
  | 0 => Nat.le_refl _
  | i + 1 => by
    have := pop_le u i
    show pop u i + (u.testBit i).toNat ≤ i + 1
    cases u.testBit i <;> simp <;> omega
theorem pop_mono (u : Nat) {i j : Nat} (h : i ≤ j) : pop u i ≤ pop u j := by
  induction h with
  | refl => exact Nat.le_refl _
  | step _ ih => exact Nat.le_trans ih (Nat.le_add_right _ _)
theorem bitN (u i : Nat) : (u >>> i) &&& 1 = (u.testBit i).toNat := by
  rw [Nat.and_one_is_mod, Nat.testBit_eq_decide_div_mod_eq, Nat.shiftRight_eq_div_pow]
  have := Nat.mod_two_eq_zero_or_one (u / 2 ^ i)
  rcases this with h | h <;> simp [h]
theorem bitI {u i : Nat} (hu : u < 2 ^ 32) (hi : i ≤ 32) : andI .u32 (shrI .u32 (u : Int) (i : Int)) 1 = (((u.testBit i).toNat : Nat) : Int) := by
  rw [shr32 hi, ← bitN]
  exact and32 (b := 1) (shr_lt hu) (by decide)
def fwS (u most : Nat) (i : Nat) : St := ⟨dn 21 [(0, .v (.int .u32 u)), (1, .v (iv most)), (5, .v (iv (pop u i))), (6, .v (iv i))], []⟩
theorem few_c {H : PH} {u most : Nat} (hu : u < 2 ^ 32) : Does Tryz.prog 64 #[.int .u32 u, iv most] H fun r H2 => r = .bool (decide (pop u 32 ≤ most)) ∧ H2 = H := by
  refine Does_ofD Tryz.func64 rfl (by simp [Tryz.ntmps64]) fun w0 => ?_
  simp only [Tryz.ntmps64, iv]
  (refine RG ?_; simp only [go_sem])
  refine RC_loopD (fun x => 32 - x) (fwS u most) (fun i H2 => H2 = H ∧ i ≤ 32) 0 (subT_dn (by simp only [go_sem, List.append_nil, iv, pop])) (by simp only [go_sem, List.append_nil, fwS]) ⟨rfl, Nat.zero_le _⟩ ?_
  rintro i H2 ⟨rfl, hi⟩ hnext
  simp only [fwS]
  have hp := pop_le u i
  rcases Nat.lt_or_ge i 32 with hlt | hge
  · have h8 : decide ((i : Int) < 32) = true := decide_eq_true (by omega)
    have e1 : IntKind.i64.wrap ((i : Int) + 1) = ((i + 1 : Nat) : Int) := by rw [← wrap64 (n := i + 1) (by omega)]; congr 1
    have a1 := bitI hu (i := i) (by omega)
    have b2 : (u.testBit i).toNat ≤ 1 := by cases u.testBit i <;> simp
    have w1 : IntKind.i64.wrap (((u.testBit i).toNat : Nat) : Int) = (((u.testBit i).toNat : Nat) : Int) := wrap64 (by omega)
    have w2 : IntKind.i64.wrap ((pop u i : Int) + (((u.testBit i).toNat : Nat) : Int)) = ((pop u (i + 1) : Nat) : Int) := by
      have e : (pop u i : Int) + (((u.testBit i).toNat : Nat) : Int) = ((pop u (i + 1) : Nat) : Int) := by
        show _ = (((pop u i + (u.testBit i).toNat : Nat)) : Int)
        omega
      rw [e]; exact wrap64 (by have := pop_le u (i + 1); omega)
    (refine RG ?_; simp only [go_sem, iv, h8, Int.natCast_nonneg, a1, w1, w2, e1])
    exact hnext (i + 1) _ _ (by omega) (subT_dn (by simp only [go_sem, List.append_nil, iv])) (by simp only [go_sem, List.append_nil, fwS]) ⟨rfl, hlt⟩
  · have : i = 32 := by omega
    subst this
    have h20 : decide ((pop u 32 : Int) ≤ (most : Int)) = decide (pop u 32 ≤ most) := by
      rw [Bool.eq_iff_iff, decide_eq_true_eq, decide_eq_true_eq]; omega
    (refine RG ?_; simp only [go_sem, iv, Int.cast_ofNat_Int, h20])
    exact R_ret (r := [_]) rfl ⟨rfl, rfl⟩
end Go.Proofs.YtfaclfkpnmcmlaaGreatDoor
end
section
namespace Go.Proofs.YtfaclfkpnmcmlaaGreatDoor
open Go Go.Sx Dg Syn
instance : Inhabited Nd := ⟨⟨0, [], 0, 0, [], ff⟩⟩
instance : Inhabited Dgn := ⟨⟨0, 0, ff⟩⟩
theorem DgR.ones {I : PH} {c : List Value} {n : Dgn} (h : DgR I c n) : c.all Sx.one = true := by
  obtain ⟨a, k, e, _⟩ := h
  rw [e]; rfl
end Go.Proofs.YtfaclfkpnmcmlaaGreatDoor
end
section
namespace Go.Proofs.YtfaclfkpnmcmlaaGreatDoor
open Go Go.Sx Dg Syn
theorem Ow.elem {α : Type} {R : PH → List Value → α → Prop} {e : TypeId} {size : Nat} {I A : PH} {v : Value} {l : List α} (h : Ow R e size I A v l) (hR : ∀ {I} c a, R I c a → c.length = size) (hle : ∀ {I J c a}, R I c a → I.le J → R J c a) {i : Nat} {x : α} (hi : l[i]? = some x) :
    ∃ g cap cur c, v = .slice (some ⟨g, 0, none⟩) l.length cap ∧ A = sg g (.cells cur e (0, 0)) ∧ l.length * size ≤ cur.size ∧ l.length ≤ cap ∧ R I c x ∧ c.length = size ∧ Cells A g (i * size) c ∧
      ∀ J c' y, I.le J → R J c' y → Ow R e size J (sg g (.cells (setCs cur.toList (i * size) c').toArray e (0, 0))) v (l.set i y) := by
  have hlt := (List.getElem?_eq_some_iff.1 hi).1
  obtain ⟨g, cap, cur, xs, ev, rfl, c1, c2, c3, c4, c5, hlr⟩ := h.open' (by omega) fun c a k => hR c a k
  have hsz : l.length * size ≤ cap * size := Nat.mul_le_mul_right _ c1
  have hin : (i + 1) * size ≤ l.length * size := Nat.mul_le_mul_right _ hlt
  rw [Nat.add_mul, Nat.one_mul] at hin
  have hg := hlr.get (fun c a k => hR c a k) hi
  have hlen := hR _ _ hg
  have hc := cells_elem (k := 0) (m := size) (e := e) (g := g) (cur := cur) (fun c a k => hR c a k) hlr hlt (by omega) c4 rfl (by omega)
  refine ⟨g, cap, cur, _, ev, rfl, by omega, c1, hg, hlen, ?_, ?_⟩
  · simpa [hlen, List.take_take] using hc
  · intro J c' y hJ hy
    have hl' := hR _ _ hy
    refine ⟨setCs xs (i * size + 0) c', ?_, ?_⟩
    · rw [ev, List.length_set]
      exact row_put c5 c1 c2 c3 c4 (by omega)
    · refine lr_put (fun c a k => hR c a k) (hlr.mono fun _ _ h => hle h hJ) hlt rfl (by omega) ?_
      have : setCs ((xs.drop (i * size)).take size) 0 c' = c' := by
        rw [setCs_drop _ _ _ (by omega)]
        simp [hlen, hl']
      rw [this]; exact hy
end Go.Proofs.YtfaclfkpnmcmlaaGreatDoor
end
section
namespace Go.Proofs.YtfaclfkpnmcmlaaGreatDoor
open Go Go.Sx Dg Syn
theorem str_size (s : Txt) : (⟨⟨s⟩⟩ : ByteArray).size = s.length := rfl
end Go.Proofs.YtfaclfkpnmcmlaaGreatDoor
end
section
namespace Go.Proofs.YtfaclfkpnmcmlaaGreatDoor
open Go Go.Sx Dg Syn
def signsT : List Txt := [[60, 61], [62, 61], [61, 61], [33, 61], [38, 38], [124, 124], [43], [45], [42], [47], [37], [60], [62], [61], [33], [40], [41], [123], [125], [44], [59], [58]]
def signsV : List Value := signsT.map fun x => .string ⟨⟨x⟩⟩
def SignsIn (H : PH) : Prop := Cells H 0 0 signsV
theorem SignsIn.le {I J : PH} (h : SignsIn I) (k : I.le J) : SignsIn J := Cells.le h k
theorem un317 : Tryz.prog.underlying 317 = some (.array 22 9) := by kernel_rfl
end Go.Proofs.YtfaclfkpnmcmlaaGreatDoor
end
section
namespace Go.Proofs.YtfaclfkpnmcmlaaGreatDoor
open Go Go.Sx Dg Syn
theorem un284 : ∃ ms, Tryz.prog.underlying 284 = some (.interface ms) := ⟨_, Tryz.underlying284⟩
def ErrIn (H : PH) : Prop := ∃ te pe, Cells H 1 0 [.iface te pe]
theorem ErrIn.le {I J : PH} (h : ErrIn I) (k : I.le J) : ErrIn J := let ⟨a, b, c⟩ := h; ⟨a, b, Cells.le c k⟩
def ErrIn2 (H : PH) : Prop := ∃ te pe, Cells H 2 0 [.iface te pe]
theorem ErrIn2.le {I J : PH} (h : ErrIn2 I) (k : I.le J) : ErrIn2 J := let ⟨a, b, c⟩ := h; ⟨a, b, Cells.le c k⟩
def TabIn (H : PH) : Prop := ∃ ty fz, H 3 = some (.cells (Lib.pow10Tab.map fun z => Value.int .u64 z).toArray ty fz)
theorem TabIn.le {I J : PH} (h : TabIn I) (k : I.le J) : TabIn J := let ⟨a, b, c⟩ := h; ⟨a, b, k 3 _ c⟩
theorem glob3 : Tryz.prog.globalNamed "internal/strconv.uint64pow10" = some 3 := by kernel_rfl
def VarsIn (H : PH) : Prop := SignsIn H ∧ ErrIn H ∧ ErrIn2 H ∧ TabIn H
theorem VarsIn.le {I J : PH} (h : VarsIn I) (k : I.le J) : VarsIn J := ⟨h.1.le k, h.2.1.le k, h.2.2.1.le k, h.2.2.2.le k⟩
end Go.Proofs.YtfaclfkpnmcmlaaGreatDoor
end
section
namespace Go.Proofs.YtfaclfkpnmcmlaaGreatDoor
open Go Go.Sx Dg Syn
def AtR (_ : PH) (c : List Value) (x : Nat) : Prop := c = [iv x]
abbrev OwA (I A : PH) (v : Value) (l : List Nat) : Prop := Ow AtR 3 1 I A v l
theorem OwA.le {I J A : PH} {v : Value} {l : List Nat} (h : OwA I A v l) (k : I.le J) : OwA J A v l := Ow.le (R := AtR) (fun {I J c a} h k => h) h k
end Go.Proofs.YtfaclfkpnmcmlaaGreatDoor
end
