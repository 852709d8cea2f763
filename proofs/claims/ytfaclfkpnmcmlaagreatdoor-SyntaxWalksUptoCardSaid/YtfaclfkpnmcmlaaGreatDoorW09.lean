import Derived.Test.YtfaclfkpnmcmlaaGreatDoorW02
import Derived.Test.YtfaclfkpnmcmlaaGreatDoorW08
import Derived.Sort.AssemblyPlain
import Derived.Shelf.LaysM
import Derived.Shelf.Strconv.Itoa3
import Derived.Shelf.LaysC
import Derived.Shelf.Strconv.AtoiAll
import Derived.Test.YtfaclfkpnmcmlaaGreatDoorProg
import Derived.Laws.StructEq
set_option maxHeartbeats 20000000
set_option linter.all false
section
namespace Go.Proofs.YtfaclfkpnmcmlaaGreatDoor
open Go Go.Sx Dg Syn
theorem goes36 : Goes Tryz.prog 36 := ⟨_, Tryz.func36, rfl, rfl⟩
def hsS (a : Option Addr) (k : Nat) (t : T) (c : Nat) (u : T) : St := ⟨dn 29 [(1, .v (.int .u32 c)), (2, .p 2 0), (5, .v (iv (T.plc (T.subs t) u)))], [⟨2, 50, [sD a k t, rD t]⟩]⟩
theorem has_c {H : PH} {v : Value} {t : T} {c : Nat} (h : RepD H v t) (hc : c < 2 ^ 32) : Does Tryz.prog 36 #[v, .int .u32 c] H fun r H2 => r = .bool (t.at' (cfgOf c)) ∧ H2 = H := by
  obtain ⟨hok, sl, rfl, hL⟩ := h
  obtain ⟨a, k, rfl, hcs⟩ := hL
  have sq : T.Seq (T.subs t) := (T.vis_spec t hok (by omega) [] T.Seq.nil).1
  have hlen : (T.subs t).length + 1 ≤ 2 ^ 24 := by
    obtain ⟨us, e1, e2, _⟩ := (T.vis_spec t hok (by omega) [] T.Seq.nil).2.2
    rw [List.nil_append] at e1
    show (t.vis []).length + 1 ≤ _
    rw [e1]; exact e2
  have hin : T.isIn (T.subs t) t := T.subs_in hok
  refine Does_ofD Tryz.func36 rfl (by simp [Tryz.ntmps36]) fun w0 => ?_
  simp only [Tryz.ntmps36, iv]
  (refine RG ?_; simp only [go_sem])
  refine RC_loopD (fun u => u.sz) (hsS a k t c) (fun u H2 => H2 = H ∧ T.isIn (T.subs t) u ∧ u.at' (cfgOf c) = t.at' (cfgOf c)) t (subT_dn (by simp only [go_sem, List.append_nil, iv])) (by simp only [go_sem, List.append_nil, hsS, iv, sD, rD]) ⟨rfl, hin, rfl⟩ ?_
  rintro u H2 ⟨rfl, hu, he⟩ hnext
  simp only [hsS]
  cases u with
  | lf b =>
    have h10 : decide (((T.plc (T.subs t) (.lf b) : Nat) : Int) > 1) = false := by cases b <;> simp [T.plc]
    have h28 : (((T.plc (T.subs t) (.lf b) : Nat) : Int) == 1) = b := by cases b <;> simp [T.plc]
    (refine RG ?_; simp only [go_sem, iv, h10, h28])
    exact R_ret (r := [_]) rfl ⟨by rw [← he]; rfl, rfl⟩
  | nd i l r =>
    have hm : T.nd i l r ∈ T.subs t := hu
    have hix := List.idxOf_lt_length_of_mem hm
    have hp : T.plc (T.subs t) (.nd i l r) = (T.subs t).idxOf (.nd i l r) + 2 := rfl
    have h10 : decide (((T.plc (T.subs t) (.nd i l r) : Nat) : Int) > 1) = true := by rw [hp]; simp; omega
    have h14 : IntKind.i64.wrap (((T.plc (T.subs t) (.nd i l r) : Nat) : Int) - 2) = (((T.subs t).idxOf (.nd i l r) : Nat) : Int) := by
      rw [← wrap64 (n := (T.subs t).idxOf (.nd i l r)) (by omega), hp]; congr 1; omega
    obtain ⟨kl, kr⟩ := sq.kids hm
    have hi24 : i < 24 := (sq.okk hu).2.1
    have hd1 : T.dec (T.subs t) (.nd i l r) = (i, T.plc (T.subs t) l, T.plc (T.subs t) r) := rfl
    rcases hcs with h0 | ⟨b, rfl, hcs⟩
    · rw [h0] at hm; simp at hm
    (refine RG ?_; simp only [go_sem, iv, sD, rD, h10, h14])
    refine ⟨by omega, ?_⟩
    have hg := T.plc_get hm
    rw [hp, Nat.add_sub_cancel] at hg
    have hlt : (tsC (T.subs t)).length = (T.subs t).length * 3 := tsC_len _
    have hcell := hcs.sub ((T.subs t).idxOf (.nd i l r) * 3) 3 (by omega)
    rw [tsC_get hg, Nat.zero_add, hd1] at hcell
    refine RC_load (l := decC (i, T.plc (T.subs t) l, T.plc (T.subs t) r)) (v := decV (i, T.plc (T.subs t) l, T.plc (T.subs t) r)) rfl rfl rfl hcell (.inl ⟨ag181, rfl⟩) ?_
    have hs : andI .u32 (shrI .u32 (c : Int) (i : Int)) 1 = ((((c >>> i) &&& 1 : Nat)) : Int) := by
      rw [shr32 (by omega)]
      exact and32 (b := 1) (shr_lt hc) (by omega)
    have hbit := bitEq c i
    cases hb : c.testBit i
    · rw [hb] at hbit
      (refine RG ?_; simp only [go_sem, iv, sD, rD, decV, Int.natCast_nonneg, hs, hbit])
      refine hnext l _ _ ?_ (subT_dn (by simp only [go_sem, List.append_nil, iv])) (by simp only [go_sem, List.append_nil, hsS, iv, sD, rD]) ⟨rfl, kl, ?_⟩
      · simp only [T.sz]; omega
      · rw [← he]; simp [T.at', cfgOf, hb]
    · rw [hb] at hbit
      (refine RG ?_; simp only [go_sem, iv, sD, rD, decV, Int.natCast_nonneg, hs, hbit])
      refine hnext r _ _ ?_ (subT_dn (by simp only [go_sem, List.append_nil, iv])) (by simp only [go_sem, List.append_nil, hsS, iv, sD, rD]) ⟨rfl, kr, ?_⟩
      · simp only [T.sz]; omega
      · rw [← he]; simp [T.at', cfgOf, hb]
def TrR (I : PH) (v : Value) (t : Tr) : Prop := ∃ vk vd, v = .agg #[vk, vd] ∧ SlN I vk t.kids ∧ CapN vk ∧ Sl DgR I vd t.diags ∧ CapN vd
theorem SlE.le {I J : PH} {v : Value} {l : List Dgn} (h : Sl DgR I v l) (k : I.le J) : Sl DgR J v l := Sl.le (R := DgR) (fun {I J c a} h k => DgR.le h k) h k
theorem TrR.le {I J : PH} {v : Value} {t : Tr} (h : TrR I v t) (k : I.le J) : TrR J v t := by
  obtain ⟨vk, vd, e, h1, h2, h3, h4⟩ := h
  exact ⟨vk, vd, e, SlN.le h1 k, h2, SlE.le h3 k, h4⟩
end Go.Proofs.YtfaclfkpnmcmlaaGreatDoor
end
section
namespace Go.Proofs.YtfaclfkpnmcmlaaGreatDoor
open Go Go.Sx Dg Syn
theorem un240 : Tryz.prog.underlying 240 = some (.struct #[⟨ "slot", 3, 0, false, "", "motley/syntax", 0⟩, ⟨ "tok", 3, 1, false, "", "motley/syntax", 8⟩, ⟨ "kind", 5, 2, false, "", "motley/syntax", 16⟩, ⟨ "text", 9, 3, false, "", "motley/syntax", 24⟩]) := by kernel_rfl
theorem kt240 : Tryz.prog.keyTypeAt 3 240 = true := by kernel_rfl
theorem ti240 : Tryz.prog.tiled 3 240 = true := by kernel_rfl
theorem K240 : Maps.Keyed Tryz.prog 240 := by
  refine Maps.Keyed.of_law (deep_law (m := 3) (by omega) kt240 ti240 ?_)
  rw [un240]
theorem cells5 : Tryz.prog.cellsOf 5 = 1 := by kernel_rfl
theorem cells9 : Tryz.prog.cellsOf 9 = 1 := by kernel_rfl
theorem un5 : Tryz.prog.underlying 5 = some (.int .u8) := by kernel_rfl
theorem un9 : Tryz.prog.underlying 9 = some .string := by kernel_rfl
end Go.Proofs.YtfaclfkpnmcmlaaGreatDoor
end
section
namespace Go.Proofs.YtfaclfkpnmcmlaaGreatDoor
open Go Go.Sx Dg Syn
def U32R (_ : PH) (c : List Value) (x : Nat) : Prop := c = [.int .u32 x] ∧ x < 2 ^ 32
theorem U32R.len {I : PH} (c : List Value) (x : Nat) (h : U32R I c x) : c.length = 1 := by rw [h.1]; rfl
abbrev OwU (I A : PH) (v : Value) (l : List Nat) : Prop := Ow U32R 23 1 I A v l
abbrev SlU (I : PH) (v : Value) (l : List Nat) : Prop := Sl U32R I v l
theorem OwU.le {I J A : PH} {v : Value} {l : List Nat} (h : OwU I A v l) (k : I.le J) : OwU J A v l := Ow.le (R := U32R) (fun {I J c a} h k => h) h k
theorem SlU.le {I J : PH} {v : Value} {l : List Nat} (h : SlU I v l) (k : I.le J) : SlU J v l := Sl.le (R := U32R) (fun {I J c a} h k => h) h k
def cfS (u : Nat) (x : Nat × Value) : St := ⟨dn 35 [(0, .v (.int .u32 u)), (3, .v x.2), (4, .v (iv x.1))], []⟩
def cfQ (u : Nat) (I0 : PH) (x : Nat × Value) (H : PH) : Prop := ∃ I A l, H = U [I, A] ∧ Dj [I, A] ∧ I0.le I ∧ x.1 ≤ 32 ∧ OwU I A x.2 l ∧ l = cfgsN u x.1
def cf2S (u i n : Nat) (x : Nat × Value) : St := ⟨dn 35 [(0, .v (.int .u32 u)), (3, .v x.2), (4, .v (iv i)), (5, .v (iv n)), (6, .v (iv x.1))], []⟩
def cf2Q (l0 : List Nat) (b : Nat) (I0 : PH) (x : Nat × Value) (H : PH) : Prop := ∃ I A l, H = U [I, A] ∧ Dj [I, A] ∧ I0.le I ∧ x.1 ≤ l0.length ∧ OwU I A x.2 l ∧ l = l0 ++ (l0.take x.1).map (fun x => x ||| 2 ^ b)
theorem cfgsN_len (u : Nat) : ∀ i, (cfgsN u i).length = 2 ^ pop u i
  | 0 => rfl
  | i + 1 => by
    have ih := cfgsN_len u i
    have hp : pop u (i + 1) = pop u i + (u.testBit i).toNat := rfl
    unfold cfgsN
    by_cases h : u.testBit i = true
    · rw [if_pos h, hp, h, List.length_append, List.length_map, ih, show (true : Bool).toNat = 1 from rfl, Nat.pow_succ]; omega
    · have h' : u.testBit i = false := by simpa using h
      rw [if_neg h, hp, h', ih]; rfl
theorem configs_c {I : PH} {u : Nat} (hu : u < 2 ^ 32) (hp : pop u 32 ≤ 8) : DoesI Tryz.prog 21 #[.int .u32 u] I [] fun r I2 qs => qs = [] ∧ SlU I2 r (cfgsN u 32) := by
  intro hd
  refine Does_ofD Tryz.func21 rfl (by simp [Tryz.ntmps21]) fun w0 => ?_
  simp only [Tryz.ntmps21]
  (refine RG ?_; simp only [go_sem])
  refine RC_buildSliceO hd (by exact sl43) rfl rfl rfl rfl rfl (by decide) fun b0 A0 hd1 hrow => ?_
  have hA0 : OwU I A0 (.slice (some ⟨b0, 0, none⟩) 1 1) [0] := ⟨_, hrow, ⟨[.int .u32 0], [], by simp [flatP, Value.cells], ⟨rfl, by decide⟩, rfl⟩⟩
  (refine RG ?_; simp only [go_sem])
  refine RC_loopD (fun x => 32 - x.1) (cfS u) (cfQ u I) (0, .slice (some ⟨b0, 0, none⟩) 1 1) (subT_dn (by simp only [go_sem, List.append_nil, iv])) (by simp only [go_sem, List.append_nil, cfS]) ?_ ?_
  · exact ⟨I, A0, [0], rfl, hd1, PH.le_refl _, Nat.zero_le _, hA0, rfl⟩
  rintro ⟨i, vo⟩ H ⟨I1, A1, l, rfl, hd2, hle1, hi, hA, hle⟩ hnext
  simp only at hi hA hle
  have hll : l.length = 2 ^ pop u i := by rw [hle]; exact cfgsN_len u i
  simp only [cfS]
  obtain ⟨oa, oc, rfl⟩ := hA.shape
  rcases Nat.lt_or_ge i 32 with hlt | hge
  · have h9 : decide ((i : Int) < 32) = true := decide_eq_true (by omega)
    have e1 : IntKind.i64.wrap ((i : Int) + 1) = ((i + 1 : Nat) : Int) := by rw [← wrap64 (n := i + 1) (by omega)]; congr 1
    have a1 := bitI hu (i := i) (by omega)
    have hpm := Nat.le_trans (pop_mono u (i := i + 1) (j := 32) (by omega)) hp
    have hpi : pop u (i + 1) = pop u i + (u.testBit i).toNat := rfl
    have hcap : l.length ≤ 256 := by
      rw [hll]
      exact Nat.le_trans (Nat.pow_le_pow_right (by omega) (show pop u i ≤ 8 by omega)) (by decide)
    cases hb : u.testBit i
    · rw [hb] at a1 hpi
      (refine RG ?_; simp only [go_sem, iv, h9, Int.natCast_nonneg, a1, Bool.toNat_false, Int.cast_ofNat_Int, e1])
      exact hnext (i + 1, .slice oa l.length oc) _ _ (by simp only; omega) (subT_dn (by simp only [go_sem, List.append_nil, iv])) (by simp only [go_sem, List.append_nil, cfS]) ⟨I1, A1, l, rfl, hd2, hle1, hlt, hA, by simp only; rw [hle, cfgsN, if_neg (by rw [hb]; decide)]⟩
    · rw [hb] at a1 hpi
      have hpb : (true : Bool).toNat = 1 := rfl
      have hcap2 : l.length ≤ 128 := by
        rw [hll]
        exact Nat.le_trans (Nat.pow_le_pow_right (by omega) (show pop u i ≤ 7 by omega)) (by decide)
      (refine RG ?_; simp only [go_sem, iv, h9, Int.natCast_nonneg, a1, Bool.toNat_true, Int.cast_ofNat_Int])
      refine RC_loopD (fun x => l.length - x.1) (cf2S u i l.length) (cf2Q l i I1) (0, .slice oa l.length oc) (subT_dn (by simp only [go_sem, List.append_nil, iv])) (by simp only [go_sem, List.append_nil, cf2S]) ?_ ?_
      · exact ⟨I1, A1, l, rfl, hd2, PH.le_refl _, Nat.zero_le _, hA, by simp⟩
      rintro ⟨k, vq⟩ H ⟨I2, A2, m, rfl, hd3, hle2, hk, hA2, hme⟩ hnext2
      simp only at hk hA2 hme
      have hml : m.length = l.length + k := by rw [hme, List.length_append, List.length_map, List.length_take]; omega
      simp only [cf2S]
      obtain ⟨qa, qc, rfl⟩ := hA2.shape
      rcases Nat.lt_or_ge k l.length with hklt | hkge
      · have h21 : decide ((k : Int) < (l.length : Int)) = true := decide_eq_true (by omega)
        have e2 : IntKind.i64.wrap ((k : Int) + 1) = ((k + 1 : Nat) : Int) := by rw [← wrap64 (n := k + 1) (by omega)]; congr 1
        obtain ⟨x, hx⟩ : ∃ x, m[k]? = some x := ⟨_, List.getElem?_eq_getElem (by omega)⟩
        obtain ⟨g, cap, cur, c, ev, rfl, c1, c2, hc, hcl, hcell, _⟩ := hA2.elem (fun {I} c a h => U32R.len (I := I) c a h) (fun {I J c a} h k => h) hx
        cases ev
        obtain ⟨rfl, hx32⟩ := hc
        have hlx : l[k]? = some x := by rw [← hx, hme, List.getElem?_append_left hklt]
        have hp2 : 2 ^ i < 2 ^ 32 := Nat.pow_lt_pow_right (by omega) hlt
        have q1 : orI .u32 (x : Int) (shlI .u32 1 (i : Int)) = ((x ||| 2 ^ i : Nat) : Int) := by rw [shl32 hlt]; exact or32x hx32 hp2
        have hn1 : x ||| 2 ^ i < 2 ^ 32 := Nat.or_lt_two_pow hx32 hp2
        (refine RG ?_; simp only [go_sem, iv, h21])
        refine R_drawn mixed [0, 1, 2, 3, 4, 5, 6, 7, 8, 9, 10] [4] [] rfl rfl ?_
        (refine RD_go ?_; simp only [go_sem, iv])
        try refine ⟨by omega, ?_⟩
        refine RD_load (l := [.int .u32 x]) rfl rfl rfl rfl (by simpa using cellsU hd3 (.tail _ (.head _)) hcell) (.inr ⟨ag23, rfl⟩) ?_
        (refine RD_go ?_; simp only [go_sem, iv, Int.natCast_nonneg, q1])
        refine RD_buildSliceI hd3 (by exact sl43) rfl rfl rfl rfl rfl (by decide) fun nb I4 hd4 hle4 hnb => ?_
        have hS4 : Sl U32R I4 (.slice (some ⟨nb, 0, none⟩) 1 1) [x ||| 2 ^ i] := ⟨_, _, rfl, .inr ⟨nb, 0, _, rfl, cells_at hnb (by simp [flatP, Value.cells]) (by simp [flatP, Value.cells]), .one ⟨rfl, hn1⟩⟩⟩
        (refine RD_go ?_; simp only [go_sem, iv])
        refine RD_appendSl (R := U32R) (xs := m) (ys := [x ||| 2 ^ i]) hd4 (by exact sl43) (OwU.le hA2 hle4) hS4 (fun {I J c a} h k => h) (fun {I} c a h => U32R.len (I := I) c a h) (fun {I} c a h => by rw [h.1]; rfl) rfl rfl rfl rfl rfl rfl (by simp only [List.length_cons, List.length_nil]; omega) (by simp only [List.length_cons, List.length_nil]; unfold maxLen; omega) fun ua uc I5 A5 hd5 hle5 hA5 => ?_
        (refine RD_go ?_; simp only [go_sem, iv])
        refine RD_nil ?_
        (refine RG ?_; simp only [go_sem, iv, e2])
        exact hnext2 (k + 1, .slice ua (m ++ [x ||| 2 ^ i]).length uc) _ _ (by simp only; omega) (subT_dn (by simp only [go_sem, List.append_nil, iv])) (by simp only [go_sem, List.append_nil, cf2S]) ⟨I5, A5, m ++ [x ||| 2 ^ i], rfl, hd5, PH.le_trans hle2 (PH.le_trans hle4 hle5), hklt, hA5, by simp only; rw [take_snoc' hlx, List.map_append, ← List.append_assoc, ← hme]; rfl⟩
      · have : k = l.length := by omega
        subst this
        have h21 : decide ((l.length : Int) < (l.length : Int)) = false := by simp
        (refine RG ?_; simp only [go_sem, iv, h21, e1])
        exact hnext (i + 1, .slice qa m.length qc) _ _ (by simp only; omega) (subT_dn (by simp only [go_sem, List.append_nil, iv])) (by simp only [go_sem, List.append_nil, cfS]) ⟨I2, A2, m, rfl, hd3, PH.le_trans hle1 hle2, hlt, hA2, by simp only; rw [hme, List.take_length, cfgsN, if_pos hb, ← hle]⟩
  · have : i = 32 := by omega
    subst this
    have hcap : l.length ≤ 256 := by
      rw [hll]
      exact Nat.le_trans (Nat.pow_le_pow_right (by omega) hp) (by decide)
    (refine RC_parts hd2 [0] rfl fun hd3 => ?_; simp only [Z4] at hd3 ⊢)
    refine RC_freeze (c := .st _) hd3 fun I3 hd3 hle3 hA3 => ?_
    (refine RG ?_; simp only [go_sem, iv, Int.cast_ofNat_Int])
    exact R_ret_I rfl hd3 (r := [_]) rfl (PH.le_trans hle1 hle3) ⟨rfl, by rw [← hle]; exact Ow.sl (R := U32R) (fun {I J c a} h k => h) hA hle3 hA3⟩
def thS (v : Value) (vc : Value) (x : Nat × Value) : St := ⟨dn 30 [(0, .v v), (5, .v x.2), (6, .v vc), (7, .v (iv x.1))], []⟩
def thQ (m : List Nat) (cl : List (Nat × Nat)) (I0 : PH) (x : Nat × Value) (H : PH) : Prop := ∃ I A l, H = U [I, A] ∧ Dj [I, A] ∧ I0.le I ∧ x.1 ≤ m.length ∧ OwU I A x.2 l ∧ l = (m.take x.1).filter (inB cl)
theorem those_c {I : PH} {v : Value} {l : List (Nat × Nat)} {u : Nat} (hS : SlC I v l) (hl : l.length < 2 ^ 60) (hu : u < 2 ^ 32) (hp : pop u 32 ≤ 8) : DoesI Tryz.prog 25 #[v, .int .u32 u] I [] fun r I2 qs => qs = [] ∧ SlU I2 r (thoseN l u) := by
  obtain ⟨va, vc, rfl, _⟩ := id hS
  intro hd
  refine Does_ofD Tryz.func25 rfl (by simp [Tryz.ntmps25]) fun w0 => ?_
  simp only [Tryz.ntmps25]
  (refine RG ?_; simp only [go_sem])
  refine RC_callI hd [] rfl rfl rfl rfl goes21 (by rfl) (ps := []) (F := []) rfl (configs_c hu hp) fun v1 I1 qs hd1 hle1 hq => ?_
  obtain ⟨rfl, hm⟩ := hq
  have hml : (cfgsN u 32).length ≤ 256 := by rw [cfgsN_len]; exact Nat.le_trans (Nat.pow_le_pow_right (by omega) hp) (by decide)
  have hfin : thoseN l u = (cfgsN u 32).filter (inB l) := rfl
  rw [hfin]
  clear hfin
  generalize cfgsN u 32 = m at hm hml ⊢
  simp only [Z3] at hd1 ⊢
  obtain ⟨ma, mc, rfl, _⟩ := id hm
  (refine RG ?_; simp only [go_sem])
  refine RC_addno hd1 fun hd2 => ?_
  refine RC_loopD (fun x => m.length - x.1) (thS (.slice va l.length vc) (.slice ma m.length mc)) (thQ m l I1) (0, .slice none 0 0) (subT_dn (by simp only [go_sem, List.append_nil, iv])) (by simp only [go_sem, List.append_nil, thS]) ?_ ?_
  · exact ⟨I1, _, [], rfl, hd2, PH.le_refl _, Nat.zero_le _, Ow.nil _ _ _ _, by simp⟩
  rintro ⟨i, vo⟩ H ⟨I2, A2, o, rfl, hd3, hle2, hi, hA, hoe⟩ hnext
  simp only at hi hA hoe
  have hol : o.length ≤ i := by rw [hoe]; exact Nat.le_trans (List.length_filter_le _ _) (by rw [List.length_take]; omega)
  simp only [thS]
  obtain ⟨oa, oc, rfl⟩ := hA.shape
  rcases Nat.lt_or_ge i m.length with hlt | hge
  · have h13 : decide ((i : Int) < (m.length : Int)) = true := decide_eq_true (by omega)
    have e1 : IntKind.i64.wrap ((i : Int) + 1) = ((i + 1 : Nat) : Int) := by rw [← wrap64 (n := i + 1) (by omega)]; congr 1
    obtain ⟨x, hx⟩ : ∃ x, m[i]? = some x := ⟨_, List.getElem?_eq_getElem hlt⟩
    obtain ⟨b, off, cs, rfl, ⟨rfl, x32⟩, hcell⟩ := Sl.load (fun {I} c a h => U32R.len (I := I) c a h) (SlU.le hm hle2) hx
    (refine RG ?_; simp only [go_sem, iv, h13])
    try refine ⟨by omega, ?_⟩
    refine RC_load (l := [.int .u32 x]) rfl rfl rfl (cellsU hd3 (.head _) (by simpa using hcell)) (.inr ⟨ag23, rfl⟩) ?_
    (refine RG ?_; simp only [go_sem, iv])
    refine RC_call rfl rfl rfl rfl goes34 (in_c (SlC.le hS (PH.le_trans hle1 (PH.le_trans hle2 (le_first hd3)))) hl x32) fun v H2 hv => ?_
    obtain ⟨rfl, rfl⟩ := hv
    cases hin : inB l x
    · (refine RG ?_; simp only [go_sem, iv, e1])
      exact hnext (i + 1, .slice oa o.length oc) _ _ (by simp only; omega) (subT_dn (by simp only [go_sem, List.append_nil, iv])) (by simp only [go_sem, List.append_nil, thS]) ⟨I2, A2, o, rfl, hd3, hle2, hlt, hA, by simp only; rw [take_snoc' hx, List.filter_append, ← hoe]; simp [hin]⟩
    · (refine RG ?_; simp only [go_sem, iv])
      try refine ⟨by omega, ?_⟩
      refine RC_load (l := [.int .u32 x]) rfl rfl rfl (cellsU hd3 (.head _) (by simpa using hcell)) (.inr ⟨ag23, rfl⟩) ?_
      (refine RG ?_; simp only [go_sem, iv])
      refine RC_buildSliceI hd3 (by exact sl43) rfl rfl rfl rfl rfl (by decide) fun nb I4 hd4 hle4 hnb => ?_
      have hS4 : Sl U32R I4 (.slice (some ⟨nb, 0, none⟩) 1 1) [x] := ⟨_, _, rfl, .inr ⟨nb, 0, _, rfl, cells_at hnb (by simp [flatP, Value.cells]) (by simp [flatP, Value.cells]), .one ⟨rfl, x32⟩⟩⟩
      (refine RG ?_; simp only [go_sem, iv])
      refine RC_appendSl (R := U32R) (xs := o) (ys := [x]) hd4 (by exact sl43) (OwU.le hA hle4) hS4 (fun {I J c a} h k => h) (fun {I} c a h => U32R.len (I := I) c a h) (fun {I} c a h => by rw [h.1]; rfl) rfl rfl rfl rfl (by simp only [List.length_cons, List.length_nil]; omega) (by simp only [List.length_cons, List.length_nil]; unfold maxLen; omega) fun ua uc I5 A5 hd5 hle5 hA5 => ?_
      (refine RG ?_; simp only [go_sem, iv, e1])
      exact hnext (i + 1, .slice ua (o ++ [x]).length uc) _ _ (by simp only; omega) (subT_dn (by simp only [go_sem, List.append_nil, iv])) (by simp only [go_sem, List.append_nil, thS]) ⟨I5, A5, o ++ [x], rfl, hd5, PH.le_trans hle2 (PH.le_trans hle4 hle5), hlt, hA5, by simp only; rw [take_snoc' hx, List.filter_append, ← hoe]; simp [hin]⟩
  · have : i = m.length := by omega
    subst this
    have h13 : decide ((m.length : Int) < (m.length : Int)) = false := by simp
    (refine RC_parts hd3 [0] rfl fun hd4 => ?_; simp only [Z4] at hd4 ⊢)
    refine RC_freeze (c := .st _) hd4 fun I4 hd4 hle4 hA4 => ?_
    (refine RG ?_; simp only [go_sem, iv, h13])
    exact R_ret_I rfl hd4 (r := [_]) rfl (PH.le_trans hle1 (PH.le_trans hle2 hle4)) ⟨rfl, by rw [List.take_length] at hoe; rw [← hoe]; exact Ow.sl (R := U32R) (fun {I J c a} h k => h) hA hle4 hA4⟩
end Go.Proofs.YtfaclfkpnmcmlaaGreatDoor
end
section
namespace Go.Proofs.YtfaclfkpnmcmlaaGreatDoor
open Go Go.Sx Dg Syn
theorem goes107 : Goes Tryz.prog 107 := ⟨_, Tryz.func107, rfl, rfl⟩
theorem goes53 : Goes Tryz.prog 53 := ⟨_, Tryz.func53, rfl, rfl⟩
theorem goes89 : Goes Tryz.prog 89 := ⟨_, Tryz.func89, rfl, rfl⟩
theorem goes90 : Goes Tryz.prog 90 := ⟨_, Tryz.func90, rfl, rfl⟩
theorem goes91 : Goes Tryz.prog 91 := ⟨_, Tryz.func91, rfl, rfl⟩
theorem goes92 : Goes Tryz.prog 92 := ⟨_, Tryz.func92, rfl, rfl⟩
theorem goes35 : Goes Tryz.prog 35 := ⟨_, Tryz.func35, rfl, rfl⟩
def EqS (P : Program) (T : TypeId) (cs : Array Value) : Prop := P.eqGuardType P.depth T = false ∧ ∀ w, (Op.equalIn 10000 T (.agg cs) (.agg cs)).run P w = .ok true w
theorem spec_eqA {P : Program} {σ : St} {H : PH} {o : Oper} {T T2 : TypeId} {op : BinOp} {x y : Operand} {cs : Array Value} (hop : o.op = .binOp op T x y T2) (ho : op = .eql ∨ op = .neq) (hx : ev σ x = .v (.agg cs)) (hy : ev σ y = .v (.agg cs)) (he : EqS P T cs) :
    knownS σ o.op = true ∧ ∀ w, Sub H w → (execOp (cenv σ) o).run P w = .ok (.value (.bool (match op with | .neq => false | _ => true))) w := by
  constructor
  · simp [knownS, hop, noSel, Op.operands, hx, hy, isV]
  · intro w _
    rcases ho with rfl | rfl
    · simp [execOp, hop, cenv, hx, hy, Sem.run_bind, run_eqGuard_agg w .eql T x y cs cs he.1, run_eql_struct, he.2 w, Result.andThen]
    · simp [execOp, hop, cenv, hx, hy, Sem.run_bind, run_eqGuard_agg w .neq T x y cs cs he.1, run_neq_struct, he.2 w, Result.andThen]
theorem RD_neS {C : Cx} {ol : List Oper} {fr : FrD} {str : StD} {k : List Item} {σ : St} {H : PH} {i : Nat} {o : Oper} {l : List (Nat × Oper)} {T T2 : TypeId} {x y : Operand} {cs : Array Value} (hf : fr.h.contains i = true) (hw : wantedS ol σ o = some true) (hop : o.op = .binOp .neq T x y T2) (hx : ev σ x = .v (.agg cs)) (hy : ev σ y = .v (.agg cs)) (he : EqS C.P T cs) (h : RD C ol fr str l k (σ.put o.dst (.v (.bool false))) H) : RD C ol fr str ((i, o) :: l) k σ H := by
  obtain ⟨q1, q2⟩ := spec_eqA (H := H) hop (.inr rfl) hx hy he
  exact RD_read (.bool false) hf hw q1 (by rw [hop]; rfl) q2 h
theorem eqS181 (a b c : Int) : EqS Tryz.prog 181 #[.int .i64 a, .int .i64 b, .int .i64 c] := by
  refine ⟨by kernel_rfl, fun w => ?_⟩
  have hS : Tryz.prog.underlying 181 = some (.struct (Tryz.prog.fieldsOf 181)) := by kernel_rfl
  have hp : Tryz.prog.stoodInHeld 181 = false := by kernel_rfl
  have hf : (Tryz.prog.fieldsOf 181).toList = [⟨ "Var", 3, 0, false, "", "", 0⟩, ⟨ "Low", 3, 1, false, "", "", 8⟩, ⟨ "High", 3, 2, false, "", "", 16⟩] := by unfold Program.fieldsOf; rw [un181]
  have p0 : (part 3 #[.int .i64 a, .int .i64 b, .int .i64 c] 0).run Tryz.prog w = .ok (.int .i64 a) w := run_part (by unfold rdCells; rw [ag3]; rfl)
  have p1 : (part 3 #[.int .i64 a, .int .i64 b, .int .i64 c] 1).run Tryz.prog w = .ok (.int .i64 b) w := run_part (by unfold rdCells; rw [ag3]; rfl)
  have p2 : (part 3 #[.int .i64 a, .int .i64 b, .int .i64 c] 2).run Tryz.prog w = .ok (.int .i64 c) w := run_part (by unfold rdCells; rw [ag3]; rfl)
  rw [show (10000 : Nat) = 9998 + 1 + 1 from rfl, run_equalIn_agg w (9998 + 1) 181 _ _ hS hp, hf]
  simp [Op.eqFields, Sem.run_bind, p0, p1, p2, Result.andThen, run_equalIn_int w 9998 3 .i64 .i64 _ _ un3]
def eqlS (v1 v2 : Value) (n i : Nat) : St := ⟨dn 26 [(0, .v v1), (1, .v v2), (11, .v v1), (12, .v (iv n)), (13, .v (iv i))], []⟩
theorem equal_d {H : PH} {v1 v2 : Value} {ts : List T} (h1 : LstD H v1 ts) (h2 : LstD H v2 ts) (hl : ts.length < 2 ^ 40) : Does Tryz.prog 107 #[v1, v2] H fun r H2 => r = .bool true ∧ H2 = H := by
  obtain ⟨a1, c1, rfl, g1⟩ := h1
  obtain ⟨a2, c2, rfl, g2⟩ := h2
  refine Does_ofD Tryz.func107 rfl (by simp [Tryz.ntmps107]) fun w0 => ?_
  simp only [Tryz.ntmps107]
  have h0 : ((ts.length : Int) != (ts.length : Int)) = false := by simp
  (refine RG ?_; simp only [go_sem, h0])
  refine RC_loopD (fun x => ts.length - x) (eqlS (.slice a1 ts.length c1) (.slice a2 ts.length c2) ts.length) (fun i H2 => H2 = H ∧ i ≤ ts.length) 0 (subT_dn (by simp only [go_sem, List.append_nil, iv])) (by simp only [go_sem, List.append_nil, eqlS]) ⟨rfl, Nat.zero_le _⟩ ?_
  rintro i H2 ⟨rfl, hi⟩ hnext
  simp only [eqlS]
  rcases Nat.lt_or_ge i ts.length with hlt | hge
  · have h14 : decide ((i : Int) < (ts.length : Int)) = true := decide_eq_true (by omega)
    have e1 : IntKind.i64.wrap ((i : Int) + 1) = ((i + 1 : Nat) : Int) := by rw [← wrap64 (n := i + 1) (by omega)]; congr 1
    obtain ⟨t, ht⟩ : ∃ t, ts[i]? = some t := ⟨_, List.getElem?_eq_getElem hlt⟩
    have hlen : (tsC ts).length = ts.length * 3 := tsC_len _
    have ld : ∀ {a : Option Addr}, (ts = [] ∨ ∃ b, a = some ⟨b, 0, none⟩ ∧ Cells H2 b 0 (tsC ts)) → ∃ b, a = some ⟨b, 0, none⟩ ∧ Cells H2 b (i * 3) (decC (T.dec ts t)) := by
      rintro a (h | ⟨b, e, h⟩)
      · rw [h] at hlt; simp at hlt
      · have hc := h.sub (i * 3) 3 (by omega)
        rw [tsC_get ht, Nat.zero_add] at hc
        exact ⟨b, e, hc⟩
    obtain ⟨b1, rfl, l1⟩ := ld g1
    obtain ⟨b2, rfl, l2⟩ := ld g2
    (refine RG ?_; simp only [go_sem, iv, h14])
    refine R_drawn mixed [0, 1, 2, 3, 4, 5, 6, 7, 8] [3, 7, 8] [] rfl rfl ?_
    (refine RD_go ?_; simp only [go_sem, iv])
    try refine ⟨by omega, ?_⟩
    refine RD_load (l := decC (T.dec ts t)) (v := decV (T.dec ts t)) rfl rfl rfl rfl (by simpa using l1) (.inl ⟨ag181, rfl⟩) ?_
    (refine RD_go ?_; simp only [go_sem, iv, decV])
    try refine ⟨by omega, ?_⟩
    refine RD_load (l := decC (T.dec ts t)) (v := decV (T.dec ts t)) rfl rfl rfl rfl (by simpa using l2) (.inl ⟨ag181, rfl⟩) ?_
    (refine RD_go ?_; simp only [go_sem, iv, decV])
    refine RD_neS rfl rfl rfl rfl rfl (eqS181 (T.dec ts t).1 (T.dec ts t).2.1 (T.dec ts t).2.2) ?_
    (refine RD_go ?_; simp only [go_sem, iv])
    refine RD_nil ?_
    (refine RG ?_; simp only [go_sem, iv, e1])
    exact hnext (i + 1) _ _ (by omega) (subT_dn (by simp only [go_sem, List.append_nil, iv])) (by simp only [go_sem, List.append_nil, eqlS]) ⟨rfl, hlt⟩
  · have : i = ts.length := by omega
    subst this
    have h14 : decide ((ts.length : Int) < (ts.length : Int)) = false := by simp
    (refine RG ?_; simp only [go_sem, iv, h14])
    exact R_ret (r := [_]) rfl ⟨rfl, rfl⟩
theorem subsLen24 {t : T} (h : t.ok 0) : (T.subs t).length + 1 ≤ 2 ^ 24 := by
  obtain ⟨us, e1, e2, _⟩ := (T.vis_spec t h (by omega) [] T.Seq.nil).2.2
  rw [List.nil_append] at e1
  show (t.vis []).length + 1 ≤ _
  rw [e1]; exact e2
theorem same_d {H : PH} {v1 v2 : Value} {t : T} (h1 : RepD H v1 t) (h2 : RepD H v2 t) : Does Tryz.prog 53 #[v1, v2] H fun r H2 => r = .bool true ∧ H2 = H := by
  have hl := subsLen24 h1.1
  obtain ⟨_, s1, rfl, g1⟩ := h1
  obtain ⟨_, s2, rfl, g2⟩ := h2
  obtain ⟨a1, c1, rfl, _⟩ := id g1
  obtain ⟨a2, c2, rfl, _⟩ := id g2
  refine Does_ofD Tryz.func53 rfl (by simp [Tryz.ntmps53]) fun w0 => ?_
  simp only [Tryz.ntmps53, iv]
  (refine RG ?_; simp only [go_sem])
  refine RC_call rfl rfl rfl rfl goes107 (equal_d g1 g2 (by omega)) fun v H2 hv => ?_
  obtain ⟨rfl, rfl⟩ := hv
  (refine RG ?_; simp only [go_sem])
  exact R_ret (r := [_]) rfl ⟨rfl, rfl⟩
def ndE (v1 v2 vf : Value) (n i : Nat) : St := ⟨dn 32 [(0, .v v1), (1, .v v2), (2, .v vf), (15, .v v1), (16, .v (iv n)), (17, .v (iv i))], []⟩
end Go.Proofs.YtfaclfkpnmcmlaaGreatDoor
end
section
namespace Go.Proofs.YtfaclfkpnmcmlaaGreatDoor
open Go Go.Sx Dg Syn
theorem goes114 : Goes Tryz.prog 114 := ⟨_, Tryz.func114, rfl, rfl⟩
theorem goes58 : Goes Tryz.prog 58 := ⟨_, Tryz.func58, rfl, rfl⟩
theorem un4b : Tryz.prog.underlying 4 = some .bool := by kernel_rfl
theorem RD_neB {C : Cx} {ol : List Oper} {fr : FrD} {str : StD} {k : List Item} {σ : St} {H : PH} {i : Nat} {o : Oper} {l : List (Nat × Oper)} {T T2 : TypeId} {x y : Operand} {a b : Bool} (hf : fr.h.contains i = true) (hw : wantedS ol σ o = some true) (hop : o.op = .binOp .neq T x y T2) (hx : ev σ x = .v (.bool a)) (hy : ev σ y = .v (.bool b)) (hu : C.P.underlying T = some .bool) (h : RD C ol fr str l k (σ.put o.dst (.v (.bool (!(a == b))))) H) : RD C ol fr str ((i, o) :: l) k σ H := by
  refine RD_read (.bool (!(a == b))) hf hw (by simp [knownS, hop, noSel, Op.operands, hx, hy, isV]) (by rw [hop]; rfl) (fun w _ => ?_) h
  simp [execOp, hop, cenv, hx, hy, Sem.run_bind, eqGuard, run_neq_bool w T a b hu, Result.andThen]
def suppF (ts l : List T) : Nat := l.foldl (fun s x => s ||| 2 ^ (T.dec ts x).1) 0
def suppN (t : T) : Nat := suppF (T.subs t) (T.subs t)
theorem suppF_snoc (ts l : List T) (x : T) : suppF ts (l ++ [x]) = suppF ts l ||| 2 ^ (T.dec ts x).1 := by unfold suppF; rw [List.foldl_append]; rfl
def suS (v : Value) (n : Nat) (x : Nat × Nat) : St := ⟨dn 20 [(3, .v (.int .u32 x.2)), (7, .v v), (8, .v (iv n)), (9, .v (iv x.1))], []⟩
theorem supp_c {H : PH} {v : Value} {t : T} (h : RepD H v t) : Does Tryz.prog 114 #[v] H fun r H2 => r = .int .u32 (suppN t : Nat) ∧ H2 = H := by
  have hlen := subsLen24 h.1
  obtain ⟨hok, sl, rfl, hL⟩ := h
  obtain ⟨a, k, rfl, hcs⟩ := hL
  have sq : T.Seq (T.subs t) := (T.vis_spec t hok (by omega) [] T.Seq.nil).1
  refine Does_ofD Tryz.func114 rfl (by simp [Tryz.ntmps114]) fun w0 => ?_
  simp only [Tryz.ntmps114, iv]
  (refine RG ?_; simp only [go_sem])
  refine RC_loopD (fun x => (T.subs t).length - x.1) (suS (.slice a (T.subs t).length k) (T.subs t).length) (fun x H2 => H2 = H ∧ x.1 ≤ (T.subs t).length ∧ x.2 = suppF (T.subs t) ((T.subs t).take x.1) ∧ x.2 < 2 ^ 24) (0, 0) (subT_dn (by simp only [go_sem, List.append_nil, iv])) (by simp only [go_sem, List.append_nil, suS]) ⟨rfl, Nat.zero_le _, rfl, by decide⟩ ?_
  rintro ⟨i, s⟩ H2 ⟨rfl, hi, hs, hs24⟩ hnext
  simp only at hi hs hs24
  simp only [suS]
  rcases Nat.lt_or_ge i (T.subs t).length with hlt | hge
  · have h10 : decide ((i : Int) < ((T.subs t).length : Int)) = true := decide_eq_true (by omega)
    have e1 : IntKind.i64.wrap ((i : Int) + 1) = ((i + 1 : Nat) : Int) := by rw [← wrap64 (n := i + 1) (by omega)]; congr 1
    obtain ⟨x, hx⟩ : ∃ x, (T.subs t)[i]? = some x := ⟨_, List.getElem?_eq_getElem hlt⟩
    have hm := List.mem_of_getElem? hx
    have hi24 : (T.dec (T.subs t) x).1 < 24 := by
      cases x with
      | lf b => obtain ⟨_, _, _, e, _⟩ := sq.2 i _ hx; cases e
      | nd i l r => exact (sq.okk (show T.isIn (T.subs t) (.nd i l r) from hm)).2.1
    rcases hcs with h0 | ⟨b, rfl, hcs⟩
    · rw [h0] at hlt; simp at hlt
    have hltt : (tsC (T.subs t)).length = (T.subs t).length * 3 := tsC_len _
    have hcell := hcs.sub (i * 3) 3 (by omega)
    rw [tsC_get hx, Nat.zero_add] at hcell
    have hp24 : 2 ^ (T.dec (T.subs t) x).1 < 2 ^ 24 := Nat.pow_lt_pow_right (by omega) hi24
    have q1 : orI .u32 (s : Int) (shlI .u32 1 (((T.dec (T.subs t) x).1 : Nat) : Int)) = ((s ||| 2 ^ (T.dec (T.subs t) x).1 : Nat) : Int) := by rw [shl32 (by omega)]; exact or32x (by omega) (by omega)
    (refine RG ?_; simp only [go_sem, iv, h10])
    refine ⟨by omega, ?_⟩
    refine RC_load (l := decC (T.dec (T.subs t) x)) (v := decV (T.dec (T.subs t) x)) rfl rfl rfl (by simpa using hcell) (.inl ⟨ag181, rfl⟩) ?_
    (refine RG ?_; simp only [go_sem, iv, decV, Int.natCast_nonneg, q1, e1])
    exact hnext (i + 1, s ||| 2 ^ (T.dec (T.subs t) x).1) _ _ (by simp only; omega) (subT_dn (by simp only [go_sem, List.append_nil, iv])) (by simp only [go_sem, List.append_nil, suS]) ⟨rfl, hlt, by simp only; rw [take_snoc' hx, suppF_snoc, ← hs], Nat.or_lt_two_pow hs24 hp24⟩
  · have : i = (T.subs t).length := by omega
    subst this
    rw [List.take_length] at hs
    have h10 : decide ((((T.subs t).length : Nat) : Int) < ((T.subs t).length : Int)) = false := by simp
    (refine RG ?_; simp only [go_sem, iv, h10])
    exact R_ret (r := [_]) rfl ⟨by rw [hs]; rfl, rfl⟩
theorem cfgsN_sorted (u : Nat) : ∀ i, (cfgsN u i).Pairwise (· < ·)
  | 0 => List.pairwise_singleton _ _
  | i + 1 => by
    have ih := cfgsN_sorted u i
    have key : ∀ x ∈ cfgsN u i, x ||| 2 ^ i = 2 ^ i + x := fun x hx => by
      have := Nat.two_pow_add_eq_or_of_lt (cfgsN_lt u i x hx) 1
      rw [Nat.mul_one] at this
      rw [this, Nat.or_comm]
    unfold cfgsN
    split
    · refine List.pairwise_append.2 ⟨ih, ?_, fun x hx y hy => ?_⟩
      · rw [List.pairwise_map]
        exact ih.imp_of_mem fun {x y} hx hy h => by rw [key x hx, key y hy]; omega
      · obtain ⟨z, hz, rfl⟩ := List.mem_map.1 hy
        have := cfgsN_lt u i x hx
        rw [key z hz]; omega
    · exact ih
def akS (a : Option Addr) (k : Nat) (t : T) (vl vm : Value) (u : Nat) (x : Nat × Nat) : St := ⟨dn 56 [(1, .v vl), (2, .v (.int .u32 u)), (3, .p 3 0), (7, .v vm), (8, .v (iv x.2)), (9, .v (iv x.1))], [⟨3, 50, [sD a k t, rD t]⟩]⟩
theorem alike_c {I : PH} {vd vl : Value} {t : T} {u : Nat} (hD : RepD I vd t) (hL : SlU I vl ((cfgsN u 32).filter fun c => t.at' (cfgOf c))) (hu : u < 2 ^ 32) (hp : pop u 32 ≤ 8) (hs : andnI .u32 (suppN t : Nat) (u : Nat) = 0) :
    DoesI Tryz.prog 58 #[vd, vl, .int .u32 u] I [] fun r I2 qs => qs = [] ∧ r = .bool true := by
  obtain ⟨xa, xk, rfl⟩ := hD.shape2
  intro hd
  refine Does_ofD Tryz.func58 rfl (by simp [Tryz.ntmps58]) fun w0 => ?_
  simp only [Tryz.ntmps58]
  (refine RG ?_; simp only [go_sem, sD, rD])
  refine RC_callI hd [] rfl rfl rfl rfl goes21 (by rfl) (ps := []) (F := []) rfl (configs_c hu hp) fun v I1 qs hd1 hle1 hq => ?_
  obtain ⟨rfl, hm⟩ := hq
  simp only [Z3] at hd1 ⊢
  have hml : (cfgsN u 32).length ≤ 256 := by rw [cfgsN_len]; exact Nat.le_trans (Nat.pow_le_pow_right (by omega) hp) (by decide)
  have hsrt := cfgsN_sorted u 32
  have hL := hL.le hle1
  have hD := hD.le hle1
  have hlt32 : ∀ x ∈ cfgsN u 32, x < 2 ^ 32 := cfgsN_lt u 32
  generalize cfgsN u 32 = m at hm hml hL hsrt hlt32 ⊢
  obtain ⟨l, hl⟩ : ∃ l, (m.filter fun c => t.at' (cfgOf c)) = l := ⟨_, rfl⟩
  rw [hl] at hL
  have hll : l.length ≤ m.length := by rw [← hl]; exact List.length_filter_le _ _
  obtain ⟨la, lc, rfl, _⟩ := id hL
  obtain ⟨ma, mc, rfl, _⟩ := id hm
  (refine RG ?_; simp only [go_sem, sD, rD])
  refine RC_loopD (fun x => m.length - x.1) (akS xa xk t (.slice la l.length lc) (.slice ma m.length mc) u) (fun x H2 => ∃ J, H2 = U [J] ∧ Dj [J] ∧ I1.le J ∧ x.1 ≤ m.length ∧ x.2 = ((m.take x.1).filter fun c => t.at' (cfgOf c)).length) (0, 0) (subT_dn (by simp only [go_sem, List.append_nil, iv])) (by simp only [go_sem, List.append_nil, akS, sD, rD, iv]) ⟨I1, rfl, hd1, PH.le_refl _, Nat.zero_le _, by simp⟩ ?_
  rintro ⟨i, j⟩ H2 ⟨J, rfl, hdJ, hleJ, hi, hj⟩ hnext
  simp only at hi hj
  have hL := hL.le hleJ
  have hm := hm.le hleJ
  have hD := hD.le hleJ
  simp only [akS]
  rcases Nat.lt_or_ge i m.length with hlt | hge
  · have h16 : decide ((i : Int) < (m.length : Int)) = true := decide_eq_true (by omega)
    have e1 : IntKind.i64.wrap ((i : Int) + 1) = ((i + 1 : Nat) : Int) := by rw [← wrap64 (n := i + 1) (by omega)]; congr 1
    have hjm : j ≤ i := by rw [hj]; exact Nat.le_trans (List.length_filter_le _ _) (by rw [List.length_take]; omega)
    have e2 : IntKind.i64.wrap ((j : Int) + 1) = ((j + 1 : Nat) : Int) := by rw [← wrap64 (n := j + 1) (by omega)]; congr 1
    obtain ⟨x, hx⟩ : ∃ x, m[i]? = some x := ⟨_, List.getElem?_eq_getElem hlt⟩
    have hxm := List.mem_of_getElem? hx
    have hx32 := hlt32 x hxm
    have hdr : m.drop i = x :: m.drop (i + 1) := by
      rw [List.drop_eq_getElem_cons hlt]
      rw [List.getElem?_eq_getElem hlt] at hx
      rw [Option.some.inj hx]
    have hsplit : l = (m.take i).filter (fun c => t.at' (cfgOf c)) ++ (m.drop i).filter (fun c => t.at' (cfgOf c)) := by rw [← hl, ← List.filter_append, List.take_append_drop]
    have hgt : ∀ y ∈ m.drop (i + 1), x < y := fun y hy => by
      have h1 := hsrt.sublist (List.drop_sublist i m)
      rw [hdr] at h1
      exact (List.pairwise_cons.1 h1).1 y hy
    have hlj : l[j]? = ((m.drop i).filter fun c => t.at' (cfgOf c))[0]? := by
      rw [hsplit, List.getElem?_append_right (by omega), hj, Nat.sub_self]
    have hread : (j < l.length ∧ ∃ y, l[j]? = some y ∧ ((y : Int) == (x : Int)) = t.at' (cfgOf x)) ∨ (¬ j < l.length ∧ t.at' (cfgOf x) = false) := by
      rw [hdr, List.filter_cons] at hlj
      cases hP : t.at' (cfgOf x)
      · rw [hP, if_neg (by decide)] at hlj
        by_cases hjl : j < l.length
        · obtain ⟨y, hy⟩ : ∃ y, l[j]? = some y := ⟨_, List.getElem?_eq_getElem hjl⟩
          refine .inl ⟨hjl, y, hy, ?_⟩
          rw [hy] at hlj
          have := hgt y (List.mem_filter.1 (List.mem_of_getElem? hlj.symm)).1
          exact beq_false_of_ne (by omega)
        · exact .inr ⟨hjl, rfl⟩
      · rw [hP, if_pos rfl, List.getElem?_cons_zero] at hlj
        exact .inl ⟨(List.getElem?_eq_some_iff.1 hlj).1, x, hlj, beq_self_eq_true _⟩
    have hj2 : ((m.take (i + 1)).filter fun c => t.at' (cfgOf c)).length = j + (t.at' (cfgOf x)).toNat := by
      rw [take_snoc' hx, List.filter_append, List.length_append, ← hj]
      cases hP : t.at' (cfgOf x) <;> simp [hP]
    obtain ⟨b, off, cs, rfl, ⟨rfl, _⟩, hcell⟩ := Sl.load (fun {I} c a h => U32R.len (I := I) c a h) hm hx
    have hqq : (!(t.at' (cfgOf x) == t.at' (cfgOf x))) = false := by simp
    (refine RG ?_; simp only [go_sem, iv, h16])
    rcases hread with ⟨hjl, y, hy, hyx⟩ | ⟨hjl, hP⟩
    · have h22 : decide ((j : Int) < (l.length : Int)) = true := decide_eq_true (by omega)
      obtain ⟨b2, off2, cs2, e2', ⟨rfl, _⟩, hcell2⟩ := Sl.load (fun {I} c a h => U32R.len (I := I) c a h) hL hy
      cases e2'
      refine R_drawn mixed [0, 1, 2, 3, 4, 5, 6, 7, 8, 9, 10, 11, 12, 13, 14, 15] [8, 12] [] rfl rfl ?_
      (refine RD_go ?_; simp only [go_sem, iv, h22])
      try refine ⟨by omega, ?_⟩
      refine RD_load (l := [.int .u32 y]) rfl rfl rfl rfl (cellsU hdJ (.head _) (by simpa using hcell2)) (.inr ⟨ag23, rfl⟩) ?_
      (refine RD_go ?_; simp only [go_sem, iv])
      try refine ⟨by omega, ?_⟩
      refine RD_load (l := [.int .u32 x]) rfl rfl rfl rfl (cellsU hdJ (.head _) (by simpa using hcell)) (.inr ⟨ag23, rfl⟩) ?_
      (refine RD_go ?_; simp only [go_sem, iv, hyx])
      refine RD_nil ?_
      cases hP : t.at' (cfgOf x)
      · rw [hP] at hqq hj2
        (refine RG ?_; simp only [go_sem, iv])
        refine R_drawn mixed [0, 1, 2, 3, 4, 6, 5, 7] [4, 7] [] rfl rfl ?_
        (refine RD_go ?_; simp only [go_sem, iv, sD, rD])
        try refine ⟨by omega, ?_⟩
        refine RD_load (l := [.int .u32 x]) rfl rfl rfl rfl (cellsU hdJ (.head _) (by simpa using hcell)) (.inr ⟨ag23, rfl⟩) ?_
        (refine RD_go ?_; simp only [go_sem, iv, sD, rD])
        refine RD_callI hdJ [] rfl (fun h => by cases h) rfl rfl rfl rfl goes36 (by rfl) (ps := []) (F := []) rfl (Does.keep (has_c hD hx32)) fun v I2 qs hd2 hle2 hq2 => ?_
        obtain ⟨rfl, rfl⟩ := hq2
        simp only [Z3] at hd2 ⊢
        rw [hP]
        (refine RD_go ?_; simp only [go_sem, iv])
        refine RD_neB rfl rfl rfl rfl rfl un4b ?_
        (refine RD_go ?_; simp only [go_sem, iv])
        refine RD_nil ?_
        (refine RG ?_; simp only [go_sem, iv, e1])
        exact hnext (i + 1, j) _ _ (by simp only; omega) (subT_dn (by simp only [go_sem, List.append_nil, iv])) (by simp only [go_sem, List.append_nil, akS, sD, rD, iv]) ⟨I2, rfl, hd2, PH.le_trans hleJ hle2, hlt, by simp only; rw [hj2]; rfl⟩
      · rw [hP] at hqq hj2
        (refine RG ?_; simp only [go_sem, iv, e2])
        refine R_drawn mixed [0, 1, 2, 3, 4, 6, 5, 7] [4, 7] [] rfl rfl ?_
        (refine RD_go ?_; simp only [go_sem, iv, sD, rD])
        try refine ⟨by omega, ?_⟩
        refine RD_load (l := [.int .u32 x]) rfl rfl rfl rfl (cellsU hdJ (.head _) (by simpa using hcell)) (.inr ⟨ag23, rfl⟩) ?_
        (refine RD_go ?_; simp only [go_sem, iv, sD, rD])
        refine RD_callI hdJ [] rfl (fun h => by cases h) rfl rfl rfl rfl goes36 (by rfl) (ps := []) (F := []) rfl (Does.keep (has_c hD hx32)) fun v I2 qs hd2 hle2 hq2 => ?_
        obtain ⟨rfl, rfl⟩ := hq2
        simp only [Z3] at hd2 ⊢
        rw [hP]
        (refine RD_go ?_; simp only [go_sem, iv])
        refine RD_neB rfl rfl rfl rfl rfl un4b ?_
        (refine RD_go ?_; simp only [go_sem, iv])
        refine RD_nil ?_
        (refine RG ?_; simp only [go_sem, iv, e1])
        exact hnext (i + 1, j + 1) _ _ (by simp only; omega) (subT_dn (by simp only [go_sem, List.append_nil, iv])) (by simp only [go_sem, List.append_nil, akS, sD, rD, iv]) ⟨I2, rfl, hd2, PH.le_trans hleJ hle2, hlt, by simp only; rw [hj2]; rfl⟩
    · have h22 : decide ((j : Int) < (l.length : Int)) = false := decide_eq_false (by omega)
      rw [hP] at hqq hj2
      refine R_drawn mixed [0, 1, 2, 3, 4, 5, 6, 7, 8, 9, 10, 11, 12, 13, 14, 15] [8, 12] [] rfl rfl ?_
      (refine RD_go ?_; simp only [go_sem, iv, h22])
      refine RD_nil ?_
      (refine RG ?_; simp only [go_sem, iv])
      refine R_drawn mixed [0, 1, 2, 3, 4, 6, 5, 7] [4, 7] [] rfl rfl ?_
      (refine RD_go ?_; simp only [go_sem, iv, sD, rD])
      try refine ⟨by omega, ?_⟩
      refine RD_load (l := [.int .u32 x]) rfl rfl rfl rfl (cellsU hdJ (.head _) (by simpa using hcell)) (.inr ⟨ag23, rfl⟩) ?_
      (refine RD_go ?_; simp only [go_sem, iv, sD, rD])
      refine RD_callI hdJ [] rfl (fun h => by cases h) rfl rfl rfl rfl goes36 (by rfl) (ps := []) (F := []) rfl (Does.keep (has_c hD hx32)) fun v I2 qs hd2 hle2 hq2 => ?_
      obtain ⟨rfl, rfl⟩ := hq2
      simp only [Z3] at hd2 ⊢
      rw [hP]
      (refine RD_go ?_; simp only [go_sem, iv])
      refine RD_neB rfl rfl rfl rfl rfl un4b ?_
      (refine RD_go ?_; simp only [go_sem, iv])
      refine RD_nil ?_
      (refine RG ?_; simp only [go_sem, iv, e1])
      exact hnext (i + 1, j) _ _ (by simp only; omega) (subT_dn (by simp only [go_sem, List.append_nil, iv])) (by simp only [go_sem, List.append_nil, akS, sD, rD, iv]) ⟨I2, rfl, hd2, PH.le_trans hleJ hle2, hlt, by simp only; rw [hj2]; rfl⟩
  · have : i = m.length := by omega
    subst this
    rw [List.take_length, hl] at hj
    have h16 : decide ((m.length : Int) < (m.length : Int)) = false := by simp
    have h48 : ((j : Int) == (l.length : Int)) = true := by rw [hj]; exact beq_self_eq_true _
    (refine RG ?_; simp only [go_sem, iv, h16, h48, sD, rD])
    refine RC_call rfl rfl rfl rfl goes114 (supp_c (hD.le (le_first hdJ))) fun v H2 hv => ?_
    obtain ⟨rfl, rfl⟩ := hv
    (refine RG ?_; simp only [go_sem, iv, hs])
    exact R_ret_I rfl hdJ (r := [_]) rfl (PH.le_trans hle1 hleJ) ⟨rfl, rfl⟩
end Go.Proofs.YtfaclfkpnmcmlaaGreatDoor
end
section
namespace Go.Proofs.YtfaclfkpnmcmlaaGreatDoor
open Go Go.Sx Dg Syn
theorem goes31 : Goes Tryz.prog 31 := ⟨_, Tryz.func31, rfl, rfl⟩
theorem goes72 : Goes Tryz.prog 72 := ⟨_, Tryz.func72, rfl, rfl⟩
structure WOk (W : PH → Value → T → Prop) (u : Nat) : Prop where
  le : ∀ {I J : PH} {w : Value} {t : T}, W I w t → I.le J → W J w t
  sh : ∀ {I : PH} {w : Value} {t : T}, W I w t → ∃ a n c, w = .slice a n c
  al : ∀ {I : PH} {vd w : Value} {t : T}, RepD I vd t → W I w t → DoesI Tryz.prog 58 #[vd, w, .int .u32 (u : Nat)] I [] fun r _ qs => qs = [] ∧ r = .bool true
def NgRn (W : PH → Value → T → Prop) : Nat → PH → List Value → Nd → Prop
  | 0, _, _, _ => False
  | d + 1, I, c, n => ∃ vk w, c = [.int .u8 n.kind, .string ⟨⟨n.text⟩⟩, .int .i64 n.tok, .int .i64 n.slot, vk, w] ∧ W I w n.cond ∧ Sl (NgRn W d) I vk n.kids
theorem NgRn.le {W : PH → Value → T → Prop} {u : Nat} (hW : WOk W u) : ∀ {d : Nat} {I J : PH} {c : List Value} {n : Nd}, NgRn W d I c n → I.le J → NgRn W d J c n
  | 0, _, _, _, _, h, _ => h
  | d + 1, I, J, c, n, ⟨vk, w, e, hw, hk⟩, hle => ⟨vk, w, e, hW.le hw hle, Sl.le (R := NgRn W d) (fun {I J c a} h k => NgRn.le hW h k) hk hle⟩
theorem NgRn.len {W : PH → Value → T → Prop} {d : Nat} {I : PH} (c : List Value) (n : Nd) (h : NgRn W d I c n) : c.length = 6 := by
  cases d with
  | zero => exact h.elim
  | succ d => obtain ⟨vk, w, e, _⟩ := h; rw [e]; rfl
def DgrR (W : PH → Value → T → Prop) (I : PH) (c : List Value) (d : Dgn) : Prop := ∃ w, c = [.int .u8 d.code, .int .i64 d.tok, w] ∧ W I w d.cond
theorem DgrR.len {W : PH → Value → T → Prop} {I : PH} (c : List Value) (n : Dgn) (h : DgrR W I c n) : c.length = 3 := by obtain ⟨w, e, _⟩ := h; rw [e]; rfl
def TgR (W : PH → Value → T → Prop) (I : PH) (v : Value) (t : Tr) : Prop := ∃ vk vd d, v = .agg #[vk, vd] ∧ Sl (NgRn W d) I vk t.kids ∧ Sl (DgrR W) I vd t.diags
def ndsS (va vb : Value) (u : Nat) (i : Nat) : St := ⟨dn 30 [(0, .v va), (1, .v vb), (2, .v (.int .u32 u)), (7, .v (iv i))], []⟩
theorem nodes_r {W : PH → Value → T → Prop} {u : Nat} (hW : WOk W u) : ∀ (m d : Nat) {I : PH} {va vb : Value} {l : List Nd}, szL l < m → szL l ≤ maxL → SlN I va l → Sl (NgRn W d) I vb l → DoesI Tryz.prog 72 #[va, vb, .int .u32 u] I [] fun r _ qs => qs = [] ∧ r = .bool true := by
  intro m
  induction m with
  | zero => intro d I va vb l h; omega
  | succ m ih =>
  intro d I va vb l hm hz h1 h2 hd
  obtain ⟨a1, c1, rfl, _⟩ := id h1
  obtain ⟨a2, c2, rfl, _⟩ := id h2
  have hll := szL_len l
  have hz' := hz
  unfold maxL at hz'
  have h0 : ((l.length : Int) != (l.length : Int)) = false := by simp
  have sameN : ∀ {J : PH} {cx cy : List Value} {n : Nd}, n ∈ l → NdR J cx n → NgRn W d J cy n → DoesI Tryz.prog 31 #[.agg cx.toArray, .agg cy.toArray, .int .u32 u] J [] fun r _ qs => qs = [] ∧ r = .bool true := by
    intro J cx cy n hn hx hy hd
    have hsz := szL_mem hn
    obtain ⟨vk, xa, xk, rfl, hxr, hxk, _⟩ := hx.shape
    cases d with
    | zero => exact hy.elim
    | succ d =>
    obtain ⟨wk, w, rfl, hw, hyk⟩ := hy
    obtain ⟨ka, kc, rfl, _⟩ := id hxk
    obtain ⟨la, lc, rfl, _⟩ := id hyk
    obtain ⟨wa, wn, wc, rfl⟩ := hW.sh hw
    refine Does_ofD Tryz.func31 rfl (by simp [Tryz.ntmps31]) fun w0 => ?_
    simp only [Tryz.ntmps31, iv, sD, rD]
    (refine RG ?_; simp only [go_sem, iv, sD, rD, beq_self_eq_true])
    refine RC_callI hd [] rfl rfl rfl rfl goes58 (by rfl) (ps := []) (F := []) rfl (hW.al hxr hw) fun v J2 qs hd2 hle2 hq => ?_
    obtain ⟨rfl, rfl⟩ := hq
    simp only [Z3] at hd2 ⊢
    (refine RG ?_; simp only [go_sem, iv, sD, rD])
    refine RC_callI hd2 [] rfl rfl rfl rfl goes72 (by rfl) (ps := []) (F := []) rfl (ih d (by omega) (by omega) (SlN.le hxk hle2) (Sl.le (R := NgRn W d) (fun {I J c a} h k => NgRn.le hW h k) hyk hle2)) fun v J3 qs hd3 hle3 hq => ?_
    obtain ⟨rfl, rfl⟩ := hq
    simp only [Z3] at hd3 ⊢
    (refine RG ?_; simp only [go_sem, iv])
    exact R_ret_I rfl hd3 (r := [_]) rfl (PH.le_trans hle2 hle3) ⟨rfl, rfl⟩
  refine Does_ofD Tryz.func72 rfl (by simp [Tryz.ntmps72]) fun w0 => ?_
  simp only [Tryz.ntmps72]
  (refine RG ?_; simp only [go_sem, h0])
  refine RC_loopD (fun x => l.length - x) (ndsS (.slice a1 l.length c1) (.slice a2 l.length c2) u) (fun i H => ∃ J, H = U [J] ∧ Dj [J] ∧ I.le J ∧ i ≤ l.length) 0 (subT_dn (by simp only [go_sem, List.append_nil, iv])) (by simp only [go_sem, List.append_nil, ndsS]) ⟨I, rfl, hd, PH.le_refl _, Nat.zero_le _⟩ ?_
  rintro i H ⟨J, rfl, hdJ, hleJ, hi⟩ hnext
  simp only [ndsS]
  rcases Nat.lt_or_ge i l.length with hlt | hge
  · have h16 : decide ((i : Int) < (l.length : Int)) = true := decide_eq_true (by omega)
    have e1 : IntKind.i64.wrap ((i : Int) + 1) = ((i + 1 : Nat) : Int) := by rw [← wrap64 (n := i + 1) (by omega)]; congr 1
    obtain ⟨n, hn⟩ : ∃ n, l[i]? = some n := ⟨_, List.getElem?_eq_getElem hlt⟩
    have hnm := List.mem_of_getElem? hn
    obtain ⟨b1, o1, cx, e1', hx, hcx⟩ := Sl.load (R := NdR) (fun {I} c a h => NdR.len (I := I) c a h) (SlN.le h1 hleJ) hn
    cases e1'
    obtain ⟨b2, o2, cy, e2', hy, hcy⟩ := Sl.load (R := NgRn W d) (fun {I} c a h => NgRn.len (I := I) c a h) (Sl.le (R := NgRn W d) (fun {I J c a} h k => NgRn.le hW h k) h2 hleJ) hn
    cases e2'
    cases d with
    | zero => exact hy.elim
    | succ d =>
    obtain ⟨vk, xa, xk, rfl, _, hxk, _⟩ := id hx.shape
    obtain ⟨vk2, w2, rfl, hw, hyk⟩ := id hy
    obtain ⟨ka, kc, rfl, _⟩ := id hxk
    obtain ⟨la, lc, rfl, _⟩ := id hyk
    obtain ⟨wa, wn, wc, rfl⟩ := hW.sh hw
    (refine RG ?_; simp only [go_sem, iv, h16])
    refine R_drawn mixed [0, 1, 2, 3, 4, 5, 6, 7, 8, 9, 10] [3, 7] [] rfl rfl ?_
    (refine RD_go ?_; simp only [go_sem, iv])
    try refine ⟨by omega, ?_⟩
    refine RD_load (l := [.int .u8 n.kind, .string ⟨⟨n.text⟩⟩, .int .i64 n.tok, .int .i64 n.slot, .slice ka n.kids.length kc, sD xa xk n.cond, rD n.cond]) (v := .agg #[.int .u8 n.kind, .string ⟨⟨n.text⟩⟩, .int .i64 n.tok, .int .i64 n.slot, .slice ka n.kids.length kc, sD xa xk n.cond, rD n.cond]) rfl rfl rfl rfl (cellsU hdJ (.head _) (by simpa using hcx)) (.inl ⟨ag60, rfl⟩) ?_
    (refine RD_go ?_; simp only [go_sem, iv, sD, rD])
    try refine ⟨by omega, ?_⟩
    refine RD_load (l := [.int .u8 n.kind, .string ⟨⟨n.text⟩⟩, .int .i64 n.tok, .int .i64 n.slot, .slice la n.kids.length lc, .slice wa wn wc]) (v := .agg #[.int .u8 n.kind, .string ⟨⟨n.text⟩⟩, .int .i64 n.tok, .int .i64 n.slot, .slice la n.kids.length lc, .slice wa wn wc]) rfl rfl rfl rfl (cellsU hdJ (.head _) (by simpa using hcy)) (.inl ⟨ag67, rfl⟩) ?_
    (refine RD_go ?_; simp only [go_sem, iv, sD, rD])
    refine RD_callI hdJ [] rfl (fun h => by cases h) rfl rfl rfl rfl goes31 (by rfl) (ps := []) (F := []) rfl (sameN hnm hx hy) fun v J2 qs hd2 hle2 hq => ?_
    obtain ⟨rfl, rfl⟩ := hq
    simp only [Z3] at hd2 ⊢
    (refine RD_go ?_; simp only [go_sem, Bool.not_true])
    refine RD_nil ?_
    (refine RG ?_; simp only [go_sem, iv, e1])
    exact hnext (i + 1) _ _ (by omega) (subT_dn (by simp only [go_sem, List.append_nil, iv])) (by simp only [go_sem, List.append_nil, ndsS]) ⟨J2, rfl, hd2, PH.le_trans hleJ hle2, hlt⟩
  · have : i = l.length := by omega
    subst this
    have h16 : decide ((l.length : Int) < (l.length : Int)) = false := by simp
    (refine RG ?_; simp only [go_sem, iv, h16])
    exact R_ret_I rfl hdJ (r := [_]) rfl hleJ ⟨rfl, rfl⟩
end Go.Proofs.YtfaclfkpnmcmlaaGreatDoor
end
section
namespace Go.Proofs.YtfaclfkpnmcmlaaGreatDoor
open Go Go.Sx Dg Syn
theorem cfg_num (c : Cfg) : ∀ k : Nat, ∃ n : Nat, n < 2 ^ k ∧ ∀ i, i < k → n.testBit i = c i
  | 0 => ⟨0, by simp, fun i h => by omega⟩
  | k + 1 => by
    obtain ⟨n, h1, h2⟩ := cfg_num c k
    have hk : n.testBit k = false := Nat.testBit_lt_two_pow h1
    have hp : 2 ^ (k + 1) = 2 ^ k + 2 ^ k := by rw [Nat.pow_succ]; omega
    cases hc : c k
    · refine ⟨n, by omega, fun i hi => ?_⟩
      by_cases e : i = k
      · subst e; rw [hk, hc]
      · exact h2 i (by omega)
    · refine ⟨n ||| 2 ^ k, Nat.or_lt_two_pow (by omega) (by omega), fun i hi => ?_⟩
      rw [Nat.testBit_or, Nat.testBit_two_pow]
      by_cases e : i = k
      · subst e; simp [hc]
      · rw [h2 i (by omega)]; simp; intro e'; exact absurd e'.symm e
theorem cubes_cfg {c : Cfg} {n : Nat} (h : ∀ i, i < 24 → n.testBit i = c i) (l : List (Nat × Nat)) : (cubesT l).at' c = inB l n := by
  rw [← cubesT_at]
  exact T.at_cut (cubesT_ok l) fun i hi => (h i hi).symm
theorem cubes_eq {l m : List (Nat × Nat)} {u : Nat} (hu : u < 2 ^ 32) (hl : SubB l u) (hm : SubB m u) : thoseN l u = thoseN m u ↔ cubesT l = cubesT m := by
  constructor
  · intro e
    refine T.ext (cubesT_ok l) (cubesT_ok m) fun c => ?_
    obtain ⟨n, _, h⟩ := cfg_num c 24
    rw [cubes_cfg h, cubes_cfg h, ← thoseN_mem hu hl, ← thoseN_mem hu hm, e]
  · intro e
    unfold thoseN
    congr 1
    funext c
    rw [← cubesT_at, ← cubesT_at, e]
theorem those_at (l : List (Nat × Nat)) (u : Nat) : ((cfgsN u 32).filter fun c => (cubesT l).at' (cfgOf c)) = thoseN l u := by
  unfold thoseN
  congr 1
  funext c
  exact cubesT_at l c
def occ (i : Nat) : T → Prop
  | .lf _ => False
  | .nd v l h => i = v ∨ occ i l ∨ occ i h
theorem occ_ge {i : Nat} : ∀ {t : T} {k : Nat}, t.ok k → occ i t → k ≤ i ∧ i < 24
  | .lf _, _, _, h => h.elim
  | .nd v l h, k, hk, ho => by
    rcases ho with rfl | ho | ho
    · exact ⟨hk.1, hk.2.1⟩
    · have := occ_ge hk.2.2.2.1 ho; exact ⟨by have := hk.1; omega, this.2⟩
    · have := occ_ge hk.2.2.2.2 ho; exact ⟨by have := hk.1; omega, this.2⟩
theorem upd_comm {c : Cfg} {i j : Nat} {x y : Bool} (h : i ≠ j) : upd (upd c i x) j y = upd (upd c j y) i x := by
  funext k; unfold upd; by_cases h1 : k = j <;> by_cases h2 : k = i <;> simp_all
theorem upd_upd {c : Cfg} {i : Nat} {x y : Bool} : upd (upd c i x) i y = upd c i y := by
  funext k; unfold upd; by_cases h1 : k = i <;> simp_all
theorem occ_dep {i : Nat} : ∀ {t : T} {k : Nat}, t.ok k → occ i t → ∃ (c : Cfg) (x : Bool), t.at' (upd c i x) ≠ t.at' c
  | .lf _, _, _, h => h.elim
  | .nd v l h, k, hk, ho => by
    rcases ho with rfl | ho | ho
    · have hne : ∃ c, l.at' c ≠ h.at' c := by
        refine Classical.byContradiction fun hno => hk.2.2.1 (T.ext hk.2.2.2.1 hk.2.2.2.2 fun c => ?_)
        exact Classical.byContradiction fun hc => hno ⟨c, hc⟩
      obtain ⟨c, hc⟩ := hne
      refine ⟨upd c i false, true, ?_⟩
      rw [upd_upd, T.at_hi hk, T.at_lo hk]
      exact fun e => hc e.symm
    · obtain ⟨c, x, hc⟩ := occ_dep hk.2.2.2.1 ho
      have hg := (occ_ge hk.2.2.2.1 ho).1
      refine ⟨upd c v false, x, ?_⟩
      rw [upd_comm (by omega), T.at_lo hk, T.at_lo hk]
      exact hc
    · obtain ⟨c, x, hc⟩ := occ_dep hk.2.2.2.2 ho
      have hg := (occ_ge hk.2.2.2.2 ho).1
      refine ⟨upd c v true, x, ?_⟩
      rw [upd_comm (by omega), T.at_hi hk, T.at_hi hk]
      exact hc
theorem vis_occ : ∀ (t : T) (ts : List T) (x : T), x ∈ t.vis ts → x ∈ ts ∨ occ x.var t
  | .lf _, _, _, h => .inl h
  | .nd v l h, ts, x, hx => by
    unfold T.vis at hx
    split at hx
    · exact .inl hx
    · rcases List.mem_append.1 hx with hx | hx
      · rcases vis_occ h _ x hx with hx | hx
        · rcases vis_occ l _ x hx with hx | hx
          · exact .inl hx
          · exact .inr (.inr (.inl hx))
        · exact .inr (.inr (.inr hx))
      · rw [List.mem_singleton] at hx; subst hx
        exact .inr (.inl rfl)
theorem suppF_bit {ts : List T} {i : Nat} : ∀ (l : List T) (z : Nat), (l.foldl (fun s x => s ||| 2 ^ (T.dec ts x).1) z).testBit i = true → z.testBit i = true ∨ ∃ x ∈ l, x.var = i
  | [], z, h => .inl h
  | x :: l, z, h => by
    rcases suppF_bit l _ h with h | ⟨y, hy, e⟩
    · rw [Nat.testBit_or, Nat.testBit_two_pow, Bool.or_eq_true] at h
      rcases h with h | h
      · exact .inl h
      · exact .inr ⟨x, .head _, by rw [← T.dec_var ts x]; exact of_decide_eq_true h⟩
    · exact .inr ⟨y, .tail _ hy, e⟩
theorem cubes_dep {l : List (Nat × Nat)} {u : Nat} (h : SubB l u) {i : Nat} (hi : u.testBit i = false) (c : Cfg) (x : Bool) : (cubesT l).at' (upd c i x) = (cubesT l).at' c := by
  obtain ⟨n, n1, n2⟩ := cfg_num c 24
  obtain ⟨m, m1, m2⟩ := cfg_num (upd c i x) 24
  rw [cubes_cfg n2, cubes_cfg m2, ← inB_sub h n, ← inB_sub h m]
  congr 1
  apply Nat.eq_of_testBit_eq
  intro j
  rw [Nat.testBit_and, Nat.testBit_and]
  by_cases hj : j < 24
  · by_cases e : j = i
    · subst e; rw [hi, Bool.and_false, Bool.and_false]
    · rw [n2 j hj, m2 j hj]
      have : upd c i x j = c j := by unfold upd; rw [if_neg e]
      rw [this]
  · rw [Nat.testBit_lt_two_pow (Nat.lt_of_lt_of_le n1 (Nat.pow_le_pow_right (by omega) (by omega))), Nat.testBit_lt_two_pow (Nat.lt_of_lt_of_le m1 (Nat.pow_le_pow_right (by omega) (by omega)))]
theorem supp_sub {l : List (Nat × Nat)} {u : Nat} (h : SubB l u) (i : Nat) (hi : (suppN (cubesT l)).testBit i = true) : u.testBit i = true := by
  rcases suppF_bit _ 0 hi with h0 | ⟨x, hx, rfl⟩
  · simp at h0
  · rcases vis_occ _ [] x hx with h1 | h1
    · cases h1
    · obtain ⟨c, y, hc⟩ := occ_dep (cubesT_ok l) h1
      cases hu : u.testBit x.var with
      | true => rfl
      | false => exact absurd (cubes_dep h hu c y) hc
theorem andn0 {a b : Nat} (h : ∀ i, a.testBit i = true → b.testBit i = true) : andnI .u32 (a : Int) (b : Int) = 0 := by
  have ea : BitVec.ofInt 32 (a : Int) = BitVec.ofNat _ a := by rw [BitVec.ofInt_natCast]
  have eb : BitVec.ofInt 32 (b : Int) = BitVec.ofNat _ b := by rw [BitVec.ofInt_natCast]
  have e : andnI .u32 (a : Int) (b : Int) = IntKind.u32.wrap ((BitVec.ofInt 32 (a : Int) &&& ~~~ BitVec.ofInt 32 (b : Int)).toNat : Int) := rfl
  have z : (BitVec.ofNat 32 a &&& ~~~ BitVec.ofNat 32 b) = 0#32 := by
    apply BitVec.eq_of_getLsbD_eq
    intro i hi
    rw [BitVec.getLsbD_and, BitVec.getLsbD_not, BitVec.getLsbD_ofNat, BitVec.getLsbD_ofNat]
    cases ha : a.testBit i
    · simp
    · rw [h i ha]; simp
  rw [e, ea, eb, z]; rfl
def ThW (u : Nat) (I : PH) (w : Value) (t : T) : Prop := ∃ l, SubB l u ∧ t = cubesT l ∧ SlU I w (thoseN l u)
theorem thW_ok {u : Nat} (hu : u < 2 ^ 32) (hp : pop u 32 ≤ 8) : WOk (ThW u) u where
  le := fun ⟨l, h1, h2, h3⟩ k => ⟨l, h1, h2, SlU.le h3 k⟩
  sh := fun ⟨l, _, _, h⟩ => by obtain ⟨a, c, e, _⟩ := h; exact ⟨a, _, c, e⟩
  al := fun {I vd w t} hr ⟨l, h1, h2, h3⟩ => by
    subst h2
    exact alike_c hr (by rw [those_at]; exact h3) hu hp (andn0 (supp_sub h1))
theorem thW_of {u : Nat} {I : PH} {w : Value} {l : List (Nat × Nat)} (h : SlU I w (thoseN l u)) (hs : SubB l u) : ThW u I w (cubesT l) := ⟨l, hs, rfl, h⟩
theorem thW_two {u : Nat} (hu : u < 2 ^ 32) {I : PH} {w w' : Value} {t t' : T} (h : ThW u I w t) (h' : ThW u I w' t') : ∃ l l', SlU I w l ∧ SlU I w' l' ∧ (l = l' ↔ t = t') ∧ l.length ≤ 2 ^ pop u 32 := by
  obtain ⟨m, h1, rfl, h3⟩ := h
  obtain ⟨m', h1', rfl, h3'⟩ := h'
  exact ⟨_, _, h3, h3', cubes_eq hu h1 h1', by rw [← cfgsN_len]; exact List.length_filter_le _ _⟩
theorem subB_of {l : List (Nat × Nat)} {u : Nat} (h : bitsN l ||| u = u) : SubB l u := by
  have := (subB_bits l).left u
  rw [h] at this; exact this
end Go.Proofs.YtfaclfkpnmcmlaaGreatDoor
end
section
namespace Go.Proofs.YtfaclfkpnmcmlaaGreatDoor
open Go Go.Sx Dg Syn
theorem goes98 : Goes Tryz.prog 98 := ⟨_, Tryz.func98, rfl, rfl⟩
theorem goes99 : Goes Tryz.prog 99 := ⟨_, Tryz.func99, rfl, rfl⟩
structure Tw where
  kind : Nat
  text : Txt
  tok : Int
  slot : Int
  kids : List Tw
  inn : List (Nat × Nat)
mutual
def wtN : Tw → Nat
  | ⟨_, s, _, _, ks, i⟩ => 1 + i.length + s.length / 64 + wtL ks
def wtL : List Tw → Nat
  | [] => 0
  | x :: l => wtN x + wtL l
end
theorem wtN_eq (x : Tw) : wtN x = 1 + x.inn.length + x.text.length / 64 + wtL x.kids := by cases x; rfl
theorem wtL_app : ∀ (a b : List Tw), wtL (a ++ b) = wtL a + wtL b
  | [], b => by simp [wtL]
  | x :: a, b => by rw [List.cons_append, wtL, wtL, wtL_app a b]; omega
theorem wtL_snoc {l : List Tw} {i : Nat} {x : Tw} (h : l[i]? = some x) : wtL (l.take (i + 1)) = wtL (l.take i) + wtN x := by
  rw [take_snoc' h, wtL_app, wtL, wtL]; rfl
theorem wtL_take (l : List Tw) (i : Nat) : wtL (l.take i) ≤ wtL l := by
  conv => rhs; rw [← List.take_append_drop i l]
  rw [wtL_app]; omega
theorem wtL_len : ∀ l : List Tw, l.length ≤ wtL l
  | [] => Nat.zero_le _
  | x :: l => by
    have := wtL_len l
    rw [wtL, wtN_eq, List.length_cons]; omega
theorem wtL_mem {x : Tw} : ∀ {l : List Tw}, x ∈ l → wtN x ≤ wtL l
  | y :: l, h => by
    rw [wtL]
    rcases List.mem_cons.1 h with rfl | h
    · omega
    · have := wtL_mem h; omega
mutual
def tbN : Tw → Nat
  | ⟨_, _, _, _, ks, i⟩ => bitsN i ||| tbL ks
def tbL : List Tw → Nat
  | [] => 0
  | x :: l => tbN x ||| tbL l
end
theorem tbN_eq (x : Tw) : tbN x = bitsN x.inn ||| tbL x.kids := by cases x; rfl
theorem tbL_app : ∀ (a b : List Tw), tbL (a ++ b) = tbL a ||| tbL b
  | [], b => by simp [tbL]
  | x :: a, b => by rw [List.cons_append, tbL, tbL, tbL_app a b, Nat.or_assoc]
theorem tbL_snoc {l : List Tw} {i : Nat} {x : Tw} (h : l[i]? = some x) : tbL (l.take (i + 1)) = tbL (l.take i) ||| tbN x := by
  rw [take_snoc' h, tbL_app, tbL, tbL, Nat.or_zero]
mutual
theorem tbN_lt : ∀ x : Tw, tbN x < 2 ^ 24
  | ⟨_, _, _, _, ks, i⟩ => by rw [tbN]; exact Nat.or_lt_two_pow (bitsN_lt i) (tbL_lt ks)
theorem tbL_lt : ∀ l : List Tw, tbL l < 2 ^ 24
  | [] => by rw [tbL]; decide
  | x :: l => by rw [tbL]; exact Nat.or_lt_two_pow (tbN_lt x) (tbL_lt l)
end
def TwRn : Nat → PH → List Value → Tw → Prop
  | 0, _, _, _ => False
  | d + 1, I, c, x => ∃ vk vi, c = [.int .u8 x.kind, .string ⟨⟨x.text⟩⟩, .int .i64 x.tok, .int .i64 x.slot, vk, vi] ∧ Sl (TwRn d) I vk x.kids ∧ SlC I vi x.inn
theorem TwRn.le : ∀ {d : Nat} {I J : PH} {c : List Value} {x : Tw}, TwRn d I c x → I.le J → TwRn d J c x
  | 0, _, _, _, _, h, _ => h
  | d + 1, I, J, c, x, ⟨vk, vi, e, hk, hi⟩, hle => ⟨vk, vi, e, Sl.le (R := TwRn d) (fun {I J c a} h k => TwRn.le h k) hk hle, SlC.le hi hle⟩
theorem TwRn.len {d : Nat} {I : PH} (c : List Value) (x : Tw) (h : TwRn d I c x) : c.length = 6 := by
  cases d with
  | zero => exact h.elim
  | succ d => obtain ⟨vk, vi, e, _⟩ := h; rw [e]; rfl
abbrev SlW (d : Nat) (I : PH) (v : Value) (l : List Tw) : Prop := Sl (TwRn d) I v l
theorem SlW.le {d : Nat} {I J : PH} {v : Value} {l : List Tw} (h : SlW d I v l) (k : I.le J) : SlW d J v l := Sl.le (R := TwRn d) (fun {I J c a} h k => TwRn.le h k) h k
theorem wrapZ {z : Int} (h1 : -9223372036854775808 ≤ z) (h2 : z < 9223372036854775808) : IntKind.i64.wrap z = z := by
  simp only [IntKind.wrap, show IntKind.bits .i64 = 64 from rfl, show IntKind.signed .i64 = true from rfl]
  simp; omega
def wgS (v : Value) (most : Int) (x : Nat × Nat) : St := ⟨dn 47 [(0, .v v), (1, .v (.int .i64 most)), (5, .v (iv x.2)), (6, .v (iv x.1))], []⟩
theorem weigh_c : ∀ (m d : Nat) {H : PH} {v : Value} {l : List Tw} {most : Int}, wtL l < m → SlW d H v l → wtL l < 2 ^ 40 → -1125899906842624 ≤ most → most ≤ 1125899906842624 →
    Does Tryz.prog 98 #[v, .int .i64 most] H fun r H2 => (∃ n : Nat, r = iv n ∧ n ≤ wtL l ∧ ((n : Int) < most → n = wtL l)) ∧ H2 = H := by
  intro m
  induction m with
  | zero => intro d H v l most h; omega
  | succ m ih =>
  intro d H v l most hm hS hw h1 h2
  obtain ⟨va, vc, rfl, _⟩ := id hS
  have hll := wtL_len l
  refine Does_ofD Tryz.func98 rfl (by simp [Tryz.ntmps98]) fun w0 => ?_
  simp only [Tryz.ntmps98]
  (refine RG ?_; simp only [go_sem])
  refine RC_loopD (fun x => l.length - x.1) (wgS (.slice va l.length vc) most) (fun x H2 => H2 = H ∧ x.1 ≤ l.length ∧ x.2 ≤ wtL (l.take x.1) ∧ ((x.2 : Int) < most → x.2 = wtL (l.take x.1))) (0, 0) (subT_dn (by simp only [go_sem, List.append_nil, iv])) (by simp only [go_sem, List.append_nil, wgS]) ⟨rfl, Nat.zero_le _, Nat.zero_le _, fun _ => by simp [wtL]⟩ ?_
  rintro ⟨i, n⟩ H2 ⟨rfl, hi, hn, hn2⟩ hnext
  simp only at hi hn hn2
  simp only [wgS]
  have htk := wtL_take l i
  rcases Nat.lt_or_ge i l.length with hlt | hge
  · have h10 : decide ((i : Int) < (l.length : Int)) = true := decide_eq_true (by omega)
    cases h14 : decide ((n : Int) < most)
    · (refine RG ?_; simp only [go_sem, iv, h10, h14])
      exact R_ret (r := [_]) rfl ⟨⟨n, rfl, by omega, fun h => by rw [decide_eq_true h] at h14; cases h14⟩, rfl⟩
    · have hlm := of_decide_eq_true h14
      have hne := hn2 hlm
      have e1 : IntKind.i64.wrap ((i : Int) + 1) = ((i + 1 : Nat) : Int) := by rw [← wrap64 (n := i + 1) (by omega)]; congr 1
      obtain ⟨x, hx⟩ : ∃ x, l[i]? = some x := ⟨_, List.getElem?_eq_getElem hlt⟩
      obtain ⟨b, off, cs, rfl, hcs, hcell⟩ := Sl.load (R := TwRn d) (fun {I} c a h => TwRn.len (I := I) c a h) hS hx
      cases d with
      | zero => exact hcs.elim
      | succ d =>
      obtain ⟨vk, vi, rfl, hk, hc⟩ := hcs
      obtain ⟨ka, kc, rfl, _⟩ := id hk
      obtain ⟨ca, cc, rfl, _⟩ := id hc
      have c1 := hcell.get (i := 1) rfl
      have c4 := hcell.get (i := 4) rfl
      have c5 := hcell.get (i := 5) rfl
      have hst := wtL_snoc hx
      have hsl := wtL_take l (i + 1)
      have hxe := wtN_eq x
      obtain ⟨n', hn'⟩ : ∃ n', n + 1 + x.inn.length + x.text.length / 64 = n' := ⟨_, rfl⟩
      have e19 : IntKind.i64.wrap ((n : Int) + 1) = ((n + 1 : Nat) : Int) := by rw [← wrap64 (n := n + 1) (by omega)]; congr 1
      have e26 : IntKind.i64.wrap (((n + 1 : Nat) : Int) + (x.inn.length : Int)) = ((n + 1 + x.inn.length : Nat) : Int) := by rw [← wrap64 (n := n + 1 + x.inn.length) (by omega)]; congr 1
      have e33 : IntKind.i64.wrap ((x.text.length : Int).tdiv 64) = ((x.text.length / 64 : Nat) : Int) := by
        have e : (x.text.length : Int).tdiv 64 = ((x.text.length / 64 : Nat) : Int) := by
          rw [Int.tdiv_eq_ediv_of_nonneg (by omega)]; rfl
        rw [e]; exact wrap64 (by omega)
      have e34 : IntKind.i64.wrap (((n + 1 + x.inn.length : Nat) : Int) + ((x.text.length / 64 : Nat) : Int)) = ((n' : Nat) : Int) := by rw [← hn', ← wrap64 (n := n + 1 + x.inn.length + x.text.length / 64) (by omega)]; congr 1
      have e43 : IntKind.i64.wrap (most - ((n' : Nat) : Int)) = most - ((n' : Nat) : Int) := wrapZ (by omega) (by omega)
      (refine RG ?_; simp only [go_sem, iv, h10, h14])
      refine R_drawn mixed [0, 1, 2, 3, 4, 5, 6, 7, 8, 9, 10, 11, 12, 13, 14, 15, 16, 17] [6, 13] [] rfl rfl ?_
      (refine RD_go ?_; simp only [go_sem, iv, e19])
      try refine ⟨by omega, ?_⟩
      refine RD_load (l := [.slice ca x.inn.length cc]) rfl rfl rfl rfl (by simpa using c5) (.inr ⟨ag46, rfl⟩) ?_
      (refine RD_go ?_; simp only [go_sem, iv, e19, e26])
      try refine ⟨by omega, ?_⟩
      refine RD_load (l := [.string ⟨⟨x.text⟩⟩]) rfl rfl rfl rfl (by simpa using c1) (.inr ⟨ag9, rfl⟩) ?_
      (refine RD_go ?_; simp only [go_sem, iv, str_size, e19, e26, e33, e34])
      refine RD_nil ?_
      (refine RG ?_; simp only [go_sem, iv])
      try refine ⟨by omega, ?_⟩
      refine RC_load (l := [.slice ka x.kids.length kc]) rfl rfl rfl (by simpa using c4) (.inr ⟨ag91, rfl⟩) ?_
      (refine RG ?_; simp only [go_sem, iv, e43])
      refine RC_call rfl rfl rfl rfl goes98 (ih d (by omega) hk (by omega) (by omega) (by omega)) fun v H2 hv => ?_
      obtain ⟨⟨n2, rfl, q1, q2⟩, rfl⟩ := hv
      have e45 : IntKind.i64.wrap ((n' : Int) + (n2 : Int)) = ((n' + n2 : Nat) : Int) := by rw [← wrap64 (n := n' + n2) (by omega)]; congr 1
      (refine RG ?_; simp only [go_sem, iv, e45, e1])
      exact hnext (i + 1, n' + n2) _ _ (by simp only; omega) (subT_dn (by simp only [go_sem, List.append_nil, iv])) (by simp only [go_sem, List.append_nil, wgS]) ⟨rfl, hlt, by simp only; omega, fun h => by simp only at h ⊢; have := q2 (by omega); omega⟩
  · have : i = l.length := by omega
    subst this
    rw [List.take_length] at hn hn2
    have h10 : decide ((l.length : Int) < (l.length : Int)) = false := by simp
    (refine RG ?_; simp only [go_sem, iv, h10])
    exact R_ret (r := [_]) rfl ⟨⟨n, rfl, hn, hn2⟩, rfl⟩
def twbS (v : Value) (x : Nat × Nat) : St := ⟨dn 27 [(0, .v v), (3, .v (.int .u32 x.2)), (4, .v (iv x.1))], []⟩
theorem twigBits_c : ∀ (m d : Nat) {H : PH} {v : Value} {l : List Tw}, wtL l < m → SlW d H v l → wtL l < 2 ^ 40 → Does Tryz.prog 99 #[v] H fun r H2 => r = .int .u32 (tbL l : Nat) ∧ H2 = H := by
  intro m
  induction m with
  | zero => intro d H v l h; omega
  | succ m ih =>
  intro d H v l hm hS hw
  obtain ⟨va, vc, rfl, _⟩ := id hS
  have hll := wtL_len l
  refine Does_ofD Tryz.func99 rfl (by simp [Tryz.ntmps99]) fun w0 => ?_
  simp only [Tryz.ntmps99]
  (refine RG ?_; simp only [go_sem])
  refine RC_loopD (fun x => l.length - x.1) (twbS (.slice va l.length vc)) (fun x H2 => H2 = H ∧ x.1 ≤ l.length ∧ x.2 = tbL (l.take x.1)) (0, 0) (subT_dn (by simp only [go_sem, List.append_nil, iv])) (by simp only [go_sem, List.append_nil, twbS]) ⟨rfl, Nat.zero_le _, by simp [tbL]⟩ ?_
  rintro ⟨i, u⟩ H2 ⟨rfl, hi, hu⟩ hnext
  simp only at hi hu
  simp only [twbS]
  rcases Nat.lt_or_ge i l.length with hlt | hge
  · have h8 : decide ((i : Int) < (l.length : Int)) = true := decide_eq_true (by omega)
    have e1 : IntKind.i64.wrap ((i : Int) + 1) = ((i + 1 : Nat) : Int) := by rw [← wrap64 (n := i + 1) (by omega)]; congr 1
    obtain ⟨x, hx⟩ : ∃ x, l[i]? = some x := ⟨_, List.getElem?_eq_getElem hlt⟩
    obtain ⟨b, off, cs, rfl, hcs, hcell⟩ := Sl.load (R := TwRn d) (fun {I} c a h => TwRn.len (I := I) c a h) hS hx
    cases d with
    | zero => exact hcs.elim
    | succ d =>
    obtain ⟨vk, vi, rfl, hk, hc⟩ := hcs
    obtain ⟨ka, kc, rfl, _⟩ := id hk
    obtain ⟨ca, cc, rfl, _⟩ := id hc
    have c4 := hcell.get (i := 4) rfl
    have c5 := hcell.get (i := 5) rfl
    have hxe := wtN_eq x
    have hxm := wtL_mem (List.mem_of_getElem? hx)
    have hut := tbL_lt (l.take i)
    rw [← hu] at hut
    have hb := bitsN_lt x.inn
    have hkb := tbL_lt x.kids
    have hub : u ||| bitsN x.inn < 2 ^ 24 := Nat.or_lt_two_pow hut hb
    have q1 := or32x (a := u) (b := bitsN x.inn) (by omega) (by omega)
    have q2 := or32x (a := u ||| bitsN x.inn) (b := tbL x.kids) (by omega) (by omega)
    (refine RG ?_; simp only [go_sem, iv, h8])
    refine R_drawn mixed [0, 1, 2, 3, 4, 5, 8, 9, 10, 11, 12, 6, 7, 13, 14, 15] [5, 12] [6] rfl rfl ?_
    (refine RD_go ?_; simp only [go_sem, iv])
    try refine ⟨by omega, ?_⟩
    refine RD_load (l := [.slice ca x.inn.length cc]) rfl rfl rfl rfl (by simpa using c5) (.inr ⟨ag46, rfl⟩) ?_
    (refine RD_go ?_; simp only [go_sem, iv])
    try refine ⟨by omega, ?_⟩
    refine RD_load (l := [.slice ka x.kids.length kc]) rfl rfl rfl rfl (by simpa using c4) (.inr ⟨ag91, rfl⟩) ?_
    (refine RD_go ?_; simp only [go_sem, iv])
    refine RD_call rfl rfl rfl rfl goes63 (bits_c hc (by omega)) fun v H2 hv => ?_
    obtain ⟨rfl, rfl⟩ := hv
    refine ⟨Keeps.le (PH.le_refl _), ?_⟩
    (refine RD_go ?_; simp only [go_sem, iv, q1])
    refine RD_call rfl rfl rfl rfl goes99 (ih d (by omega) hk (by omega)) fun v H2 hv => ?_
    obtain ⟨rfl, rfl⟩ := hv
    refine ⟨Keeps.le (PH.le_refl _), ?_⟩
    (refine RD_go ?_; simp only [go_sem, iv, q2])
    refine RD_nil ?_
    (refine RG ?_; simp only [go_sem, iv, e1])
    exact hnext (i + 1, (u ||| bitsN x.inn) ||| tbL x.kids) _ _ (by simp only; omega) (subT_dn (by simp only [go_sem, List.append_nil, iv])) (by simp only [go_sem, List.append_nil, twbS]) ⟨rfl, hlt, by simp only; rw [tbL_snoc hx, ← hu, tbN_eq, Nat.or_assoc]⟩
  · have : i = l.length := by omega
    subst this
    rw [List.take_length] at hu
    have h8 : decide ((l.length : Int) < (l.length : Int)) = false := by simp
    (refine RG ?_; simp only [go_sem, iv, h8])
    exact R_ret (r := [_]) rfl ⟨by rw [hu]; rfl, rfl⟩
end Go.Proofs.YtfaclfkpnmcmlaaGreatDoor
end
section
namespace Go.Proofs.YtfaclfkpnmcmlaaGreatDoor
open Go Go.Sx Dg Syn
theorem goes40 : Goes Tryz.prog 40 := ⟨_, Tryz.func40, rfl, rfl⟩
structure Nt where
  code : Nat
  tok : Int
  inn : List (Nat × Nat)
structure Sm where
  kids : List Tw
  notes : List Nt
def NtR (I : PH) (c : List Value) (x : Nt) : Prop := ∃ vi, c = [.int .u8 x.code, .int .i64 x.tok, vi] ∧ SlC I vi x.inn
theorem NtR.le {I J : PH} {c : List Value} {x : Nt} (h : NtR I c x) (k : I.le J) : NtR J c x := by obtain ⟨vi, e, h⟩ := h; exact ⟨vi, e, SlC.le h k⟩
theorem NtR.len {I : PH} (c : List Value) (x : Nt) (h : NtR I c x) : c.length = 3 := by obtain ⟨vi, e, _⟩ := h; rw [e]; rfl
abbrev SlNt (I : PH) (v : Value) (l : List Nt) : Prop := Sl NtR I v l
theorem SlNt.le {I J : PH} {v : Value} {l : List Nt} (h : SlNt I v l) (k : I.le J) : SlNt J v l := Sl.le (R := NtR) (fun {I J c a} h k => NtR.le h k) h k
def SmR (d : Nat) (I : PH) (c : List Value) (x : Sm) : Prop := ∃ vk vn, c = [vk, vn] ∧ SlW d I vk x.kids ∧ SlNt I vn x.notes
theorem SmR.le {d : Nat} {I J : PH} {c : List Value} {x : Sm} (h : SmR d I c x) (k : I.le J) : SmR d J c x := by obtain ⟨vk, vn, e, h1, h2⟩ := h; exact ⟨vk, vn, e, h1.le k, h2.le k⟩
theorem SmR.len {d : Nat} {I : PH} (c : List Value) (x : Sm) (h : SmR d I c x) : c.length = 2 := by obtain ⟨vk, vn, e, _⟩ := h; rw [e]; rfl
abbrev SlSm (d : Nat) (I : PH) (v : Value) (l : List Sm) : Prop := Sl (SmR d) I v l
theorem SlSm.le {d : Nat} {I J : PH} {v : Value} {l : List Sm} (h : SlSm d I v l) (k : I.le J) : SlSm d J v l := Sl.le (R := SmR d) (fun {I J c a} h k => SmR.le h k) h k
def SmB (x : Sm) : Prop := wtL x.kids < 2 ^ 40 ∧ x.notes.length < 2 ^ 40 ∧ ∀ y ∈ x.notes, y.inn.length < 2 ^ 40
def SmOk (u : Nat) (x : Sm) : Prop := wtL x.kids < 500 ∧ x.notes.length < 500 ∧ tbL x.kids ||| u = u ∧ (∀ y ∈ x.notes, bitsN y.inn ||| u = u ∧ y.inn.length < 500)
theorem or_le {a u v : Nat} (h : a ||| u = u) : a ||| (u ||| v) = u ||| v := by rw [← Nat.or_assoc, h]
theorem or_self_r {a u : Nat} : a ||| (u ||| a) = u ||| a := by rw [Nat.or_comm u a, ← Nat.or_assoc, Nat.or_self]
theorem SmOk.up {u v : Nat} {x : Sm} (h : SmOk u x) : SmOk (u ||| v) x := ⟨h.1, h.2.1, or_le h.2.2.1, fun y hy => ⟨or_le (h.2.2.2 y hy).1, (h.2.2.2 y hy).2⟩⟩
def sm1S (v vd : Value) (most : Nat) (x : Nat × Nat × Nat) : St := ⟨dn 100 [(0, .v v), (2, .v (iv most)), (6, .v (.int .u32 0)), (7, .v (.bool false)), (8, .v (iv x.2.2)), (9, .v (.int .u32 x.2.1)), (10, .v (iv x.1))], []⟩
def sm2S (v vd : Value) (most i : Nat) (x : Nat × Nat × Nat) : St := ⟨dn 100 [(0, .v v), (2, .v (iv most)), (6, .v (.int .u32 0)), (7, .v (.bool false)), (8, .v (iv x.2.2)), (9, .v (.int .u32 x.2.1)), (10, .v (iv i)), (11, .v (iv x.1))], []⟩
theorem small_c {d : Nat} {H : PH} {v vd : Value} {l : List Sm} {w : List (Nat × Nat)} {most : Nat} (hS : SlSm d H v l) (hW : SlC H vd w) (hb : ∀ x ∈ l, SmB x) (hl : l.length < 2 ^ 40) (hw : w.length < 2 ^ 40) : Does Tryz.prog 40 #[v, vd, iv most] H fun r H2 =>
    (∃ (u : Nat) (ok : Bool), r = .tuple #[.int .u32 u, .bool ok] ∧ u < 2 ^ 24 ∧ (ok = true → pop u 32 ≤ most ∧ w.length < 500 ∧ l.length < 500 ∧ bitsN w ||| u = u ∧ ∀ x ∈ l, SmOk u x)) ∧ H2 = H := by
  obtain ⟨va, vc, rfl, _⟩ := id hS
  obtain ⟨wa, wc, rfl, _⟩ := id hW
  refine Does_ofD Tryz.func40 rfl (by simp [Tryz.ntmps40]) fun w0 => ?_
  simp only [Tryz.ntmps40, iv]
  have e0 : IntKind.i64.wrap ((l.length : Int) + (w.length : Int)) = ((l.length + w.length : Nat) : Int) := by rw [← wrap64 (n := l.length + w.length) (by omega)]; congr 1
  (refine RG ?_; simp only [go_sem, e0])
  refine RC_call rfl rfl rfl rfl goes63 (bits_c hW (by omega)) fun v H2 hv => ?_
  obtain ⟨rfl, rfl⟩ := hv
  (refine RG ?_; simp only [go_sem])
  apply RC_loopX (fun (x : Nat × Nat × Nat) => l.length - x.1) (sm1S (.slice va l.length vc) (.slice wa w.length wc) most) (fun x H' => H' = H2 ∧ x.1 ≤ l.length ∧ x.2.1 < 2 ^ 24 ∧ x.2.2 < 2 ^ 44 ∧ bitsN w ||| x.2.1 = x.2.1 ∧ (x.2.2 < 500 → w.length < 500 ∧ l.length < 500 ∧ ∀ y ∈ l.take x.1, SmOk x.2.1 y))
    (fun x H' => H' = H2 ∧ x.2.1 < 2 ^ 24 ∧ bitsN w ||| x.2.1 = x.2.1 ∧ (x.2.2 < 500 → w.length < 500 ∧ l.length < 500 ∧ ∀ y ∈ l, SmOk x.2.1 y)) (0, bitsN w, l.length + w.length)
  · exact (subT_dn (by simp only [go_sem, List.append_nil, iv]))
  · exact (by simp only [go_sem, List.append_nil, sm1S])
  · exact ⟨rfl, Nat.zero_le _, bitsN_lt w, by simp only; omega, Nat.or_self _, fun h => ⟨by simp only at h; omega, by simp only at h; omega, fun y hy => by simp at hy⟩⟩
  · rintro ⟨i, u, n⟩ H' ⟨rfl, hi, hu, hn, hwu, hok⟩ hnext hexit
    simp only at hi hu hn hwu hok
    simp only [sm1S]
    rcases Nat.lt_or_ge i l.length with hlt | hge
    rotate_left
    · have : i = l.length := by omega
      subst this
      have h22 : decide ((l.length : Int) < (l.length : Int)) = false := by simp
      rw [List.take_length] at hok
      (refine RC_go 14 ?_; simp only [go_sem, iv, h22])
      exact hexit (l.length, u, n) _ _ (subT_dn (by simp only [go_sem, List.append_nil, iv])) (by simp only [go_sem, List.append_nil, sm1S]) ⟨rfl, hu, hwu, hok⟩
    have h22 : decide ((i : Int) < (l.length : Int)) = true := decide_eq_true (by omega)
    rcases Nat.lt_or_ge n 500 with hn5 | hn5
    rotate_left
    · have h25 : decide ((n : Int) < 500) = false := decide_eq_false (by omega)
      (refine RC_go 14 ?_; simp only [go_sem, iv, h22, h25])
      exact hexit (i, u, n) _ _ (subT_dn (by simp only [go_sem, List.append_nil, iv])) (by simp only [go_sem, List.append_nil, sm1S]) ⟨rfl, hu, hwu, fun h => by simp only at h; omega⟩
    have h25 : decide ((n : Int) < 500) = true := decide_eq_true (by omega)
    obtain ⟨hw5, hl5, hall⟩ := hok hn5
    have e1 : IntKind.i64.wrap ((i : Int) + 1) = ((i + 1 : Nat) : Int) := by rw [← wrap64 (n := i + 1) (by omega)]; congr 1
    obtain ⟨x, hx⟩ : ∃ x, l[i]? = some x := ⟨_, List.getElem?_eq_getElem hlt⟩
    obtain ⟨b1, b2, b3⟩ := hb x (List.mem_of_getElem? hx)
    obtain ⟨b, off, cs, rfl, ⟨vk, vn, rfl, hk, hnt⟩, hcell⟩ := Sl.load (R := SmR d) (fun {I} c a h => SmR.len (I := I) c a h) hS hx
    obtain ⟨ka, kc, rfl, _⟩ := id hk
    obtain ⟨na, nc, rfl, _⟩ := id hnt
    have c0 := hcell.get (i := 0) rfl
    have c1 := hcell.get (i := 1) rfl
    have e36 : IntKind.i64.wrap ((n : Int) + (x.notes.length : Int)) = ((n + x.notes.length : Nat) : Int) := by rw [← wrap64 (n := n + x.notes.length) (by omega)]; congr 1
    (refine RG ?_; simp only [go_sem, iv, h22, h25])
    refine R_drawn mixed [0, 1, 2, 3, 4, 5, 6, 7, 8, 9, 10, 11, 12, 13, 14, 15] [5, 12] [13] rfl rfl ?_
    (refine RD_go ?_; simp only [go_sem, iv])
    try refine ⟨by omega, ?_⟩
    refine RD_load (l := [.slice na x.notes.length nc]) rfl rfl rfl rfl (by simpa using c1) (.inr ⟨ag92, rfl⟩) ?_
    (refine RD_go ?_; simp only [go_sem, iv, e36])
    try refine ⟨by omega, ?_⟩
    refine RD_load (l := [.slice ka x.kids.length kc]) rfl rfl rfl rfl (by simpa using c0) (.inr ⟨ag91, rfl⟩) ?_
    (refine RD_go ?_; simp only [go_sem, iv])
    refine RD_call rfl rfl rfl rfl goes98 (weigh_c (wtL x.kids + 1) d (by omega) hk (by omega) (by omega) (by omega)) fun v H2 hv => ?_
    obtain ⟨⟨n2, rfl, q1, q2⟩, rfl⟩ := hv
    refine ⟨Keeps.le (PH.le_refl _), ?_⟩
    have e43 : IntKind.i64.wrap (((n + x.notes.length : Nat) : Int) + (n2 : Int)) = ((n + x.notes.length + n2 : Nat) : Int) := by rw [← wrap64 (n := n + x.notes.length + n2) (by omega)]; congr 1
    (refine RD_go ?_; simp only [go_sem, iv, e43])
    refine RD_nil ?_
    obtain ⟨n1, hn1⟩ : ∃ n1, n + x.notes.length + n2 = n1 := ⟨_, rfl⟩
    rw [hn1]
    (refine RG ?_; simp only [go_sem, iv])
    have hn42 : n1 < 2 ^ 43 := by omega
    apply RC_loopX (fun (y : Nat × Nat × Nat) => x.notes.length - y.1) (sm2S (.slice (some ⟨b, off, none⟩) l.length vc) (.slice wa w.length wc) most i) (fun y H' => H' = H2 ∧ y.1 ≤ x.notes.length ∧ y.2.1 < 2 ^ 24 ∧ u ||| y.2.1 = y.2.1 ∧ n1 ≤ y.2.2 ∧ y.2.2 < 2 ^ 43 ∧ (y.2.2 < 500 → ∀ z ∈ x.notes.take y.1, bitsN z.inn ||| y.2.1 = y.2.1 ∧ z.inn.length < 500))
      (fun y H' => H' = H2 ∧ y.2.1 < 2 ^ 24 ∧ u ||| y.2.1 = y.2.1 ∧ n1 ≤ y.2.2 ∧ y.2.2 < 2 ^ 43 ∧ (y.2.2 < 500 → ∀ z ∈ x.notes, bitsN z.inn ||| y.2.1 = y.2.1 ∧ z.inn.length < 500)) (0, u, n1)
    · exact (subT_dn (by simp only [go_sem, List.append_nil, iv]))
    · exact (by simp only [go_sem, List.append_nil, sm2S])
    · exact ⟨rfl, Nat.zero_le _, hu, Nat.or_self _, Nat.le_refl _, hn42, fun _ y hy => by simp at hy⟩
    · rintro ⟨k, u1, m⟩ H' ⟨rfl, hk1, hu1, huu, hnm, hm43, hks⟩ hnext2 hexit2
      simp only at hk1 hu1 huu hnm hm43 hks
      simp only [sm2S]
      rcases Nat.lt_or_ge k x.notes.length with hklt | hkge
      rotate_left
      · have : k = x.notes.length := by omega
        subst this
        have h51 : decide ((x.notes.length : Int) < (x.notes.length : Int)) = false := by simp
        rw [List.take_length] at hks
        (refine RG ?_; simp only [go_sem, iv])
        try refine ⟨by omega, ?_⟩
        refine RC_load (l := [.slice na x.notes.length nc]) rfl rfl rfl (by simpa using c1) (.inr ⟨ag92, rfl⟩) ?_
        (refine RC_go 10 ?_; simp only [go_sem, iv, h51])
        exact hexit2 (x.notes.length, u1, m) _ _ (subT_dn (by simp only [go_sem, List.append_nil, iv])) (by simp only [go_sem, List.append_nil, sm2S]) ⟨rfl, hu1, huu, hnm, hm43, hks⟩
      have h51 : decide ((k : Int) < (x.notes.length : Int)) = true := decide_eq_true (by omega)
      rcases Nat.lt_or_ge m 500 with hm5 | hm5
      rotate_left
      · have h54 : decide ((m : Int) < 500) = false := decide_eq_false (by omega)
        (refine RG ?_; simp only [go_sem, iv])
        try refine ⟨by omega, ?_⟩
        refine RC_load (l := [.slice na x.notes.length nc]) rfl rfl rfl (by simpa using c1) (.inr ⟨ag92, rfl⟩) ?_
        (refine RC_go 10 ?_; simp only [go_sem, iv, h51, h54])
        exact hexit2 (k, u1, m) _ _ (subT_dn (by simp only [go_sem, List.append_nil, iv])) (by simp only [go_sem, List.append_nil, sm2S]) ⟨rfl, hu1, huu, hnm, hm43, fun h => by simp only at h; omega⟩
      have h54 : decide ((m : Int) < 500) = true := decide_eq_true (by omega)
      have e2 : IntKind.i64.wrap ((k : Int) + 1) = ((k + 1 : Nat) : Int) := by rw [← wrap64 (n := k + 1) (by omega)]; congr 1
      obtain ⟨z, hz⟩ : ∃ z, x.notes[k]? = some z := ⟨_, List.getElem?_eq_getElem hklt⟩
      have hzb := b3 z (List.mem_of_getElem? hz)
      obtain ⟨zb, zo, zs, ez, ⟨vi, rfl, hzi⟩, hzc⟩ := Sl.load (R := NtR) (fun {I} c a h => NtR.len (I := I) c a h) hnt hz
      cases ez
      obtain ⟨ia, ic, rfl, _⟩ := id hzi
      have d2 := hzc.get (i := 2) rfl
      have e69 : IntKind.i64.wrap ((m : Int) + (z.inn.length : Int)) = ((m + z.inn.length : Nat) : Int) := by rw [← wrap64 (n := m + z.inn.length) (by omega)]; congr 1
      have hzn := bitsN_lt z.inn
      have q81 := or32x (a := u1) (b := bitsN z.inn) (by omega) (by omega)
      (refine RG ?_; simp only [go_sem, iv])
      try refine ⟨by omega, ?_⟩
      refine RC_load (l := [.slice (some ⟨zb, zo, none⟩) x.notes.length nc]) rfl rfl rfl (by simpa using c1) (.inr ⟨ag92, rfl⟩) ?_
      (refine RG ?_; simp only [go_sem, iv, h51, h54])
      try refine ⟨by omega, ?_⟩
      refine RC_load (l := [.slice (some ⟨zb, zo, none⟩) x.notes.length nc]) rfl rfl rfl (by simpa using c1) (.inr ⟨ag92, rfl⟩) ?_
      (refine RG ?_; simp only [go_sem, iv])
      try refine ⟨by omega, ?_⟩
      refine RC_load (l := [.slice ia z.inn.length ic]) rfl rfl rfl (by simpa using d2) (.inr ⟨ag46, rfl⟩) ?_
      (refine RG ?_; simp only [go_sem, iv, e69])
      try refine ⟨by omega, ?_⟩
      refine RC_load (l := [.slice (some ⟨zb, zo, none⟩) x.notes.length nc]) rfl rfl rfl (by simpa using c1) (.inr ⟨ag92, rfl⟩) ?_
      (refine RG ?_; simp only [go_sem, iv])
      try refine ⟨by omega, ?_⟩
      refine RC_load (l := [.slice ia z.inn.length ic]) rfl rfl rfl (by simpa using d2) (.inr ⟨ag46, rfl⟩) ?_
      (refine RG ?_; simp only [go_sem, iv])
      refine RC_call rfl rfl rfl rfl goes63 (bits_c hzi (by omega)) fun v H2 hv => ?_
      obtain ⟨rfl, rfl⟩ := hv
      (refine RG ?_; simp only [go_sem, iv, q81, e2])
      exact hnext2 (k + 1, u1 ||| bitsN z.inn, m + z.inn.length) _ _ (by simp only; omega) (subT_dn (by simp only [go_sem, List.append_nil, iv])) (by simp only [go_sem, List.append_nil, sm2S]) ⟨rfl, hklt, Nat.or_lt_two_pow hu1 hzn, or_le huu, by simp only; omega, by simp only; omega, fun h y hy => by
        simp only at h hy ⊢
        rw [take_snoc' hz] at hy
        rcases List.mem_append.1 hy with hy | hy
        · obtain ⟨p1, p2⟩ := hks (by omega) y hy
          exact ⟨or_le p1, p2⟩
        · rw [List.mem_singleton] at hy; subst hy
          exact ⟨or_self_r, by omega⟩⟩
    rintro ⟨k, u1, m⟩ H' ⟨rfl, hu1, huu, hnm, hm43, hks⟩
    simp only at hu1 huu hnm hm43 hks
    simp only [sm2S]
    have hwu1 : bitsN w ||| u1 = u1 := by rw [← huu, ← Nat.or_assoc, hwu]
    rcases Nat.lt_or_ge m 500 with hm5 | hm5
    rotate_left
    · have h83 : decide ((m : Int) < 500) = false := decide_eq_false (by omega)
      (refine RG ?_; simp only [go_sem, iv, h83, e1])
      exact hnext (i + 1, u1, m) _ _ (by simp only; omega) (subT_dn (by simp only [go_sem, List.append_nil, iv])) (by simp only [go_sem, List.append_nil, sm1S]) ⟨rfl, hlt, hu1, by simp only; omega, hwu1, fun h => by simp only at h; omega⟩
    have h83 : decide ((m : Int) < 500) = true := decide_eq_true (by omega)
    (refine RG ?_; simp only [go_sem, iv, h83])
    try refine ⟨by omega, ?_⟩
    refine RC_load (l := [.slice ka x.kids.length kc]) rfl rfl rfl (by simpa using c0) (.inr ⟨ag91, rfl⟩) ?_
    (refine RG ?_; simp only [go_sem, iv])
    refine RC_call rfl rfl rfl rfl goes99 (twigBits_c (wtL x.kids + 1) d (by omega) hk (by omega)) fun v H2 hv => ?_
    obtain ⟨rfl, rfl⟩ := hv
    have htb := tbL_lt x.kids
    have q91 := or32x (a := u1) (b := tbL x.kids) (by omega) (by omega)
    (refine RG ?_; simp only [go_sem, iv, q91, e1])
    have hwk := q2 (by omega)
    exact hnext (i + 1, u1 ||| tbL x.kids, m) _ _ (by simp only; omega) (subT_dn (by simp only [go_sem, List.append_nil, iv])) (by simp only [go_sem, List.append_nil, sm1S]) ⟨rfl, hlt, Nat.or_lt_two_pow hu1 htb, by simp only; omega, or_le hwu1, fun _ => ⟨hw5, hl5, fun y hy => by
      simp only at hy ⊢
      rw [take_snoc' hx] at hy
      rcases List.mem_append.1 hy with hy | hy
      · have := (hall y hy).up (v := u1)
        rw [huu] at this
        exact this.up
      · rw [List.mem_singleton] at hy; subst hy
        exact ⟨by omega, by omega, or_self_r, fun z hz => ⟨or_le (hks hm5 z hz).1, (hks hm5 z hz).2⟩⟩⟩⟩
  rintro ⟨i, u, n⟩ H' ⟨rfl, hu, hwu, hok⟩
  simp only at hu hwu hok
  simp only [sm1S]
  rcases Nat.lt_or_ge n 500 with hn5 | hn5
  rotate_left
  · have h94 : decide ((n : Int) < 500) = false := decide_eq_false (by omega)
    (refine RG ?_; simp only [go_sem, iv, h94])
    exact R_ret (r := [.int .u32 (u : Nat), .bool false]) (by (simp only [Tryz.results40, go_sem, iv])) ⟨⟨u, false, rfl, hu, fun h => by cases h⟩, rfl⟩
  have h94 : decide ((n : Int) < 500) = true := decide_eq_true (by omega)
  obtain ⟨hw5, hl5, hall⟩ := hok hn5
  (refine RG ?_; simp only [go_sem, iv, h94])
  refine RC_call rfl rfl rfl rfl goes64 (few_c (most := most) (by omega)) fun v H2 hv => ?_
  obtain ⟨rfl, rfl⟩ := hv
  (refine RG ?_; simp only [go_sem, iv])
  exact R_ret (r := [.int .u32 (u : Nat), .bool (decide (pop u 32 ≤ most))]) (by (simp only [Tryz.results40, go_sem, iv])) ⟨⟨u, _, rfl, hu, fun h => ⟨of_decide_eq_true h, hw5, hl5, hwu, hall⟩⟩, rfl⟩
end Go.Proofs.YtfaclfkpnmcmlaaGreatDoor
end
section
namespace Go.Proofs.YtfaclfkpnmcmlaaGreatDoor
open Go Go.Sx Dg Syn
theorem goes100 : Goes Tryz.prog 100 := ⟨_, Tryz.func100, rfl, rfl⟩
theorem goes41 : Goes Tryz.prog 41 := ⟨_, Tryz.func41, rfl, rfl⟩
mutual
def ndN : Tw → Nd
  | ⟨k, s, t, o, ks, i⟩ => ⟨k, s, t, o, ndL ks, cubesT i⟩
def ndL : List Tw → List Nd
  | [] => []
  | x :: l => ndN x :: ndL l
end
theorem ndN_eq (x : Tw) : ndN x = ⟨x.kind, x.text, x.tok, x.slot, ndL x.kids, cubesT x.inn⟩ := by cases x; rw [ndN]
theorem ndL_map : ∀ l : List Tw, ndL l = l.map ndN
  | [] => by rw [ndL]; rfl
  | x :: l => by rw [ndL, ndL_map l]; rfl
theorem ndL_len (l : List Tw) : (ndL l).length = l.length := by rw [ndL_map, List.length_map]
theorem ndL_snoc {l : List Tw} {i : Nat} {x : Tw} (h : l[i]? = some x) : ndL (l.take (i + 1)) = ndL (l.take i) ++ [ndN x] := by
  rw [ndL_map, ndL_map, take_snoc' h, List.map_append]; rfl
mutual
theorem szN_nd : ∀ x : Tw, szN (ndN x) ≤ wtN x
  | ⟨k, s, t, o, ks, i⟩ => by rw [ndN, szN, wtN]; have := szL_nd ks; omega
theorem szL_nd : ∀ l : List Tw, szL (ndL l) ≤ wtL l
  | [] => by rw [ndL, szL_nil]; exact Nat.zero_le _
  | x :: l => by
    have h1 := szN_nd x
    have h2 := szL_nd l
    rw [ndL, wtL, szL]; omega
end
theorem NgRn.ones {W : PH → Value → T → Prop} {u d : Nat} (hW : WOk W u) {I : PH} {c : List Value} {n : Nd} (h : NgRn W d I c n) : c.all Sx.one = true := by
  cases d with
  | zero => exact h.elim
  | succ d =>
    obtain ⟨vk, w, rfl, hw, hk⟩ := h
    obtain ⟨a, n', c', rfl⟩ := hW.sh hw
    obtain ⟨ka, kc, rfl, _⟩ := hk
    rfl
theorem or_part {a b u : Nat} (h : (a ||| b) ||| u = u) : a ||| u = u ∧ b ||| u = u := by
  have key : ∀ i, (a.testBit i = true → u.testBit i = true) ∧ (b.testBit i = true → u.testBit i = true) := fun i => by
    constructor
    · intro ha; rw [← h, Nat.testBit_or, Nat.testBit_or, ha]; rfl
    · intro hb; rw [← h, Nat.testBit_or, Nat.testBit_or, hb, Bool.or_true]; rfl
  have one : ∀ x : Nat, (∀ i, x.testBit i = true → u.testBit i = true) → x ||| u = u := fun x hx => Nat.eq_of_testBit_eq fun i => by
    rw [Nat.testBit_or]
    cases hxi : x.testBit i
    · rfl
    · rw [hx i hxi]; rfl
  exact ⟨one a fun i => (key i).1, one b fun i => (key i).2⟩
abbrev OwG (u d : Nat) (I A : PH) (v : Value) (l : List Nd) : Prop := Ow (NgRn (ThW u) d) 67 6 I A v l
abbrev SlG (u d : Nat) (I : PH) (v : Value) (l : List Nd) : Prop := Sl (NgRn (ThW u) d) I v l
theorem ngle {u d : Nat} (hu : u < 2 ^ 32) (hp : pop u 32 ≤ 8) {I J : PH} {c : List Value} {n : Nd} (h : NgRn (ThW u) d I c n) (k : I.le J) : NgRn (ThW u) d J c n := NgRn.le (thW_ok hu hp) h k
theorem OwG.le {u d : Nat} (hu : u < 2 ^ 32) (hp : pop u 32 ≤ 8) {I J A : PH} {v : Value} {l : List Nd} (h : OwG u d I A v l) (k : I.le J) : OwG u d J A v l := Ow.le (R := NgRn (ThW u) d) (fun {I J c a} h k => ngle hu hp h k) h k
theorem SlG.le {u d : Nat} (hu : u < 2 ^ 32) (hp : pop u 32 ≤ 8) {I J : PH} {v : Value} {l : List Nd} (h : SlG u d I v l) (k : I.le J) : SlG u d J v l := Sl.le (R := NgRn (ThW u) d) (fun {I J c a} h k => ngle hu hp h k) h k
def grS (v va vb : Value) (u i : Nat) : St := ⟨dn 92 [(0, .v v), (1, .v (.int .u32 u)), (6, .v va), (7, .v vb), (8, .v (iv i))], []⟩
def grQ (u d : Nat) (l : List Tw) (I0 : PH) (x : Nat × Value × Value) (H : PH) : Prop := ∃ I A B, H = U [I, A, B] ∧ Dj [I, A, B] ∧ I0.le I ∧ x.1 ≤ l.length ∧ OwN I A x.2.1 (ndL (l.take x.1)) ∧ OwG u d I B x.2.2 (ndL (l.take x.1))
theorem grow_c {u : Nat} (hu : u < 2 ^ 24) (hp : pop u 32 ≤ 8) : ∀ (m d : Nat) {I : PH} {v : Value} {l : List Tw}, wtL l < m → SlW d I v l → wtL l < 2 ^ 30 → tbL l ||| u = u →
    DoesI Tryz.prog 100 #[v, .int .u32 u] I [] fun r I2 qs => qs = [] ∧ ∃ va vb, r = .tuple #[va, vb] ∧ SlN I2 va (ndL l) ∧ CapN va ∧ SlG u d I2 vb (ndL l) := by
  have hu32 : u < 2 ^ 32 := by omega
  intro m
  induction m with
  | zero => intro d I v l h; omega
  | succ m ih =>
  intro d I v l hm hS hw hb hd
  obtain ⟨la, lc, rfl, _⟩ := id hS
  have hll := wtL_len l
  refine Does_ofD Tryz.func100 rfl (by simp [Tryz.ntmps100]) fun w0 => ?_
  simp only [Tryz.ntmps100]
  (refine RG ?_; simp only [go_sem])
  refine RC_addno hd fun hd1 => ?_
  refine RC_addno hd1 fun hd2 => ?_
  refine RC_loopD (fun x => l.length - x.1) (fun x : Nat × Value × Value => grS (.slice la l.length lc) x.2.1 x.2.2 u x.1) (grQ u d l I) (0, .slice none 0 0, .slice none 0 0) (subT_dn (by simp only [go_sem, List.append_nil, iv])) (by simp only [go_sem, List.append_nil, grS]) ?_ ?_
  · exact ⟨I, _, _, rfl, hd2, PH.le_refl _, Nat.zero_le _, by simpa [ndL] using Ow.nil NdR 60 7 I, by simpa [ndL] using Ow.nil (NgRn (ThW u) d) 67 6 I⟩
  rintro ⟨i, va, vb⟩ H ⟨I1, A1, B1, rfl, hd3, hle1, hi, hA, hB⟩ hnext
  simp only at hi hA hB
  simp only [grS]
  obtain ⟨aa, ac, rfl⟩ := hA.shape
  obtain ⟨ba, bc, rfl⟩ := hB.shape
  have hlen : (ndL (l.take i)).length = i := by rw [ndL_len, List.length_take]; omega
  rcases Nat.lt_or_ge i l.length with hlt | hge
  · have h14 : decide ((i : Int) < (l.length : Int)) = true := decide_eq_true (by omega)
    have e1 : IntKind.i64.wrap ((i : Int) + 1) = ((i + 1 : Nat) : Int) := by rw [← wrap64 (n := i + 1) (by omega)]; congr 1
    obtain ⟨x, hx⟩ : ∃ x, l[i]? = some x := ⟨_, List.getElem?_eq_getElem hlt⟩
    obtain ⟨b, off, cs, rfl, hcs, hcell⟩ := Sl.load (R := TwRn d) (fun {I} c a h => TwRn.len (I := I) c a h) (SlW.le hS hle1) hx
    cases d with
    | zero => exact hcs.elim
    | succ d =>
    obtain ⟨vk, vi, rfl, hk, hc⟩ := hcs
    obtain ⟨ka, kc, rfl, _⟩ := id hk
    obtain ⟨ca, cc, rfl, _⟩ := id hc
    have hxw := wtL_mem (List.mem_of_getElem? hx)
    have hxe := wtN_eq x
    have hxb : tbN x ||| u = u := by
      have h1 := tbL_snoc hx
      have h3 : tbL l = tbL (l.take (i + 1)) ||| tbL (l.drop (i + 1)) := by rw [← tbL_app, List.take_append_drop]
      rw [h3] at hb
      have h2 := (or_part hb).1
      rw [h1] at h2
      exact (or_part h2).2
    rw [tbN_eq] at hxb
    have hib := (or_part hxb).1
    have hkb := (or_part hxb).2
    have hnx := ndN_eq x
    have c4 := hcell.get (i := 4) rfl
    (refine RG ?_; simp only [go_sem, iv, h14])
    try refine ⟨by omega, ?_⟩
    refine RC_load (l := [.slice ka x.kids.length kc]) rfl rfl rfl (cellsU hd3 (.head _) (by simpa using c4)) (.inr ⟨ag91, rfl⟩) ?_
    (refine RG ?_; simp only [go_sem, iv])
    refine RC_callI hd3 [0, 1] rfl rfl rfl rfl goes100 (by rfl) (ps := []) (F := [A1, B1]) rfl (ih d (by omega) hk (by omega) hkb) fun v I4 qs hd4 hle4 hq => ?_
    obtain ⟨rfl, xa, xb, rfl, hxa, hxc, hxb2⟩ := hq
    simp only [Z3] at hd4 ⊢
    obtain ⟨pa, pc, rfl, _⟩ := id hxa
    obtain ⟨qa, qc, rfl, _⟩ := id hxb2
    have hcell := hcell.le hle4
    have c0 := hcell.get (i := 0) rfl
    have c1 := hcell.get (i := 1) rfl
    have c2 := hcell.get (i := 2) rfl
    have c3 := hcell.get (i := 3) rfl
    have c5 := hcell.get (i := 5) rfl
    (refine RG ?_; simp only [go_sem, iv])
    refine R_drawnJ mixed [0, 1, 2, 3, 4, 5, 6, 7, 8, 9, 10, 11, 12, 13, 14, 15, 16, 17, 18, 19, 20, 21, 22, 23, 24, 25, 26, 27, 28, 29, 30, 31] [] [] [5, 10, 15, 20, 26] [27] I4 rfl rfl ?_
    (refine RD_go ?_; simp only [go_sem, iv])
    try refine ⟨by omega, ?_⟩
    refine RD_loadJ (l := [.int .u8 x.kind]) rfl (le_first hd4) rfl rfl rfl (by simpa using c0) (.inr ⟨ag5, rfl⟩) ?_
    (refine RD_go ?_; simp only [go_sem, iv])
    try refine ⟨by omega, ?_⟩
    refine RD_loadJ (l := [.string ⟨⟨x.text⟩⟩]) rfl (le_first hd4) rfl rfl rfl (by simpa using c1) (.inr ⟨ag9, rfl⟩) ?_
    (refine RD_go ?_; simp only [go_sem, iv])
    try refine ⟨by omega, ?_⟩
    refine RD_loadJ (l := [.int .i64 x.tok]) rfl (le_first hd4) rfl rfl rfl (by simpa using c2) (.inr ⟨ag3, rfl⟩) ?_
    (refine RD_go ?_; simp only [go_sem, iv])
    try refine ⟨by omega, ?_⟩
    refine RD_loadJ (l := [.int .i64 x.slot]) rfl (le_first hd4) rfl rfl rfl (by simpa using c3) (.inr ⟨ag3, rfl⟩) ?_
    (refine RD_go ?_; simp only [go_sem, iv])
    try refine ⟨by omega, ?_⟩
    refine RD_loadJ (l := [.slice ca x.inn.length cc]) rfl (le_first hd4) rfl rfl rfl (by simpa using c5) (.inr ⟨ag46, rfl⟩) ?_
    (refine RD_go ?_; simp only [go_sem, iv])
    have hc4 := SlC.le hc hle4
    refine RD_callI hd4 [0, 1] rfl (fun _ => PH.le_refl _) rfl rfl rfl rfl goes23 (by rfl) (ps := []) (F := [A1, B1]) rfl (set_c hc4 (by omega)) fun v1 I5 qs hd5 hle5 hq => ?_
    obtain ⟨rfl, hr⟩ := hq
    simp only [Z3] at hd5 ⊢
    obtain ⟨za, zk, rfl⟩ := hr.shape2
    (refine RD_go ?_; simp only [go_sem, iv, sD, rD])
    refine RD_buildSliceI hd5 (by exact sl33) rfl rfl rfl rfl rfl (by decide) fun kb I6 hd6 hle6 hkb6 => ?_
    have k46 := PH.le_trans hle5 hle6
    have hS6 : SlN I6 (.slice (some ⟨kb, 0, none⟩) 1 1) [ndN x] := ⟨_, _, rfl, .inr ⟨kb, 0, _, rfl, (cells_at hkb6 (by simp [flatP, Value.cells]) (by simp [flatP, Value.cells, iv, sD, rD]) : Cells I6 kb 0 [.int .u8 x.kind, .string ⟨⟨x.text⟩⟩, .int .i64 x.tok, .int .i64 x.slot, .slice pa (ndL x.kids).length pc, sD za zk (cubesT x.inn), rD (cubesT x.inn)]), .one (by rw [hnx]; exact NdR.mk (n := ⟨x.kind, x.text, x.tok, x.slot, ndL x.kids, cubesT x.inn⟩) (hr.le hle6) (SlN.le hxa k46) hxc)⟩⟩
    (refine RD_go ?_; simp only [go_sem, iv, sD, rD])
    refine RD_appendSl hd6 (by exact sl33) (OwN.le hA (PH.le_trans hle4 k46)) (hS6) (fun {I J c a} h k => NdR.le h k) (fun {I} c a h => NdR.len c a h) (fun {I} c a h => NdR.ones h) rfl rfl rfl rfl rfl rfl (by first | omega | (simp only [List.length_cons, List.length_nil]; omega)) (by unfold maxLen; first | omega | (simp only [List.length_cons, List.length_nil]; omega)) fun ua uc I7 A7 hd7 hle7 hA7 => ?_
    (refine RD_go ?_; simp only [go_sem, iv, sD, rD])
    refine RD_nil ?_
    have k47 := PH.le_trans k46 hle7
    have hcell := hcell.le k47
    have c0 := hcell.get (i := 0) rfl
    have c1 := hcell.get (i := 1) rfl
    have c2 := hcell.get (i := 2) rfl
    have c3 := hcell.get (i := 3) rfl
    have c5 := hcell.get (i := 5) rfl
    (refine RG ?_; simp only [go_sem, iv])
    refine R_drawnJ mixed [0, 1, 2, 3, 4, 5, 6, 7, 8, 9, 10, 11, 12, 13, 14, 15, 16, 17, 18, 19, 20, 21, 22, 23, 24, 25, 26, 27, 28, 29, 30, 31, 32] [] [] [5, 10, 15, 20, 26] [28] I7 rfl rfl ?_
    (refine RD_go ?_; simp only [go_sem, iv])
    try refine ⟨by omega, ?_⟩
    refine RD_loadJ (l := [.int .u8 x.kind]) rfl (le_first hd7) rfl rfl rfl (by simpa using c0) (.inr ⟨ag5, rfl⟩) ?_
    (refine RD_go ?_; simp only [go_sem, iv])
    try refine ⟨by omega, ?_⟩
    refine RD_loadJ (l := [.string ⟨⟨x.text⟩⟩]) rfl (le_first hd7) rfl rfl rfl (by simpa using c1) (.inr ⟨ag9, rfl⟩) ?_
    (refine RD_go ?_; simp only [go_sem, iv])
    try refine ⟨by omega, ?_⟩
    refine RD_loadJ (l := [.int .i64 x.tok]) rfl (le_first hd7) rfl rfl rfl (by simpa using c2) (.inr ⟨ag3, rfl⟩) ?_
    (refine RD_go ?_; simp only [go_sem, iv])
    try refine ⟨by omega, ?_⟩
    refine RD_loadJ (l := [.int .i64 x.slot]) rfl (le_first hd7) rfl rfl rfl (by simpa using c3) (.inr ⟨ag3, rfl⟩) ?_
    (refine RD_go ?_; simp only [go_sem, iv])
    try refine ⟨by omega, ?_⟩
    refine RD_loadJ (l := [.slice ca x.inn.length cc]) rfl (le_first hd7) rfl rfl rfl (by simpa using c5) (.inr ⟨ag46, rfl⟩) ?_
    (refine RD_go ?_; simp only [go_sem, iv])
    have hc7 := SlC.le hc4 k47
    refine RD_callI hd7 [0, 1] rfl (fun _ => PH.le_refl _) rfl rfl rfl rfl goes25 (by rfl) (ps := []) (F := [A7, B1]) rfl (those_c hc7 (by omega) hu32 hp) fun v2 I8 qs hd8 hle8 hq => ?_
    obtain ⟨rfl, hth⟩ := hq
    simp only [Z3] at hd8 ⊢
    obtain ⟨ta, tc, rfl, _⟩ := id hth
    (refine RD_go ?_; simp only [go_sem, iv])
    refine RD_buildSliceI hd8 (by exact sl38) rfl rfl rfl rfl rfl (by decide) fun gb I9 hd9 hle9 hgb9 => ?_
    have k49 := PH.le_trans k47 (PH.le_trans hle8 hle9)
    have hS9 : SlG u (d + 1) I9 (.slice (some ⟨gb, 0, none⟩) 1 1) [ndN x] := ⟨_, _, rfl, .inr ⟨gb, 0, _, rfl, (cells_at hgb9 (by simp [flatP, Value.cells]) (by simp [flatP, Value.cells, iv]) : Cells I9 gb 0 [.int .u8 x.kind, .string ⟨⟨x.text⟩⟩, .int .i64 x.tok, .int .i64 x.slot, .slice qa (ndL x.kids).length qc, .slice ta (thoseN x.inn u).length tc]), .one (by rw [hnx]; exact ⟨_, _, rfl, thW_of (hth.le hle9) (subB_of hib), SlG.le hu32 hp hxb2 k49⟩)⟩⟩
    (refine RD_go ?_; simp only [go_sem, iv])
    (refine RD_parts hd9 [1, 0] rfl fun hd9 => ?_; simp only [Z4] at hd9 ⊢)
    refine RD_appendSl (R := NgRn (ThW u) (d + 1)) hd9 (by exact sl38) (OwG.le hu32 hp hB (PH.le_trans hle4 k49)) hS9 (fun {I J c a} h k => ngle hu32 hp h k) (fun {I} c a h => NgRn.len (I := I) c a h) (fun {I} c a h => NgRn.ones (I := I) (thW_ok hu32 hp) h) rfl rfl rfl rfl rfl rfl (by simp only [List.length_cons, List.length_nil]; omega) (by simp only [List.length_cons, List.length_nil]; unfold maxLen; omega) fun wa wc I10 B10 hd10 hle10 hB10 => ?_
    (refine RD_go ?_; simp only [go_sem, iv])
    (refine RD_parts hd10 [1, 0] rfl fun hd11 => ?_; simp only [Z4] at hd11 ⊢)
    refine RD_nil ?_
    (refine RG ?_; simp only [go_sem, iv, e1])
    have k710 := PH.le_trans hle8 (PH.le_trans hle9 hle10)
    exact hnext (i + 1, .slice ua (ndL (l.take i) ++ [ndN x]).length uc, .slice wa (ndL (l.take i) ++ [ndN x]).length wc) _ _ (by simp only; omega) (subT_dn (by simp only [go_sem, List.append_nil, iv])) (by simp only [go_sem, List.append_nil, grS]) ⟨I10, A7, B10, rfl, hd11, PH.le_trans hle1 (PH.le_trans hle4 (PH.le_trans k47 k710)), hlt, by simp only; rw [ndL_snoc hx]; exact OwN.le hA7 k710, by simp only; rw [ndL_snoc hx]; exact hB10⟩
  · have : i = l.length := by omega
    subst this
    rw [List.take_length] at hA hB hlen ⊢
    have h14 : decide ((l.length : Int) < (l.length : Int)) = false := by simp
    have hcap := hA.capN NdR.len
    (refine RC_parts hd3 [0, 1] rfl fun hd4 => ?_; simp only [Z4] at hd4 ⊢)
    refine RC_freeze (c := .st _) hd4 fun I4 hd4 hle4 hA4 => ?_
    (refine RC_parts hd4 [0] rfl fun hd5 => ?_; simp only [Z4] at hd5 ⊢)
    refine RC_freeze (c := .st _) hd5 fun I5 hd5 hle5 hB5 => ?_
    (refine RG ?_; simp only [go_sem, iv, h14])
    exact R_ret_I rfl hd5 (r := [_, _]) rfl (PH.le_trans hle1 (PH.le_trans hle4 hle5)) ⟨rfl, _, _, rfl, SlN.le (OwN.sl hA hle4 hA4) hle5, hcap, Ow.sl (R := NgRn (ThW u) d) (fun {I J c a} h k => ngle hu32 hp h k) hB (PH.le_trans hle4 hle5) hB5⟩
end Go.Proofs.YtfaclfkpnmcmlaaGreatDoor
end
