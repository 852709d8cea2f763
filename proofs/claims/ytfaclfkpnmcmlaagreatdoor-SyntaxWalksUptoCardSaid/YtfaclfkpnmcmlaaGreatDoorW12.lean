import Derived.Test.YtfaclfkpnmcmlaaGreatDoorW11
set_option maxHeartbeats 20000000
set_option linter.all false
section
namespace Go.Proofs.YtfaclfkpnmcmlaaGreatDoor
open Go Go.Sx Dg Syn
theorem goes17 : Goes Tryz.prog 17 := ⟨_, Tryz.func17, rfl, rfl⟩
theorem un4w : Tryz.prog.underlying 4 = some .bool := by kernel_rfl
def wlR (vp a1 a2 b1 b2 : Value) (ub qb nb cb t : Nat) : St := ⟨dn 251 [(2, .v vp), (6, .p 6 0), (7, .v (pt ub)), (9, .p 9 0), (10, .p 10 0), (15, .v (pt qb)), (16, .v (pt nb)), (t, .v (.func (.func 102) #[] #[pt cb]))], [⟨6, 4, [.bool false]⟩, ⟨9, 36, [a1, a2]⟩, ⟨10, 41, [b1, b2]⟩]⟩
def wlU (vp a1 a2 b1 b2 : Value) (ub qb i : Nat) : St := ⟨dn 251 [(2, .v vp), (6, .p 6 0), (7, .v (pt ub)), (9, .p 9 0), (10, .p 10 0), (15, .v (pt qb)), (19, .v (iv i))], [⟨6, 4, [.bool false]⟩, ⟨9, 36, [a1, a2]⟩, ⟨10, 41, [b1, b2]⟩]⟩
def wlT (vp a1 a2 b1 b2 c1 c2 d1 d2 : Value) (u : Nat) (x : Nat × Bool) : St := ⟨dn 251 [(2, .v vp), (6, .p 6 0), (7, .p 7 0), (9, .p 9 0), (10, .p 10 0), (11, .p 11 0), (12, .p 12 0), (13, .v (.bool x.2)), (14, .v (iv x.1))], [⟨6, 4, [.bool false]⟩, ⟨7, 23, [.int .u32 u]⟩, ⟨9, 36, [a1, a2]⟩, ⟨10, 41, [b1, b2]⟩, ⟨11, 36, [c1, c2]⟩, ⟨12, 41, [d1, d2]⟩]⟩
theorem atW_sz : ∀ (l : List Nd) (zs : List Int) {n : Nd}, atW l zs = some n → szL n.kids < szL l
  | _, [], _, h => by unfold atW at h; cases h
  | l, z :: ps, n, h => by
    unfold atW at h
    split at h
    · split at h
      · cases h
      · rename_i m hm
        have hsz := szL_mem (List.mem_of_getElem? hm)
        cases ps with
        | nil => cases h; omega
        | cons y qs => have := atW_sz m.kids (y :: qs) h; omega
    · cases h
theorem walksLaw_c {I : PH} {d : Nat} {kx nx ky ny vp : Value} {x y : Sm} {zs : List Int} (hV : VarsIn I) (hx : SmR d I [kx, nx] x) (hy : SmR d I [ky, ny] y) (hP : SlZ I vp zs) (hbx : SmB x) (hby : SmB y) (hzl : zs.length < 2 ^ 40) :
    DoesI Tryz.prog 10 #[.agg #[kx, nx], .agg #[ky, ny], vp] I [] fun r _ qs => qs = [] ∧ r = .bool true := by
  obtain ⟨_, _, e, hkx, hnx⟩ := hx
  simp only [List.cons.injEq, and_true] at e
  obtain ⟨rfl, rfl⟩ := e
  obtain ⟨_, _, e, hky, hny⟩ := hy
  simp only [List.cons.injEq, and_true] at e
  obtain ⟨rfl, rfl⟩ := e
  obtain ⟨xka, xkc, rfl, _⟩ := id hkx
  obtain ⟨xna, xnc, rfl, _⟩ := id hnx
  obtain ⟨yka, ykc, rfl, _⟩ := id hky
  obtain ⟨yna, ync, rfl, _⟩ := id hny
  obtain ⟨pa, pc, rfl, _⟩ := id hP
  intro hd
  refine Does_ofD Tryz.func10 rfl (by simp [Tryz.ntmps10]) fun w0 => ?_
  simp only [Tryz.ntmps10]
  (refine RG ?_; simp only [go_sem])
  refine RC_buildSliceI hd (by exact sl97) rfl rfl rfl rfl rfl (by decide) fun sb I1 hd1 hle1 hsb => ?_
  have hS1 : SlSm d I1 (.slice (some ⟨sb, 0, none⟩) 2 2) [x, y] := ⟨_, _, rfl, .inr ⟨sb, 0, _, rfl, (cells_at hsb (by simp [flatP, Value.cells]) (by simp [flatP, Value.cells]) : Cells I1 sb 0 [.slice xka x.kids.length xkc, .slice xna x.notes.length xnc, .slice yka y.kids.length ykc, .slice yna y.notes.length ync]), ⟨[.slice xka x.kids.length xkc, .slice xna x.notes.length xnc], _, rfl, ⟨_, _, rfl, SlW.le hkx hle1, SlNt.le hnx hle1⟩, ⟨[.slice yka y.kids.length ykc, .slice yna y.notes.length ync], _, rfl, ⟨_, _, rfl, SlW.le hky hle1, SlNt.le hny hle1⟩, rfl⟩⟩⟩⟩
  (refine RG ?_; simp only [go_sem])
  refine RC_call rfl rfl rfl rfl goes40 (small_c (most := 5) (SlSm.le hS1 (le_first hd1)) (w := []) ⟨none, 0, rfl, .inl rfl⟩ (fun z hz => by
    rcases List.mem_cons.1 hz with rfl | hz
    · exact hbx
    · rw [List.mem_singleton] at hz; subst hz; exact hby) (by simp) (by simp)) fun v H2 hv => ?_
  obtain ⟨⟨u, ok, rfl, hu, hok⟩, rfl⟩ := hv
  cases ok with
  | false =>
    (refine RG ?_; simp only [go_sem, Bool.not_false])
    refine RC_callI hd1 [] rfl rfl rfl rfl goes17 (by rfl) (ps := []) (F := []) rfl (awake_k (hV.le hle1)) fun v I2 qs hd2 hle2 hq => ?_
    obtain ⟨rfl, rfl⟩ := hq
    simp only [Z3] at hd2 ⊢
    (refine RG ?_; simp only [go_sem])
    exact R_ret_I rfl hd2 (r := [.bool true]) (by (simp only [Tryz.results10, go_sem])) (PH.le_trans hle1 hle2) ⟨rfl, rfl⟩
  | true =>
  obtain ⟨hp5, _, _, _, hsm⟩ := hok rfl
  have hox := hsm x (.head _)
  have hoy := hsm y (.tail _ (.head _))
  have hp8 : pop u 32 ≤ 8 := by omega
  have hu32 : u < 2 ^ 32 := by omega
  cases h38 : decide ((zs.length : Int) > 1000)
  rotate_left
  · (refine RG ?_; simp only [go_sem, Bool.not_true, h38])
    refine RC_callI hd1 [] rfl rfl rfl rfl goes17 (by rfl) (ps := []) (F := []) rfl (awake_k (hV.le hle1)) fun v I2 qs hd2 hle2 hq => ?_
    obtain ⟨rfl, rfl⟩ := hq
    simp only [Z3] at hd2 ⊢
    (refine RG ?_; simp only [go_sem])
    exact R_ret_I rfl hd2 (r := [.bool true]) (by (simp only [Tryz.results10, go_sem])) (PH.le_trans hle1 hle2) ⟨rfl, rfl⟩
  (refine RG ?_; simp only [go_sem, Bool.not_true, h38])
  refine RC_callI hd1 [] rfl rfl rfl rfl goes41 (by rfl) (ps := []) (F := []) rfl (tree_c hu hp8 (SlW.le hkx hle1) (SlNt.le hnx hle1) hox) fun v I2 qs hd2 hle2 hq => ?_
  obtain ⟨rfl, va, vb, rfl, hTa, hTb⟩ := hq
  simp only [Z3] at hd2 ⊢
  have hXk : szL (trN x).kids < 500 := Nat.lt_of_le_of_lt (szL_nd x.kids) hox.1
  have hXd : (trN x).diags.length < 500 := by show (x.notes.map dgN).length < 500; rw [List.length_map]; exact hox.2.1
  obtain ⟨X, hX⟩ : ∃ X, trN x = X := ⟨_, rfl⟩
  rw [hX] at hTa hTb hXk hXd
  have hTa0 := hTa
  have hTb0 := hTb
  obtain ⟨_, _, rfl, hak, hakc, had, hadc⟩ := hTa
  obtain ⟨aka, akc, rfl, _⟩ := id hak
  obtain ⟨ada, adc, rfl, _⟩ := id had
  obtain ⟨_, _, db, rfl, hbk, hbd⟩ := hTb
  obtain ⟨bka, bkc, rfl, _⟩ := id hbk
  obtain ⟨bda, bdc, rfl, _⟩ := id hbd
  (refine RG ?_; simp only [go_sem])
  refine RC_callI hd2 [] rfl rfl rfl rfl goes41 (by rfl) (ps := []) (F := []) rfl (tree_c hu hp8 (SlW.le hky (PH.le_trans hle1 hle2)) (SlNt.le hny (PH.le_trans hle1 hle2)) hoy) fun v I3 qs hd3 hle3 hq => ?_
  obtain ⟨rfl, va, vb, rfl, hTc, hTd⟩ := hq
  simp only [Z3] at hd3 ⊢
  have hYd : (trN y).diags.length < 500 := by show (y.notes.map dgN).length < 500; rw [List.length_map]; exact hoy.2.1
  obtain ⟨Y, hY⟩ : ∃ Y, trN y = Y := ⟨_, rfl⟩
  rw [hY] at hTc hTd hYd
  have hTc0 := hTc
  obtain ⟨_, _, rfl, hck, hckc, hcd, hcdc⟩ := hTc
  obtain ⟨cka, ckc, rfl, _⟩ := id hck
  obtain ⟨cda, cdc, rfl, _⟩ := id hcd
  obtain ⟨_, _, dd, rfl, hdk, hdd⟩ := hTd
  obtain ⟨dka, dkc, rfl, _⟩ := id hdk
  obtain ⟨dda, ddc, rfl, _⟩ := id hdd
  have hbk3 := SlG.le hu32 hp8 hbk hle3
  have hbd3 : Sl (DgrR (ThW u)) I3 (.slice bda X.diags.length bdc) X.diags := Sl.le (R := DgrR (ThW u)) (fun {I J c a} h k => DgrR.le hu32 hp8 h k) hbd hle3
  apply RC_fan (fun b => wlT (.slice pa zs.length pc) (.slice aka X.kids.length akc) (.slice ada X.diags.length adc) (.slice bka X.kids.length bkc) (.slice bda X.diags.length bdc) (.slice cka Y.kids.length ckc) (.slice cda Y.diags.length cdc) (.slice dka Y.kids.length dkc) (.slice dda Y.diags.length ddc) u (0, b)) (fun b H => H = U [I3] ∧ (b = true ↔ X.kids = Y.kids ∧ X.diags.length = Y.diags.length))
  · intro hg
    cases h59 : ((X.diags.length : Int) == (Y.diags.length : Int))
    · (refine RG ?_; simp only [go_sem, h59])
      exact hg false _ _ ⟨rfl, fun h => (by cases h), fun h => by rw [h.2] at h59; simp at h59⟩ (subT_dn (by simp only [go_sem, List.append_nil, iv])) (by simp only [go_sem, List.append_nil, wlT])
    · have hln : X.diags.length = Y.diags.length := by have := eq_of_beq h59; omega
      (refine RG ?_; simp only [go_sem, h59])
      refine RC_call rfl rfl rfl rfl goes42 (sameNodes_c hu32 hp8 (szL X.kids + 1) db dd (by omega) (SlG.le hu32 hp8 hbk3 (le_first hd3)) (SlG.le hu32 hp8 hdk (le_first hd3)) (by omega)) fun v H2 hv => ?_
      obtain ⟨⟨b, rfl, hb⟩, rfl⟩ := hv
      (refine RG ?_; simp only [go_sem])
      exact hg b _ _ ⟨rfl, fun h => ⟨hb.1 h, hln⟩, fun h => hb.2 h.1⟩ (subT_dn (by simp only [go_sem, List.append_nil, iv])) (by simp only [go_sem, List.append_nil, wlT])
  rintro b0 H ⟨rfl, hb0⟩
  apply RC_loopX (fun (z : Nat × Bool) => X.diags.length - z.1) (wlT (.slice pa zs.length pc) (.slice aka X.kids.length akc) (.slice ada X.diags.length adc) (.slice bka X.kids.length bkc) (.slice bda X.diags.length bdc) (.slice cka Y.kids.length ckc) (.slice cda Y.diags.length cdc) (.slice dka Y.kids.length dkc) (.slice dda Y.diags.length ddc) u)
    (fun z H => H = U [I3] ∧ z.1 ≤ X.diags.length ∧ (z.2 = true ↔ X.kids = Y.kids ∧ X.diags.length = Y.diags.length ∧ X.diags.take z.1 = Y.diags.take z.1)) (fun z H => H = U [I3] ∧ (z.2 = true ↔ X.kids = Y.kids ∧ X.diags = Y.diags)) (0, b0)
  · exact (subT_dn (by simp only [go_sem, List.append_nil, iv]))
  · exact (by simp only [go_sem, List.append_nil, wlT])
  · exact ⟨rfl, Nat.zero_le _, by rw [hb0]; simp⟩
  · rintro ⟨i, b⟩ H ⟨rfl, hi, hb⟩ hnext hexit
    simp only at hi hb
    simp only [wlT]
    have stop : ¬ (i < X.diags.length ∧ b = true) → (b = true ↔ X.kids = Y.kids ∧ X.diags = Y.diags) := fun hs => by
      constructor
      · intro h
        obtain ⟨h1, h2, h3⟩ := hb.1 h
        have : i = X.diags.length := by
          rcases Nat.lt_or_ge i X.diags.length with h4 | h4
          · exact absurd ⟨h4, h⟩ hs
          · omega
        rw [this, List.take_length, h2, List.take_length] at h3
        exact ⟨h1, h3⟩
      · rintro ⟨h1, h2⟩
        exact hb.2 ⟨h1, by rw [h2], by rw [h2]⟩
    rcases Nat.lt_or_ge i X.diags.length with hlt | hge
    rotate_left
    · have h71 : decide ((i : Int) < (X.diags.length : Int)) = false := decide_eq_false (by omega)
      (refine RC_go 14 ?_; simp only [go_sem, iv, h71])
      exact hexit (i, b) _ _ (subT_dn (by simp only [go_sem, List.append_nil, iv])) (by simp only [go_sem, List.append_nil, wlT]) ⟨rfl, stop fun h => by omega⟩
    have h71 : decide ((i : Int) < (X.diags.length : Int)) = true := decide_eq_true (by omega)
    cases b with
    | false =>
      (refine RC_go 14 ?_; simp only [go_sem, iv, h71])
      exact hexit (i, false) _ _ (subT_dn (by simp only [go_sem, List.append_nil, iv])) (by simp only [go_sem, List.append_nil, wlT]) ⟨rfl, stop fun h => by cases h.2⟩
    | true =>
    obtain ⟨e1k, e2l, e3t⟩ := hb.1 rfl
    have e1 : IntKind.i64.wrap ((i : Int) + 1) = ((i + 1 : Nat) : Int) := by rw [← wrap64 (n := i + 1) (by omega)]; congr 1
    obtain ⟨n, hn⟩ : ∃ n, X.diags[i]? = some n := ⟨_, List.getElem?_eq_getElem hlt⟩
    obtain ⟨m, hm⟩ : ∃ m, Y.diags[i]? = some m := ⟨_, List.getElem?_eq_getElem (by omega)⟩
    obtain ⟨g1, o1, cx, rfl, ⟨wx, rfl, hwx⟩, hcx⟩ := Sl.load (R := DgrR (ThW u)) (fun {I} c a h => DgrR.len (I := I) c a h) hbd3 hn
    obtain ⟨g2, o2, cy, rfl, ⟨wy, rfl, hwy⟩, hcy⟩ := Sl.load (R := DgrR (ThW u)) (fun {I} c a h => DgrR.len (I := I) c a h) hdd hm
    obtain ⟨lx, ly, hlx, hly, hlxy, hln⟩ := thW_two hu32 hwx hwy
    obtain ⟨xwa, xwc, rfl, _⟩ := id hlx
    obtain ⟨ywa, ywc, rfl, _⟩ := id hly
    have hl256 : lx.length < 2 ^ 60 := Nat.lt_of_le_of_lt hln (Nat.lt_of_le_of_lt (Nat.pow_le_pow_right (by omega) hp8) (by decide))
    have x0 := hcx.get (i := 0) rfl
    have x1 := hcx.get (i := 1) rfl
    have x2 := hcx.get (i := 2) rfl
    have y0 := hcy.get (i := 0) rfl
    have y1 := hcy.get (i := 1) rfl
    have y2 := hcy.get (i := 2) rfl
    have hnx : ∀ b2 : Bool, (b2 = true ↔ n = m) → (b2 = true ↔ X.kids = Y.kids ∧ X.diags.length = Y.diags.length ∧ X.diags.take (i + 1) = Y.diags.take (i + 1)) := fun b2 h2 => by
      rw [take_snoc' hn, take_snoc' hm, e3t]
      constructor
      · intro h; exact ⟨e1k, e2l, by rw [h2.1 h]⟩
      · rintro ⟨_, _, h⟩
        have := List.append_cancel_left h
        exact h2.2 (by simpa using this)
    (refine RG ?_; simp only [go_sem, iv, h71])
    refine R_drawn mixed [0, 1, 2, 3, 4, 5, 6, 7, 8, 9, 10, 11, 12, 13, 14, 15, 16, 17, 18, 19, 20, 21, 22, 23, 24, 25, 26, 27, 28, 29, 30, 31, 32, 33, 34, 35, 36, 37, 38, 39, 40, 41, 42, 43] [5, 11, 19, 25, 34, 40] [] (by kernel_rfl) rfl ?_
    (refine RD_go ?_; simp only [go_sem, iv])
    try refine ⟨by omega, ?_⟩
    refine RD_load (l := [.int .u8 n.code]) rfl rfl rfl rfl (cellsU hd3 (.head _) (by simpa using x0)) (.inr ⟨ag78, rfl⟩) ?_
    (refine RD_go ?_; simp only [go_sem, iv])
    try refine ⟨by omega, ?_⟩
    refine RD_load (l := [.int .u8 m.code]) rfl rfl rfl rfl (cellsU hd3 (.head _) (by simpa using y0)) (.inr ⟨ag78, rfl⟩) ?_
    cases f1 : ((n.code : Int) == (m.code : Int))
    · (refine RD_go ?_; simp only [go_sem, iv, f1])
      refine RD_nil ?_
      (refine RG ?_; simp only [go_sem, iv, e1])
      exact hnext (i + 1, false) _ _ (by simp only; omega) (subT_dn (by simp only [go_sem, List.append_nil, iv])) (by simp only [go_sem, List.append_nil, wlT]) ⟨rfl, hlt, hnx false ⟨fun h => (by cases h), fun h => by subst h; simp at f1⟩⟩
    (refine RD_go ?_; simp only [go_sem, iv, f1])
    try refine ⟨by omega, ?_⟩
    refine RD_load (l := [.int .i64 n.tok]) rfl rfl rfl rfl (cellsU hd3 (.head _) (by simpa using x1)) (.inr ⟨ag3, rfl⟩) ?_
    (refine RD_go ?_; simp only [go_sem, iv])
    try refine ⟨by omega, ?_⟩
    refine RD_load (l := [.int .i64 m.tok]) rfl rfl rfl rfl (cellsU hd3 (.head _) (by simpa using y1)) (.inr ⟨ag3, rfl⟩) ?_
    cases f2 : (n.tok == m.tok)
    · (refine RD_go ?_; simp only [go_sem, iv, f2])
      refine RD_nil ?_
      (refine RG ?_; simp only [go_sem, iv, e1])
      exact hnext (i + 1, false) _ _ (by simp only; omega) (subT_dn (by simp only [go_sem, List.append_nil, iv])) (by simp only [go_sem, List.append_nil, wlT]) ⟨rfl, hlt, hnx false ⟨fun h => (by cases h), fun h => by subst h; simp at f2⟩⟩
    (refine RD_go ?_; simp only [go_sem, iv, f2])
    try refine ⟨by omega, ?_⟩
    refine RD_load (l := [.slice xwa lx.length xwc]) rfl rfl rfl rfl (cellsU hd3 (.head _) (by simpa using x2)) (.inr ⟨ag43, rfl⟩) ?_
    (refine RD_go ?_; simp only [go_sem, iv])
    try refine ⟨by omega, ?_⟩
    refine RD_load (l := [.slice ywa ly.length ywc]) rfl rfl rfl rfl (cellsU hd3 (.head _) (by simpa using y2)) (.inr ⟨ag43, rfl⟩) ?_
    (refine RD_go ?_; simp only [go_sem, iv])
    refine RD_call rfl rfl rfl rfl goes43 (configsS_c (SlU.le hlx (le_first hd3)) (SlU.le hly (le_first hd3)) hl256) fun v H2 hv => ?_
    obtain ⟨⟨bc, rfl, hbc⟩, rfl⟩ := hv
    refine ⟨Keeps.le (PH.le_refl _), ?_⟩
    (refine RD_go ?_; simp only [go_sem, iv])
    refine RD_nil ?_
    (refine RG ?_; simp only [go_sem, iv, e1])
    refine hnext (i + 1, bc) _ _ (by simp only; omega) (subT_dn (by simp only [go_sem, List.append_nil, iv])) (by simp only [go_sem, List.append_nil, wlT]) ⟨rfl, hlt, hnx bc ⟨fun h => ?_, fun h => by subst h; exact hbc.2 (hlxy.2 rfl)⟩⟩
    have q1 : n.code = m.code := by have := eq_of_beq f1; omega
    have q2 : n.tok = m.tok := eq_of_beq f2
    have q3 := hlxy.1 (hbc.1 h)
    cases n; cases m
    simp only at q1 q2 q3
    subst_vars; rfl
  rintro ⟨i0, b1⟩ H ⟨rfl, hb1⟩
  simp only at hb1
  simp only [wlT]
  (refine RG ?_; simp only [go_sem, iv])
  refine RC_callI hd3 [] rfl rfl rfl rfl goes35 (by rfl) (ps := []) (F := []) rfl (sameX_c (TrR.le hTa0 hle3) hTc0 (by unfold maxL; omega) (by unfold maxL; omega)) fun v I4 qs hd4 hle4 hq => ?_
  obtain ⟨rfl, bs, rfl, hbs⟩ := hq
  simp only [Z3] at hd4 ⊢
  have hbb : bs = b1 := by
    cases bs
    · cases b1
      · rfl
      · exact absurd (hbs.2 (hb1.1 rfl)) (by decide)
    · cases b1
      · exact absurd (hb1.2 (hbs.1 rfl)) (by decide)
      · rfl
  subst hbb
  (refine RG ?_; simp only [go_sem])
  refine RC_neBo rfl rfl rfl rfl un4w ?_
  rw [show (!(bs == bs)) = false by cases bs <;> rfl]
  have k24 := PH.le_trans hle3 hle4
  (refine RG ?_; simp only [go_sem])
  refine RC_callI hd4 [] rfl rfl rfl rfl goes35 (by rfl) (ps := []) (F := []) rfl (sameX_c (TrR.le hTa0 k24) (TrR.le hTa0 k24) (by unfold maxL; omega) (by unfold maxL; omega)) fun v I5 qs hd5 hle5 hq => ?_
  obtain ⟨rfl, b2, rfl, hb2⟩ := hq
  have hb2 := hb2.2 ⟨rfl, rfl⟩
  subst hb2
  simp only [Z3] at hd5 ⊢
  have k25 := PH.le_trans k24 hle5
  (refine RG ?_; simp only [go_sem, Bool.not_true])
  refine RC_callI hd5 [] rfl rfl rfl rfl goes44 (by rfl) (ps := []) (F := []) rfl (walkT_c hu32 hp8 (TgR.le hu32 hp8 hTb0 k25) (by omega)) fun v I6 qs hd6 hle6 hq => ?_
  obtain ⟨rfl, hW⟩ := hq
  simp only [Z3] at hd6 ⊢
  have hWl : (wkL [] 0 X.kids).length = szL X.kids := wkL_len _ _ _
  obtain ⟨wa, wc, rfl, _⟩ := id hW
  have k26 := PH.le_trans k25 hle6
  (refine RG ?_; simp only [go_sem])
  refine RC_callI hd6 [] rfl rfl rfl rfl goes45 (by rfl) (ps := []) (F := []) rfl (walk_it) fun v I7 qs hd7 hle7 hq => ?_
  obtain ⟨rfl, cb, rfl, hcb⟩ := hq
  simp only [Z3] at hd7 ⊢
  (refine RG ?_; simp only [go_sem])
  refine RC_pubI 7 hd7 rfl fun ub hd8 => ?_
  refine RC_freeze (c := .st _) hd8 fun I8 hd9 hle8 hub => ?_
  refine RC_pubI 15 hd9 rfl fun qb hd10 => ?_
  refine RC_freeze (c := .st _) hd10 fun I9 hd11 hle9 hqb => ?_
  refine RC_pubI 16 hd11 rfl fun nb hd12 => ?_
  (refine RG ?_; simp only [go_sem, pubT, List.map])
  have k69 := PH.le_trans hle7 (PH.le_trans hle8 hle9)
  have k29 := PH.le_trans k26 k69
  have hcu : Cells I9 ub 0 [.int .u32 u] := ((cells_sg (by simp) rfl : Cells (sg ub (.cells [Value.int .u32 (u : Int)].toArray 23 (0, 0))) ub 0 [.int .u32 u]).le hub).le hle9
  have hcw : Cells I9 qb 0 [.slice wa (wkL [] 0 X.kids).length wc] := (cells_sg (by simp) rfl : Cells (sg qb (.cells [Value.slice wa (wkL [] 0 X.kids).length wc].toArray 104 (0, 0))) qb 0 [.slice wa (wkL [] 0 X.kids).length wc]).le hqb
  have hcb9 := hcb.le (PH.le_trans hle8 hle9)
  have hW9 : Sl (StepR u) I9 (.slice wa (wkL [] 0 X.kids).length wc) (wkL [] 0 X.kids) := Sl.le (R := StepR u) (fun {I J c a} h k => StepR.le hu32 hp8 h k) hW k69
  have hin : ∀ {k : Nat} {p : List Nat} {n : Nd}, (wkL [] 0 X.kids)[k]? = some (p, n) → k < szL X.kids ∧ p ≠ [] ∧ atW X.kids (p.map Int.ofNat) = some n ∧ p.length ≤ szL X.kids ∧ szL n.kids < szL X.kids := fun {k p n} h => by
    obtain ⟨⟨r, e, hr, hat⟩, h2, h3⟩ := wk_at (szL X.kids + 1) X.kids [] X.kids 0 (by omega) (fun i => by rw [Nat.zero_add]) (List.mem_of_getElem? h)
    rw [List.nil_append] at e
    subst e
    exact ⟨by have := (List.getElem?_eq_some_iff.1 h).1; omega, hr, hat, by simpa using h2, h3⟩
  have hpl : ∀ x ∈ wkL [] 0 X.kids, x.1.length < 2 ^ 40 ∧ szL x.2.kids < 2 ^ 36 := fun z hz => by
    obtain ⟨k, hk⟩ := List.mem_iff_getElem?.1 hz
    obtain ⟨_, _, _, h4, h5⟩ := hin (p := z.1) (n := z.2) hk
    exact ⟨by omega, by omega⟩
  refine RC_sub (σ' := wlR (.slice pa zs.length pc) (.slice aka X.kids.length akc) (.slice ada X.diags.length adc) (.slice bka X.kids.length bkc) (.slice bda X.diags.length bdc) ub qb nb cb 134) (subT_dn (by simp only [go_sem, List.append_nil, pt])) (by simp only [go_sem, List.append_nil, wlR]) ?_
  simp only [wlR]
  refine RC_range hd12 [0] rfl rfl goes102 (by rfl) (S0 := [nS nb 0]) (Fr := []) rfl (Ψ := fun j _ S2 => S2 = [nS nb (finW (szL X.kids) (szL X.kids))] ∧ j = rJ (szL X.kids) .ret (finW (szL X.kids) (szL X.kids))) (fun yy D T hT => hcall_of .ret (nS_dom nb) fun hf => walk1_y (yc1_of hf fun {J A k p n pv cx} hJ hks hw hp hn => ?_) (rP_dom (nS_dom nb)) hcb9 (SlN.le hak k29) hakc (by omega) hpl) (fun j I10 S2 hd13 hle10 ⟨e1, e2⟩ => ?_)
  · have hkt : KnT (dn 251 [(7, .v (pt ub)), (15, .v (pt qb)), (16, .v (pt nb))]) T := KnT.sub (by rw [unP_dn]; exact subT_dn (by simp only [List.map, unP, SubA, getA]; simp)) hT
    refine YldI_round Tryz.func10 rfl hkt fun w1 hd13 => ?_
    simp only [setPs, setT_dn, List.zip_cons_cons, List.zip_nil_right]
    obtain ⟨hkN, hp0, hat, hpN, hnN⟩ := hin hw
    obtain ⟨vk, na, nk, ec, hrep, hkids, hcap⟩ := hn.shape
    have hn0 := hn
    subst ec
    obtain ⟨ma, mc, rfl, _⟩ := id hkids
    obtain ⟨q0, hq0⟩ : ∃ q0, p[0]? = some q0 := by
      cases p with
      | nil => exact absurd rfl hp0
      | cons q0 p => exact ⟨q0, rfl⟩
    obtain ⟨g, cap, cur, c, ev, eA, c1, c2, _, _, _, _⟩ := hp.elem (fun {I} c a h => AtR.len (I := I) c a h) (fun {I J c a} h k => h) hq0
    have hW1 := Sl.le (R := StepR u) (fun {I J c a} h k => StepR.le hu32 hp8 h k) hW9 hJ
    obtain ⟨wb, wo, wcs, rfl, ⟨vp2, cn, dn2, rfl, hvp2, hcn⟩, hwcell⟩ := Sl.load (R := StepR u) (fun {I} c a h => StepR.len (I := I) c a h) hW1 hw
    have hcn0 := hcn
    cases dn2 with
    | zero => exact hcn.elim
    | succ dn2 =>
    obtain ⟨nk2, nw, rfl, hnw, hnk2⟩ := hcn
    obtain ⟨sa, sc, rfl, _⟩ := id hvp2
    obtain ⟨ta, tc, rfl, _⟩ := id hnk2
    obtain ⟨oa, on, oc, rfl⟩ := (thW_ok hu32 hp8).sh hnw
    have hw0 := hwcell.get (i := 0) rfl
    have hw1 := hwcell.sub 1 6 (by simp)
    simp only [List.drop_succ_cons, List.drop_zero, List.take_succ_cons, List.take_zero] at hw1
    have h140 : decide ((k : Int) ≥ ((wkL [] 0 X.kids).length : Int)) = false := decide_eq_false (by omega)
    have h164 : decide ((p.length : Int) > 0) = true := decide_eq_true (by have := (List.getElem?_eq_some_iff.1 hq0).1; omega)
    have hpl1 := (List.getElem?_eq_some_iff.1 hq0).1
    have e1 : IntKind.i64.wrap ((k : Int) + 1) = ((k + 1 : Nat) : Int) := by rw [← wrap64 (n := k + 1) (by omega)]; congr 1
    have hcu := hcu.le hJ
    have hcw := hcw.le hJ
    subst eA
    subst ev
    (refine RG ?_; simp only [go_sem, iv, sD, rD])
    refine RC_begin rfl hd13 fun hd14 => ?_
    (refine RG ?_; simp only [go_sem, iv, sD, rD])
    have hp2 := Ow.sl (R := AtR) (fun {I J c a} h k => h) hp (le_first hd14) (le_U hd14 (.tail _ (.tail _ (.head _))))
    have hnc : Cells (U (J :: _ :: _ :: [nS nb k])) nb 0 [iv k] := (nS_cell nb k).le (le_U hd14 (.tail _ (.tail _ (.tail _ (.head _)))))
    refine R_drawn mixed [0, 1, 2, 3, 4, 5, 6, 7, 8, 9, 10, 11, 12, 13, 14, 15, 16, 17, 18, 19, 20, 21, 22, 23, 24] [0, 1, 6, 7, 10, 16, 17, 20, 21] [] (by kernel_rfl) rfl ?_
    (refine RD_go ?_; simp only [go_sem, pt])
    refine RD_load (l := [iv k]) rfl rfl rfl rfl (by simpa using hnc) (.inr ⟨ag3, rfl⟩) ?_
    (refine RD_go ?_; simp only [go_sem, pt])
    refine RD_load (l := [.slice (some ⟨wb, wo, none⟩) (wkL [] 0 X.kids).length wc]) rfl rfl rfl rfl (cellsU hd14 (.head _) (by simpa using hcw)) (.inr ⟨ag104, rfl⟩) ?_
    (refine RD_go ?_; simp only [go_sem, pt, iv, h140])
    refine RD_load (l := [.slice (some ⟨wb, wo, none⟩) (wkL [] 0 X.kids).length wc]) rfl rfl rfl rfl (cellsU hd14 (.head _) (by simpa using hcw)) (.inr ⟨ag104, rfl⟩) ?_
    (refine RD_go ?_; simp only [go_sem, pt])
    refine RD_load (l := [iv k]) rfl rfl rfl rfl (by simpa using hnc) (.inr ⟨ag3, rfl⟩) ?_
    (refine RD_go ?_; simp only [go_sem, pt, iv])
    try refine ⟨by omega, ?_⟩
    refine RD_load (l := [.slice sa p.length sc]) rfl rfl rfl rfl (cellsU hd14 (.head _) (by simpa using hw0)) (.inr ⟨ag81, rfl⟩) ?_
    (refine RD_go ?_; simp only [go_sem, pt, iv])
    refine RD_call rfl rfl rfl rfl goes46 (ints_c hp2 (SlA.le hvp2 (le_first hd14)) (by omega)) fun v H2 hv => ?_
    obtain ⟨rfl, rfl⟩ := hv
    refine ⟨Keeps.le (PH.le_refl _), ?_⟩
    (refine RD_go ?_; simp only [go_sem, pt, iv, Bool.not_true])
    refine RD_load (l := [.slice (some ⟨wb, wo, none⟩) (wkL [] 0 X.kids).length wc]) rfl rfl rfl rfl (cellsU hd14 (.head _) (by simpa using hcw)) (.inr ⟨ag104, rfl⟩) ?_
    (refine RD_go ?_; simp only [go_sem, pt])
    refine RD_load (l := [iv k]) rfl rfl rfl rfl (by simpa using hnc) (.inr ⟨ag3, rfl⟩) ?_
    (refine RD_go ?_; simp only [go_sem, pt, iv])
    try refine ⟨by omega, ?_⟩
    refine RD_load (l := [.int .u8 n.kind, .string ⟨⟨n.text⟩⟩, .int .i64 n.tok, .int .i64 n.slot, .slice ta n.kids.length tc, .slice oa on oc]) (v := .agg #[.int .u8 n.kind, .string ⟨⟨n.text⟩⟩, .int .i64 n.tok, .int .i64 n.slot, .slice ta n.kids.length tc, .slice oa on oc]) rfl rfl rfl rfl (cellsU hd14 (.head _) (by simpa using hw1)) (.inl ⟨ag67, rfl⟩) ?_
    (refine RD_go ?_; simp only [go_sem, pt, iv])
    refine RD_load (l := [.int .u32 u]) rfl rfl rfl rfl (cellsU hd14 (.head _) (by simpa using hcu)) (.inr ⟨ag23, rfl⟩) ?_
    (refine RD_go ?_; simp only [go_sem, pt, iv, sD, rD])
    refine RD_callI hd14 [0, 1, 2] rfl (fun h => by cases h) rfl rfl rfl rfl goes31 (by rfl) (ps := []) (F := [_, _, _]) rfl (node_r (thW_ok hu32 hp8) (by omega) hn0 hcn0) fun v I15 qs hd15 hle15 hq => ?_
    obtain ⟨rfl, rfl⟩ := hq
    simp only [Z3] at hd15 ⊢
    (refine RD_go ?_; simp only [go_sem, pt, iv, Bool.not_true])
    refine RD_nil ?_
    (refine RG ?_; simp only [go_sem, pt, iv, h164])
    try refine ⟨by omega, ?_⟩
    (refine RC_parts hd15 [1, 0, 2] rfl fun hd16 => ?_; simp only [Z4] at hd16 ⊢)
    refine RC_storeI hd16 rfl rfl rfl rfl rfl (by exact sz3) (by simp; omega) fun hd17 => ?_
    (refine RG ?_; simp only [go_sem, pt, iv])
    refine RC_load (l := [iv k]) rfl rfl rfl ((nS_cell nb k).le (le_U hd17 (.tail _ (.tail _ (.tail _ (.head _)))))) (.inr ⟨ag3, rfl⟩) ?_
    (refine RG ?_; simp only [go_sem, pt, iv, e1])
    (refine RC_parts hd17 [2, 0, 1] rfl fun hd18 => ?_; simp only [Z4] at hd18 ⊢)
    refine RC_storeI hd18 rfl rfl rfl rfl rfl (by exact sz3) (by simp) fun hd19 => ?_
    (refine RG ?_; simp only [go_sem, pt])
    (refine RC_parts hd19 [2, 1, 0] rfl fun hd20 => ?_; simp only [Z4] at hd20 ⊢)
    exact RC_rend none rfl rfl ⟨I15, [_, nS nb (k + 1)], rfl, hd20, hle15, by rw [show decide (k ≠ szL X.kids) = true from decide_eq_true (by omega)]; rfl, _, by rw [rJ_le (by omega)]⟩
  obtain ⟨N, hN⟩ : ∃ N, szL X.kids = N := ⟨_, rfl⟩
  have hfin : finW (szL X.kids) (szL X.kids) = N := by rw [hN]; unfold finW; rw [if_neg (by omega)]
  rw [hfin] at e1 e2
  rw [rJ_le (by omega)] at e2
  subst e1
  subst e2
  simp only [List.append_nil, Option.map_none, Option.toList_none, List.nil_append] at hd13 ⊢
  have k210 := PH.le_trans k29 hle10
  have hcu := hcu.le hle10
  have hcw := hcw.le hle10
  have h172 : ((N : Int) != ((wkL [] 0 X.kids).length : Int)) = false := by rw [hWl, hN]; simp
  (refine RG ?_; simp only [go_sem, pt])
  refine RC_load (l := [iv N]) rfl rfl rfl ((nS_cell nb N).le (le_U hd13 (.tail _ (.head _)))) (.inr ⟨ag3, rfl⟩) ?_
  (refine RG ?_; simp only [go_sem, pt])
  refine RC_load (l := [.slice wa (wkL [] 0 X.kids).length wc]) rfl rfl rfl (cellsU hd13 (.head _) (by simpa using hcw)) (.inr ⟨ag104, rfl⟩) ?_
  (refine RG ?_; simp only [go_sem, pt, iv, h172])
  refine RC_storeI hd13 rfl rfl rfl rfl rfl (by exact sz3) (by simp) fun hd14 => ?_
  (refine RG ?_; simp only [go_sem, pt])
  refine RC_callI hd14 [0] rfl rfl rfl rfl goes45 (by rfl) (ps := []) (F := [nS nb 0]) rfl (walk_it) fun v I11 qs hd15 hle11 hq => ?_
  obtain ⟨rfl, cb2, rfl, hcb2⟩ := hq
  simp only [Z3] at hd15 ⊢
  (refine RG ?_; simp only [go_sem, pt])
  refine RC_sub (σ' := wlR (.slice pa zs.length pc) (.slice aka X.kids.length akc) (.slice ada X.diags.length adc) (.slice bka X.kids.length bkc) (.slice bda X.diags.length bdc) ub qb nb cb2 174) (subT_dn (by simp only [go_sem, List.append_nil, pt])) (by simp only [go_sem, List.append_nil, wlR]) ?_
  simp only [wlR]
  refine RC_range hd15 [0] rfl rfl goes102 (by rfl) (S0 := [nS nb 0]) (Fr := []) rfl (Ψ := fun j _ S2 => S2 = [nS nb (finW 1 (szL X.kids))] ∧ j = rJ 1 (.exit 4) (finW 1 (szL X.kids))) (fun yy D T hT => hcall_of (.exit 4) (nS_dom nb) fun hf => walk1_y (yc1_of hf fun {J A k p n pv cx} hJ hks hw hp hn => ?_) (rP_dom (nS_dom nb)) hcb2 (SlN.le hak (PH.le_trans k210 hle11)) hakc (by omega) hpl) (fun j I12 S2 hd16 hle12 ⟨e1, e2⟩ => ?_)
  · have hkt : KnT (dn 251 [(16, .v (pt nb))]) T := KnT.sub (by rw [unP_dn]; exact subT_dn (by simp only [List.map, unP, SubA, getA]; simp)) hT
    refine YldI_round Tryz.func10 rfl hkt fun w1 hd16 => ?_
    simp only [setPs, setT_dn, List.zip_cons_cons, List.zip_nil_right]
    have e1 : IntKind.i64.wrap ((k : Int) + 1) = ((k + 1 : Nat) : Int) := by rw [← wrap64 (n := k + 1) (by omega)]; congr 1
    (refine RG ?_; simp only [go_sem])
    refine RC_begin rfl hd16 fun hd17 => ?_
    (refine RG ?_; simp only [go_sem, pt])
    refine RC_load (l := [iv k]) rfl rfl rfl ((nS_cell nb k).le (le_U hd17 (.tail _ (.tail _ (.tail _ (.head _)))))) (.inr ⟨ag3, rfl⟩) ?_
    (refine RG ?_; simp only [go_sem, pt, iv, e1])
    (refine RC_parts hd17 [2, 0, 1] rfl fun hd18 => ?_; simp only [Z4] at hd18 ⊢)
    refine RC_storeI hd18 rfl rfl rfl rfl rfl (by exact sz3) (by simp) fun hd19 => ?_
    (refine RG ?_; simp only [go_sem, pt])
    refine RC_load (l := [iv (k + 1)]) rfl rfl rfl ((nS_cell nb (k + 1)).le (le_U hd19 (.tail _ (.head _)))) (.inr ⟨ag3, rfl⟩) ?_
    (refine RC_parts hd19 [1, 2, 0] rfl fun hd20 => ?_; simp only [Z4] at hd20 ⊢)
    by_cases hk : k = 1
    · subst hk
      (refine RG ?_; simp only [go_sem, pt, iv, Int.cast_ofNat_Int, show (((1 + 1 : Nat) : Int) == 2) = true from rfl])
      exact RC_rend (some (.exit 4)) rfl ⟨_, rfl, .inr ⟨4, rfl, rfl⟩⟩ ⟨J, [_, nS nb (1 + 1)], rfl, hd20, PH.le_refl _, rfl, _, by rw [rJ_gt]⟩
    · have h180 : (((k + 1 : Nat) : Int) == 2) = false := by
        have : k = 0 := by omega
        subst this; rfl
      (refine RG ?_; simp only [go_sem, pt, iv, h180])
      exact RC_rend none rfl rfl ⟨J, [_, nS nb (k + 1)], rfl, hd20, PH.le_refl _, by rw [show decide (k ≠ 1) = true from decide_eq_true hk]; rfl, _, by rw [rJ_le (by omega)]⟩
  subst e1
  simp only [List.append_nil] at hd16 ⊢
  refine RC_freeze (c := .st _) hd16 fun I13 hd17 hle13 _ => ?_
  have k913 := PH.le_trans hle11 (PH.le_trans hle12 hle13)
  have k213 := PH.le_trans k210 k913
  have hcu := hcu.le k913
  have hcw := hcw.le k913
  apply RC_fan (fun _ : Unit => wlU (.slice pa zs.length pc) (.slice aka X.kids.length akc) (.slice ada X.diags.length adc) (.slice bka X.kids.length bkc) (.slice bda X.diags.length bdc) ub qb 0) (fun _ H => H = U [I13])
  · intro hg
    subst e2
    unfold rJ
    split
    · simp only [Option.map_none, Option.toList_none, List.nil_append]
      (refine RG ?_; simp only [go_sem])
      exact hg () _ _ rfl (subT_dn (by simp only [go_sem, List.append_nil, pt, iv])) (by simp only [go_sem, List.append_nil, wlU])
    · simp only [Option.map_some, Option.toList_some, List.cons_append, List.nil_append]
      (refine RG ?_; simp only [go_sem])
      exact hg () _ _ rfl (subT_dn (by simp only [go_sem, List.append_nil, pt, iv])) (by simp only [go_sem, List.append_nil, wlU])
  rintro _ H rfl
  have hTa13 := TrR.le hTa0 k213
  have hTb13 := TgR.le hu32 hp8 hTb0 k213
  have hW13 := Sl.le (R := StepR u) (fun {I J c a} h k => StepR.le hu32 hp8 h k) hW9 (PH.le_trans hle10 k913)
  have h00 : ((0 : Int) != 0) = false := rfl
  refine RC_loopD (fun i => (wkL [] 0 X.kids).length - i) (wlU (.slice pa zs.length pc) (.slice aka X.kids.length akc) (.slice ada X.diags.length adc) (.slice bka X.kids.length bkc) (.slice bda X.diags.length bdc) ub qb) (fun i H => ∃ J, H = U [J] ∧ Dj [J] ∧ I13.le J ∧ i ≤ (wkL [] 0 X.kids).length) 0 (subT_dn (by simp only [go_sem, List.append_nil, iv])) (by simp only [go_sem, List.append_nil, wlU]) ⟨I13, rfl, hd17, PH.le_refl _, Nat.zero_le _⟩ ?_
  rintro i H ⟨J, rfl, hdJ, hleJ, hi⟩ hnext
  simp only [wlU]
  have hcu := hcu.le hleJ
  have hcw := hcw.le hleJ
  (refine RG ?_; simp only [go_sem, pt])
  refine RC_load (l := [.slice wa (wkL [] 0 X.kids).length wc]) rfl rfl rfl (cellsU hdJ (.head _) (by simpa using hcw)) (.inr ⟨ag104, rfl⟩) ?_
  rcases Nat.lt_or_ge i (wkL [] 0 X.kids).length with hlt | hge
  · have h184 : decide ((i : Int) < ((wkL [] 0 X.kids).length : Int)) = true := decide_eq_true (by omega)
    have e1 : IntKind.i64.wrap ((i : Int) + 1) = ((i + 1 : Nat) : Int) := by rw [← wrap64 (n := i + 1) (by omega)]; congr 1
    obtain ⟨⟨p, n⟩, hw⟩ : ∃ z, (wkL [] 0 X.kids)[i]? = some z := ⟨_, List.getElem?_eq_getElem hlt⟩
    obtain ⟨hkN, hp0, hat, hpN, hnN⟩ := hin hw
    obtain ⟨wb, wo, wcs, rfl, ⟨vp2, cn, dn2, rfl, hvp2, hcn⟩, hwcell⟩ := Sl.load (R := StepR u) (fun {I} c a h => StepR.len (I := I) c a h) (Sl.le (R := StepR u) (fun {I J c a} h k => StepR.le hu32 hp8 h k) hW13 hleJ) hw
    have hcn0 := hcn
    cases dn2 with
    | zero => exact hcn.elim
    | succ dn2 =>
    obtain ⟨nk2, nw, rfl, hnw, hnk2⟩ := hcn
    obtain ⟨sa, sc, rfl, _⟩ := id hvp2
    obtain ⟨ta, tc, rfl, _⟩ := id hnk2
    obtain ⟨oa, on, oc, rfl⟩ := (thW_ok hu32 hp8).sh hnw
    have hw0 := hwcell.get (i := 0) rfl
    have hw1 := hwcell.sub 1 6 (by simp)
    simp only [List.drop_succ_cons, List.drop_zero, List.take_succ_cons, List.take_zero] at hw1
    (refine RG ?_; simp only [go_sem, pt, iv, h184])
    refine R_drawn mixed [10, 0, 1, 2, 3, 4, 5, 6, 7, 8, 9, 11, 12] [1, 5] [] rfl rfl ?_
    (refine RD_go ?_; simp only [go_sem, pt, iv])
    refine RD_load (l := [.slice (some ⟨wb, wo, none⟩) (wkL [] 0 X.kids).length wc]) rfl rfl rfl rfl (cellsU hdJ (.head _) (by simpa using hcw)) (.inr ⟨ag104, rfl⟩) ?_
    (refine RD_go ?_; simp only [go_sem, pt, iv])
    try refine ⟨by omega, ?_⟩
    refine RD_load (l := [.slice sa p.length sc]) rfl rfl rfl rfl (cellsU hdJ (.head _) (by simpa using hw0)) (.inr ⟨ag81, rfl⟩) ?_
    (refine RD_go ?_; simp only [go_sem, pt, iv])
    refine RD_callI hdJ [] rfl (fun h => by cases h) rfl rfl rfl rfl goes47 (by rfl) (ps := []) (F := []) rfl (at_w (TrR.le hTa13 hleJ) (SlA.z hvp2) (by omega) (by simp only [List.length_map]; omega)) fun v I20 qs hd20 hle20 hq => ?_
    obtain ⟨rfl, ⟨hno, _⟩ | ⟨n2, cy, hat2, rfl, hcy⟩⟩ := hq
    · rw [hat] at hno; cases hno
    rw [hat] at hat2
    cases hat2
    simp only [Z3] at hd20 ⊢
    have hcy0 := hcy
    obtain ⟨zk, za, zc, rfl, hzr, hzk, hzc⟩ := hcy.shape
    obtain ⟨ga, gc, rfl, _⟩ := id hzk
    (refine RD_go ?_; simp only [go_sem, pt, iv, sD, rD])
    refine RD_nil ?_
    have hcu := hcu.le hle20
    have hcw := hcw.le hle20
    have hw1 := hw1.le hle20
    (refine RG ?_; simp only [go_sem, pt, iv, sD, rD])
    refine R_drawn mixed [0, 1, 2, 3, 4, 5, 6, 7, 8, 9, 10, 11, 12] [4, 8, 9] [] rfl rfl ?_
    (refine RD_go ?_; simp only [go_sem, pt, iv, h00])
    refine RD_load (l := [.slice (some ⟨wb, wo, none⟩) (wkL [] 0 X.kids).length wc]) rfl rfl rfl rfl (cellsU hd20 (.head _) (by simpa using hcw)) (.inr ⟨ag104, rfl⟩) ?_
    (refine RD_go ?_; simp only [go_sem, pt, iv])
    try refine ⟨by omega, ?_⟩
    refine RD_load (l := [.int .u8 n.kind, .string ⟨⟨n.text⟩⟩, .int .i64 n.tok, .int .i64 n.slot, .slice ta n.kids.length tc, .slice oa on oc]) (v := .agg #[.int .u8 n.kind, .string ⟨⟨n.text⟩⟩, .int .i64 n.tok, .int .i64 n.slot, .slice ta n.kids.length tc, .slice oa on oc]) rfl rfl rfl rfl (cellsU hd20 (.head _) (by simpa using hw1)) (.inl ⟨ag67, rfl⟩) ?_
    (refine RD_go ?_; simp only [go_sem, pt, iv])
    refine RD_load (l := [.int .u32 u]) rfl rfl rfl rfl (cellsU hd20 (.head _) (by simpa using hcu)) (.inr ⟨ag23, rfl⟩) ?_
    (refine RD_go ?_; simp only [go_sem, pt, iv, sD, rD])
    refine RD_callI hd20 [] rfl (fun h => by cases h) rfl rfl rfl rfl goes31 (by rfl) (ps := []) (F := []) rfl (node_r (thW_ok hu32 hp8) (by omega) hcy0 (ngle hu32 hp8 hcn0 hle20)) fun v I21 qs hd21 hle21 hq => ?_
    obtain ⟨rfl, rfl⟩ := hq
    simp only [Z3] at hd21 ⊢
    (refine RD_go ?_; simp only [go_sem, pt, iv, Bool.not_true])
    refine RD_nil ?_
    (refine RG ?_; simp only [go_sem, pt, iv, e1])
    exact hnext (i + 1) _ _ (by omega) (subT_dn (by simp only [go_sem, List.append_nil, pt, iv])) (by simp only [go_sem, List.append_nil, wlU]) ⟨I21, rfl, hd21, PH.le_trans hleJ (PH.le_trans hle20 hle21), hlt⟩
  have h184 : decide ((i : Int) < ((wkL [] 0 X.kids).length : Int)) = false := decide_eq_false (by omega)
  have k2J := PH.le_trans hle1 (PH.le_trans hle2 (PH.le_trans k213 hleJ))
  (refine RG ?_; simp only [go_sem, pt, iv, h184])
  refine RC_callI hdJ [] rfl rfl rfl rfl goes47 (by rfl) (ps := []) (F := []) rfl (at_w (TrR.le hTa13 hleJ) (SlZ.le hP k2J) (by omega) (by omega)) fun v I21 qs hd21 hle21 hq => ?_
  have k2K := PH.le_trans k2J hle21
  have hcu := hcu.le hle21
  obtain ⟨rfl, ⟨hat, rfl⟩ | ⟨n, cy, hat, rfl, hcy⟩⟩ := hq
  · simp only [Z3] at hd21 ⊢
    (refine RG ?_; simp only [go_sem, pt, iv])
    refine RC_call rfl rfl rfl rfl goes48 (tat_w hu32 hp8 (TgR.le hu32 hp8 hTb13 (PH.le_trans (PH.le_trans hleJ hle21) (le_first hd21))) (SlZ.le hP (PH.le_trans k2K (le_first hd21))) (by omega)) fun v H2 hv => ?_
    obtain ⟨⟨hat2, rfl⟩ | ⟨n, cn, dn2, hat2, _⟩, rfl⟩ := hv
    rotate_left
    · rw [hat] at hat2; cases hat2
    have f1 : ((8 : Int) == 8) = true := rfl
    have f2 : ((0 : Int) == 0) = true := rfl
    (refine RG ?_; simp only [go_sem, pt, iv, Bool.not_false, f1, f2, Int.cast_ofNat_Int])
    refine RC_callI hd21 [] rfl rfl rfl rfl goes17 (by rfl) (ps := []) (F := []) rfl (awake_k (hV.le k2K)) fun v I22 qs hd22 hle22 hq => ?_
    obtain ⟨rfl, rfl⟩ := hq
    simp only [Z3] at hd22 ⊢
    (refine RG ?_; simp only [go_sem, pt])
    exact R_ret_I rfl hd22 (r := [.bool true]) (by (simp only [Tryz.results10, go_sem])) (PH.le_trans k2K hle22) ⟨rfl, rfl⟩
  · simp only [Z3] at hd21 ⊢
    have hcy0 := hcy
    obtain ⟨zk, za, zc, rfl, hzr, hzk, hzc⟩ := hcy.shape
    obtain ⟨ga, gc, rfl, _⟩ := id hzk
    (refine RG ?_; simp only [go_sem, pt, iv, sD, rD])
    refine RC_call rfl rfl rfl rfl goes48 (tat_w hu32 hp8 (TgR.le hu32 hp8 hTb13 (PH.le_trans (PH.le_trans hleJ hle21) (le_first hd21))) (SlZ.le hP (PH.le_trans k2K (le_first hd21))) (by omega)) fun v H2 hv => ?_
    obtain ⟨⟨hat2, _⟩ | ⟨n2, cn, dn2, hat2, rfl, hcn⟩, rfl⟩ := hv
    · rw [hat] at hat2; cases hat2
    rw [hat] at hat2
    cases hat2
    have hcn0 := hcn
    cases dn2 with
    | zero => exact hcn.elim
    | succ dn2 =>
    obtain ⟨nk2, nw, rfl, hnw, hnk2⟩ := hcn
    obtain ⟨ta, tc, rfl, _⟩ := id hnk2
    obtain ⟨oa, on, oc, rfl⟩ := (thW_ok hu32 hp8).sh hnw
    have f2 : ((0 : Int) == 0) = true := rfl
    have hUI : U [I21] = I21 := PH.uni_no I21
    rw [hUI] at hcn0
    have hnb : szL n.kids < 2 ^ 36 := by have := atW_sz X.kids zs hat; omega
    (refine RG ?_; simp only [go_sem, pt, iv, sD, rD, Bool.not_true, f2])
    refine RC_load (l := [.int .u32 u]) rfl rfl rfl (cellsU hd21 (.head _) (by simpa using hcu)) (.inr ⟨ag23, rfl⟩) ?_
    (refine RG ?_; simp only [go_sem, pt, iv, sD, rD])
    refine RC_callI hd21 [] rfl rfl rfl rfl goes31 (by rfl) (ps := []) (F := []) rfl (node_r (thW_ok hu32 hp8) hnb hcy0 hcn0) fun v I22 qs hd22 hle22 hq => ?_
    obtain ⟨rfl, rfl⟩ := hq
    simp only [Z3] at hd22 ⊢
    (refine RG ?_; simp only [go_sem, pt])
    refine RC_callI hd22 [] rfl rfl rfl rfl goes17 (by rfl) (ps := []) (F := []) rfl (awake_k (hV.le (PH.le_trans k2K hle22))) fun v I23 qs hd23 hle23 hq => ?_
    obtain ⟨rfl, rfl⟩ := hq
    simp only [Z3] at hd23 ⊢
    (refine RG ?_; simp only [go_sem, pt])
    exact R_ret_I rfl hd23 (r := [.bool true]) (by (simp only [Tryz.results10, go_sem])) (PH.le_trans k2K (PH.le_trans hle22 hle23)) ⟨rfl, rfl⟩
end Go.Proofs.YtfaclfkpnmcmlaaGreatDoor
end
