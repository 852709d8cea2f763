import Derived.Test.YtfaclfkpnmcmlaaGreatDoorW08
import Derived.Test.YtfaclfkpnmcmlaaGreatDoorW09
set_option maxHeartbeats 20000000
set_option linter.all false
section
namespace Go.Proofs.YtfaclfkpnmcmlaaGreatDoor
open Go Go.Sx Dg Syn
def dgN (y : Nt) : Dgn := ⟨y.code, y.tok, cubesT y.inn⟩
def trN (x : Sm) : Syn.Tr := ⟨ndL x.kids, x.notes.map dgN⟩
theorem DgrR.ones {W : PH → Value → T → Prop} {u : Nat} (hW : WOk W u) {I : PH} {c : List Value} {n : Dgn} (h : DgrR W I c n) : c.all Sx.one = true := by
  obtain ⟨w, rfl, hw⟩ := h
  obtain ⟨a, n', c', rfl⟩ := hW.sh hw
  rfl
theorem DgrR.le {u : Nat} (hu : u < 2 ^ 32) (hp : pop u 32 ≤ 8) {I J : PH} {c : List Value} {n : Dgn} (h : DgrR (ThW u) I c n) (k : I.le J) : DgrR (ThW u) J c n := by
  obtain ⟨w, e, h⟩ := h; exact ⟨w, e, (thW_ok hu hp).le h k⟩
abbrev OwDg (u : Nat) (I A : PH) (v : Value) (l : List Dgn) : Prop := Ow (DgrR (ThW u)) 102 3 I A v l
theorem OwDg.le {u : Nat} (hu : u < 2 ^ 32) (hp : pop u 32 ≤ 8) {I J A : PH} {v : Value} {l : List Dgn} (h : OwDg u I A v l) (k : I.le J) : OwDg u J A v l := Ow.le (R := DgrR (ThW u)) (fun {I J c a} h k => DgrR.le hu hp h k) h k
def stmS (vk vn ka kb va vb : Value) (u i : Nat) : St := ⟨dn 60 [(1, .v (.int .u32 u)), (2, .p 2 0), (4, .p 4 0), (5, .p 5 0), (6, .p 6 0), (7, .p 7 0), (8, .v (iv i))], [⟨2, 94, [vk, vn]⟩, ⟨4, 36, [.slice none 0 0, .slice none 0 0]⟩, ⟨5, 41, [.slice none 0 0, .slice none 0 0]⟩, ⟨6, 36, [ka, va]⟩, ⟨7, 41, [kb, vb]⟩]⟩
def stmQ (u : Nat) (l : List Nt) (I0 : PH) (x : Nat × Value × Value) (H : PH) : Prop := ∃ I A B, H = U [I, A, B] ∧ Dj [I, A, B] ∧ I0.le I ∧ x.1 ≤ l.length ∧ OwE I A x.2.1 ((l.take x.1).map dgN) ∧ OwDg u I B x.2.2 ((l.take x.1).map dgN)
theorem tree_c {u d : Nat} (hu : u < 2 ^ 24) (hp : pop u 32 ≤ 8) {I : PH} {vk vn : Value} {x : Sm} (hk : SlW d I vk x.kids) (hn : SlNt I vn x.notes) (hok : SmOk u x) :
    DoesI Tryz.prog 41 #[.agg #[vk, vn], .int .u32 u] I [] fun r I2 qs => qs = [] ∧ ∃ va vb, r = .tuple #[va, vb] ∧ TrR I2 va (trN x) ∧ TgR (ThW u) I2 vb (trN x) := by
  have hu32 : u < 2 ^ 32 := by omega
  obtain ⟨o1, o2, o3, o4⟩ := hok
  obtain ⟨ka, kc, rfl, _⟩ := id hk
  obtain ⟨na, nc, rfl, _⟩ := id hn
  intro hd
  refine Does_ofD Tryz.func41 rfl (by simp [Tryz.ntmps41]) fun w0 => ?_
  simp only [Tryz.ntmps41]
  (refine RG ?_; simp only [go_sem, iv])
  refine RC_callI hd [] rfl rfl rfl rfl goes100 (by rfl) (ps := []) (F := []) rfl (grow_c hu hp (wtL x.kids + 1) d (by omega) hk (by omega) o3) fun v I1 qs hd1 hle1 hq => ?_
  obtain ⟨rfl, xa, xb, rfl, hxa, hxc, hxb⟩ := hq
  simp only [Z3] at hd1 ⊢
  obtain ⟨pa, pc, rfl, _⟩ := id hxa
  obtain ⟨qa, qc, rfl, _⟩ := id hxb
  (refine RG ?_; simp only [go_sem, iv])
  refine RC_addno hd1 fun hd2 => ?_
  refine RC_addno hd2 fun hd3 => ?_
  refine RC_loopD (fun y => x.notes.length - y.1) (fun y : Nat × Value × Value => stmS (.slice ka x.kids.length kc) (.slice na x.notes.length nc) (.slice pa (ndL x.kids).length pc) (.slice qa (ndL x.kids).length qc) y.2.1 y.2.2 u y.1) (stmQ u x.notes I1) (0, .slice none 0 0, .slice none 0 0) (subT_dn (by simp only [go_sem, List.append_nil, iv])) (by simp only [go_sem, List.append_nil, stmS]) ?_ ?_
  · exact ⟨I1, _, _, rfl, hd3, PH.le_refl _, Nat.zero_le _, Ow.nil _ _ _ _, Ow.nil _ _ _ _⟩
  rintro ⟨i, va, vb⟩ H ⟨I2, A2, B2, rfl, hd4, hle2, hi, hA, hB⟩ hnext
  simp only at hi hA hB
  simp only [stmS]
  obtain ⟨aa, ac, rfl⟩ := hA.shape
  obtain ⟨ba, bc, rfl⟩ := hB.shape
  have hlen : ((x.notes.take i).map dgN).length = i := by rw [List.length_map, List.length_take]; omega
  have hkl := szL_nd x.kids
  rcases Nat.lt_or_ge i x.notes.length with hlt | hge
  · have h23 : decide ((i : Int) < (x.notes.length : Int)) = true := decide_eq_true (by omega)
    have e1 : IntKind.i64.wrap ((i : Int) + 1) = ((i + 1 : Nat) : Int) := by rw [← wrap64 (n := i + 1) (by omega)]; congr 1
    obtain ⟨z, hz⟩ : ∃ z, x.notes[i]? = some z := ⟨_, List.getElem?_eq_getElem hlt⟩
    obtain ⟨b, off, cs, rfl, ⟨vi, rfl, hc⟩, hcell⟩ := Sl.load (R := NtR) (fun {I} c a h => NtR.len (I := I) c a h) (SlNt.le hn (PH.le_trans hle1 hle2)) hz
    obtain ⟨ca, cc, rfl, _⟩ := id hc
    obtain ⟨z1, z2⟩ := o4 z (List.mem_of_getElem? hz)
    have hsn : (x.notes.take (i + 1)).map dgN = (x.notes.take i).map dgN ++ [dgN z] := by rw [take_snoc' hz, List.map_append]; rfl
    (refine RG ?_; simp only [go_sem, iv, h23])
    try refine ⟨by omega, ?_⟩
    refine RC_load (l := [.int .u8 z.code, .int .i64 z.tok, .slice ca z.inn.length cc]) (v := .agg #[.int .u8 z.code, .int .i64 z.tok, .slice ca z.inn.length cc]) rfl rfl rfl (cellsU hd4 (.head _) (by simpa using hcell)) (.inl ⟨ag187, rfl⟩) ?_
    (refine RG ?_; simp only [go_sem, iv])
    refine R_drawn mixed [0, 1, 2, 3, 4, 5, 6, 7, 8, 9, 10, 11, 12, 13] [] [] rfl rfl ?_
    (refine RD_go ?_; simp only [go_sem, iv])
    refine RD_callI hd4 [0, 1] rfl (fun h => by cases h) rfl rfl rfl rfl goes23 (by rfl) (ps := []) (F := [A2, B2]) rfl (set_c hc (by omega)) fun v1 I5 qs hd5 hle5 hq => ?_
    obtain ⟨rfl, hr⟩ := hq
    simp only [Z3] at hd5 ⊢
    obtain ⟨za, zk, rfl⟩ := hr.shape2
    (refine RD_go ?_; simp only [go_sem, iv, sD, rD])
    refine RD_buildSliceI hd5 (by exact sl34) rfl rfl rfl rfl rfl (by decide) fun kb I6 hd6 hle6 hkb6 => ?_
    have k46 := PH.le_trans hle5 hle6
    have hS6 : Sl DgR I6 (.slice (some ⟨kb, 0, none⟩) 1 1) [dgN z] := ⟨_, _, rfl, .inr ⟨kb, 0, _, rfl, (cells_at hkb6 (by simp [flatP, Value.cells]) (by simp [flatP, Value.cells, iv, sD, rD]) : Cells I6 kb 0 [.int .u8 z.code, .int .i64 z.tok, sD za zk (cubesT z.inn), rD (cubesT z.inn)]), .one ⟨za, zk, rfl, hr.le hle6⟩⟩⟩
    (refine RD_go ?_; simp only [go_sem, iv, sD, rD])
    refine RD_appendSl (R := DgR) hd6 (by exact sl34) (OwE.le hA k46) hS6 (fun {I J c a} h k => DgR.le h k) (fun {I} c a h => DgR.len (I := I) c a h) (fun {I} c a h => DgR.ones (I := I) h) rfl rfl rfl rfl rfl rfl (by simp only [List.length_cons, List.length_nil]; omega) (by simp only [List.length_cons, List.length_nil]; unfold maxLen; omega) fun ua uc I7 A7 hd7 hle7 hA7 => ?_
    (refine RD_go ?_; simp only [go_sem, iv, sD, rD])
    refine RD_nil ?_
    have k47 := PH.le_trans k46 hle7
    have hc7 := SlC.le hc k47
    (refine RG ?_; simp only [go_sem, iv])
    refine R_drawn mixed [0, 1, 2, 3, 4, 5, 6, 7, 8, 9, 10, 11, 12, 13, 14] [] [] rfl rfl ?_
    (refine RD_go ?_; simp only [go_sem, iv])
    refine RD_callI hd7 [0, 1] rfl (fun h => by cases h) rfl rfl rfl rfl goes25 (by rfl) (ps := []) (F := [A7, B2]) rfl (those_c hc7 (by omega) hu32 hp) fun v2 I8 qs hd8 hle8 hq => ?_
    obtain ⟨rfl, hth⟩ := hq
    simp only [Z3] at hd8 ⊢
    obtain ⟨ta, tc, rfl, _⟩ := id hth
    (refine RD_go ?_; simp only [go_sem, iv])
    refine RD_buildSliceI hd8 (by exact sl39) rfl rfl rfl rfl rfl (by decide) fun gb I9 hd9 hle9 hgb9 => ?_
    have k49 := PH.le_trans k47 (PH.le_trans hle8 hle9)
    have hS9 : Sl (DgrR (ThW u)) I9 (.slice (some ⟨gb, 0, none⟩) 1 1) [dgN z] := ⟨_, _, rfl, .inr ⟨gb, 0, _, rfl, (cells_at hgb9 (by simp [flatP, Value.cells]) (by simp [flatP, Value.cells, iv]) : Cells I9 gb 0 [.int .u8 z.code, .int .i64 z.tok, .slice ta (thoseN z.inn u).length tc]), .one ⟨_, rfl, thW_of (hth.le hle9) (subB_of z1)⟩⟩⟩
    (refine RD_go ?_; simp only [go_sem, iv])
    (refine RD_parts hd9 [1, 0] rfl fun hd9 => ?_; simp only [Z4] at hd9 ⊢)
    refine RD_appendSl (R := DgrR (ThW u)) hd9 (by exact sl39) (OwDg.le hu32 hp hB k49) hS9 (fun {I J c a} h k => DgrR.le hu32 hp h k) (fun {I} c a h => DgrR.len (I := I) c a h) (fun {I} c a h => DgrR.ones (I := I) (thW_ok hu32 hp) h) rfl rfl rfl rfl rfl rfl (by simp only [List.length_cons, List.length_nil]; omega) (by simp only [List.length_cons, List.length_nil]; unfold maxLen; omega) fun wa wc I10 B10 hd10 hle10 hB10 => ?_
    (refine RD_go ?_; simp only [go_sem, iv])
    (refine RD_parts hd10 [1, 0] rfl fun hd11 => ?_; simp only [Z4] at hd11 ⊢)
    refine RD_nil ?_
    (refine RG ?_; simp only [go_sem, iv, e1])
    have k710 := PH.le_trans hle8 (PH.le_trans hle9 hle10)
    exact hnext (i + 1, .slice ua ((x.notes.take i).map dgN ++ [dgN z]).length uc, .slice wa ((x.notes.take i).map dgN ++ [dgN z]).length wc) _ _ (by simp only; omega) (subT_dn (by simp only [go_sem, List.append_nil, iv])) (by simp only [go_sem, List.append_nil, stmS]) ⟨I10, A7, B10, rfl, hd11, PH.le_trans hle2 (PH.le_trans k47 k710), hlt, by simp only; rw [hsn]; exact OwE.le hA7 k710, by simp only; rw [hsn]; exact hB10⟩
  · have : i = x.notes.length := by omega
    subst this
    rw [List.take_length] at hA hB hlen ⊢
    have h23 : decide ((x.notes.length : Int) < (x.notes.length : Int)) = false := by simp
    have hcap := hA.capN DgR.len
    (refine RC_parts hd4 [0, 1] rfl fun hd5 => ?_; simp only [Z4] at hd5 ⊢)
    refine RC_freeze (c := .st _) hd5 fun I5 hd5 hle5 hA5 => ?_
    (refine RC_parts hd5 [0] rfl fun hd6 => ?_; simp only [Z4] at hd6 ⊢)
    refine RC_freeze (c := .st _) hd6 fun I6 hd6 hle6 hB6 => ?_
    have k16 := PH.le_trans hle2 (PH.le_trans hle5 hle6)
    (refine RG ?_; simp only [go_sem, iv, h23])
    refine R_drawnK mixed [0, 1, 2, 3] [] [] [0, 1] [2, 3] [6, 7] rfl rfl ?_
    (refine RD_go ?_; simp only [go_sem, iv])
    refine RD_nil ?_
    (refine RG ?_; simp only [go_sem, iv])
    refine R_ret_I rfl hd6 (r := [.agg #[.slice pa (ndL x.kids).length pc, .slice aa (x.notes.map dgN).length ac], .agg #[.slice qa (ndL x.kids).length qc, .slice ba (x.notes.map dgN).length bc]]) (by (simp only [Tryz.results41, go_sem, iv])) (PH.le_trans hle1 k16) ⟨rfl, _, _, rfl, ⟨_, _, rfl, SlN.le hxa k16, hxc, SlE.le (Ow.sl (R := DgR) (fun {I J c a} h k => DgR.le h k) hA hle5 hA5) hle6, hcap⟩, ⟨_, _, d, rfl, SlG.le hu32 hp hxb k16, Ow.sl (R := DgrR (ThW u)) (fun {I J c a} h k => DgrR.le hu32 hp h k) hB (PH.le_trans hle5 hle6) hB6⟩⟩
end Go.Proofs.YtfaclfkpnmcmlaaGreatDoor
end
section
namespace Go.Proofs.YtfaclfkpnmcmlaaGreatDoor
open Go Go.Sx Dg Syn
theorem goes42 : Goes Tryz.prog 42 := ⟨_, Tryz.func42, rfl, rfl⟩
theorem goes43 : Goes Tryz.prog 43 := ⟨_, Tryz.func43, rfl, rfl⟩
def cgS (va vb : Value) (i : Nat) : St := ⟨dn 26 [(0, .v va), (1, .v vb), (5, .v (iv i))], []⟩
theorem configsS_c {H : PH} {va vb : Value} {la lb : List Nat} (h1 : SlU H va la) (h2 : SlU H vb lb) (hl : la.length < 2 ^ 60) : Does Tryz.prog 43 #[va, vb] H fun r H2 => (∃ b : Bool, r = .bool b ∧ (b = true ↔ la = lb)) ∧ H2 = H := by
  obtain ⟨a1, c1, rfl, _⟩ := id h1
  obtain ⟨a2, c2, rfl, _⟩ := id h2
  refine Does_ofD Tryz.func43 rfl (by simp [Tryz.ntmps43]) fun w0 => ?_
  simp only [Tryz.ntmps43]
  cases h0 : ((la.length : Int) != (lb.length : Int))
  rotate_left
  · (refine RG ?_; simp only [go_sem, h0])
    exact R_ret (r := [_]) rfl ⟨⟨false, rfl, fun h => (by cases h), fun h => by subst h; simp at h0⟩, rfl⟩
  have hab : la.length = lb.length := by
    have := bne_eq_false_iff_eq.1 h0
    omega
  (refine RG ?_; simp only [go_sem, h0])
  refine RC_loopD (fun x => la.length - x) (cgS (.slice a1 la.length c1) (.slice a2 lb.length c2)) (fun i H2 => H2 = H ∧ i ≤ la.length ∧ la.take i = lb.take i) 0 (subT_dn (by simp only [go_sem, List.append_nil, iv])) (by simp only [go_sem, List.append_nil, cgS]) ⟨rfl, Nat.zero_le _, by simp⟩ ?_
  rintro i H2 ⟨rfl, hi, heq⟩ hnext
  simp only [cgS]
  rcases Nat.lt_or_ge i la.length with hlt | hge
  · have h14 : decide ((i : Int) < (la.length : Int)) = true := decide_eq_true (by omega)
    have e1 : IntKind.i64.wrap ((i : Int) + 1) = ((i + 1 : Nat) : Int) := by rw [← wrap64 (n := i + 1) (by omega)]; congr 1
    obtain ⟨x, hx⟩ : ∃ x, la[i]? = some x := ⟨_, List.getElem?_eq_getElem hlt⟩
    obtain ⟨y, hy⟩ : ∃ y, lb[i]? = some y := ⟨_, List.getElem?_eq_getElem (by omega)⟩
    obtain ⟨b1, o1, cs1, rfl, ⟨rfl, _⟩, l1⟩ := Sl.load (fun {I} c a h => U32R.len (I := I) c a h) h1 hx
    obtain ⟨b2, o2, cs2, rfl, ⟨rfl, _⟩, l2⟩ := Sl.load (fun {I} c a h => U32R.len (I := I) c a h) h2 hy
    (refine RG ?_; simp only [go_sem, iv, h14])
    refine R_drawn mixed [0, 1, 2, 3, 4, 5, 6, 7, 8] [3, 7] [] rfl rfl ?_
    (refine RD_go ?_; simp only [go_sem, iv])
    try refine ⟨by omega, ?_⟩
    refine RD_load (l := [.int .u32 x]) rfl rfl rfl rfl (by simpa using l1) (.inr ⟨ag23, rfl⟩) ?_
    (refine RD_go ?_; simp only [go_sem, iv])
    try refine ⟨by omega, ?_⟩
    refine RD_load (l := [.int .u32 y]) rfl rfl rfl rfl (by simpa using l2) (.inr ⟨ag23, rfl⟩) ?_
    cases hne : ((x : Int) != (y : Int))
    · (refine RD_go ?_; simp only [go_sem, iv, hne])
      refine RD_nil ?_
      (refine RG ?_; simp only [go_sem, iv, e1])
      have hxy : x = y := by have := bne_eq_false_iff_eq.1 hne; omega
      exact hnext (i + 1) _ _ (by omega) (subT_dn (by simp only [go_sem, List.append_nil, iv])) (by simp only [go_sem, List.append_nil, cgS]) ⟨rfl, hlt, by rw [take_snoc' hx, take_snoc' hy, heq, hxy]⟩
    · (refine RD_go ?_; simp only [go_sem, iv, hne])
      refine RD_nil ?_
      (refine RG ?_; simp only [go_sem, iv])
      exact R_ret (r := [_]) rfl ⟨⟨false, rfl, fun h => (by cases h), fun h => by
        subst h
        rw [hx] at hy; cases hy
        simp at hne⟩, rfl⟩
  · have : i = la.length := by omega
    subst this
    rw [List.take_length, hab, List.take_length] at heq
    have h14 : decide ((la.length : Int) < (la.length : Int)) = false := by simp
    (refine RG ?_; simp only [go_sem, iv, h14])
    exact R_ret (r := [_]) rfl ⟨⟨true, rfl, fun _ => heq, fun _ => rfl⟩, rfl⟩
def snoS (va vb : Value) (i : Nat) : St := ⟨dn 69 [(0, .v va), (1, .v vb), (5, .v (iv i))], []⟩
theorem sameNodes_c {u : Nat} (hu : u < 2 ^ 32) (hp : pop u 32 ≤ 8) : ∀ (m d d' : Nat) {H : PH} {va vb : Value} {la lb : List Nd}, szL la < m → SlG u d H va la → SlG u d' H vb lb → szL la < 2 ^ 40 →
    Does Tryz.prog 42 #[va, vb] H fun r H2 => (∃ b : Bool, r = .bool b ∧ (b = true ↔ la = lb)) ∧ H2 = H := by
  intro m
  induction m with
  | zero => intro d d' H va vb la lb h; omega
  | succ m ih =>
  intro d d' H va vb la lb hm h1 h2 hz
  obtain ⟨a1, c1, rfl, _⟩ := id h1
  obtain ⟨a2, c2, rfl, _⟩ := id h2
  have hll := szL_len la
  refine Does_ofD Tryz.func42 rfl (by simp [Tryz.ntmps42]) fun w0 => ?_
  simp only [Tryz.ntmps42]
  cases h0 : ((la.length : Int) != (lb.length : Int))
  rotate_left
  · (refine RG ?_; simp only [go_sem, h0])
    exact R_ret (r := [_]) rfl ⟨⟨false, rfl, fun h => (by cases h), fun h => by subst h; simp at h0⟩, rfl⟩
  have hab : la.length = lb.length := by
    have := bne_eq_false_iff_eq.1 h0
    omega
  (refine RG ?_; simp only [go_sem, h0])
  refine RC_loopD (fun x => la.length - x) (snoS (.slice a1 la.length c1) (.slice a2 lb.length c2)) (fun i H2 => H2 = H ∧ i ≤ la.length ∧ la.take i = lb.take i) 0 (subT_dn (by simp only [go_sem, List.append_nil, iv])) (by simp only [go_sem, List.append_nil, snoS]) ⟨rfl, Nat.zero_le _, by simp⟩ ?_
  rintro i H2 ⟨rfl, hi, heq⟩ hnext
  simp only [snoS]
  rcases Nat.lt_or_ge i la.length with hlt | hge
  · have h16 : decide ((i : Int) < (la.length : Int)) = true := decide_eq_true (by omega)
    have e1 : IntKind.i64.wrap ((i : Int) + 1) = ((i + 1 : Nat) : Int) := by rw [← wrap64 (n := i + 1) (by omega)]; congr 1
    obtain ⟨x, hx⟩ : ∃ x, la[i]? = some x := ⟨_, List.getElem?_eq_getElem hlt⟩
    obtain ⟨y, hy⟩ : ∃ y, lb[i]? = some y := ⟨_, List.getElem?_eq_getElem (by omega)⟩
    obtain ⟨b1, o1, cs1, rfl, hxn, l1⟩ := Sl.load (R := NgRn (ThW u) d) (fun {I} c a h => NgRn.len (I := I) c a h) h1 hx
    obtain ⟨b2, o2, cs2, rfl, hyn, l2⟩ := Sl.load (R := NgRn (ThW u) d') (fun {I} c a h => NgRn.len (I := I) c a h) h2 hy
    cases d with
    | zero => exact hxn.elim
    | succ d =>
    cases d' with
    | zero => exact hyn.elim
    | succ d' =>
    obtain ⟨xk, xw, rfl, hxw, hxk⟩ := hxn
    obtain ⟨yk, yw, rfl, hyw, hyk⟩ := hyn
    obtain ⟨lx, ly, hlx, hly, hlxy, hln⟩ := thW_two hu hxw hyw
    obtain ⟨xka, xkc, rfl, _⟩ := id hxk
    obtain ⟨yka, ykc, rfl, _⟩ := id hyk
    obtain ⟨xwa, xwc, rfl, _⟩ := id hlx
    obtain ⟨ywa, ywc, rfl, _⟩ := id hly
    have hxs := szL_mem (List.mem_of_getElem? hx)
    have hno : x ≠ y → (∃ b : Bool, Value.bool false = .bool b ∧ (b = true ↔ la = lb)) := fun hne => ⟨false, rfl, fun h => (by cases h), fun h => by subst h; rw [hx] at hy; cases hy; exact absurd rfl hne⟩
    have hl256 : lx.length < 2 ^ 60 := Nat.lt_of_le_of_lt hln (Nat.lt_of_le_of_lt (Nat.pow_le_pow_right (by omega) hp) (by decide))
    (refine RG ?_; simp only [go_sem, iv, h16])
    refine R_drawnK mixed [8, 9, 0, 1, 2, 3, 4, 5, 6, 7, 10, 11] [3, 7] [] [3, 7] [10, 11] [] rfl rfl ?_
    (refine RD_go ?_; simp only [go_sem, iv])
    try refine ⟨by omega, ?_⟩
    refine RD_load (l := [.int .u8 x.kind, .string ⟨⟨x.text⟩⟩, .int .i64 x.tok, .int .i64 x.slot, .slice xka x.kids.length xkc, .slice xwa lx.length xwc]) (v := .agg #[.int .u8 x.kind, .string ⟨⟨x.text⟩⟩, .int .i64 x.tok, .int .i64 x.slot, .slice xka x.kids.length xkc, .slice xwa lx.length xwc]) rfl rfl rfl rfl (by simpa using l1) (.inl ⟨ag67, rfl⟩) ?_
    (refine RD_go ?_; simp only [go_sem, iv])
    try refine ⟨by omega, ?_⟩
    refine RD_load (l := [.int .u8 y.kind, .string ⟨⟨y.text⟩⟩, .int .i64 y.tok, .int .i64 y.slot, .slice yka y.kids.length ykc, .slice ywa ly.length ywc]) (v := .agg #[.int .u8 y.kind, .string ⟨⟨y.text⟩⟩, .int .i64 y.tok, .int .i64 y.slot, .slice yka y.kids.length ykc, .slice ywa ly.length ywc]) rfl rfl rfl rfl (by simpa using l2) (.inl ⟨ag67, rfl⟩) ?_
    (refine RD_go ?_; simp only [go_sem, iv])
    refine RD_nil ?_
    cases f1 : ((x.kind : Int) != (y.kind : Int))
    rotate_left
    · (refine RG ?_; simp only [go_sem, iv, f1])
      exact R_ret (r := [_]) rfl ⟨hno fun e => by subst e; simp at f1, rfl⟩
    cases f2 : (x.text == y.text)
    · (refine RG ?_; simp only [go_sem, iv, f1, f2])
      exact R_ret (r := [_]) rfl ⟨hno fun e => by subst e; simp at f2, rfl⟩
    cases f3 : (x.tok != y.tok)
    rotate_left
    · (refine RG ?_; simp only [go_sem, iv, f1, f2, f3])
      exact R_ret (r := [_]) rfl ⟨hno fun e => by subst e; simp at f3, rfl⟩
    cases f4 : (x.slot != y.slot)
    rotate_left
    · (refine RG ?_; simp only [go_sem, iv, f1, f2, f3, f4])
      exact R_ret (r := [_]) rfl ⟨hno fun e => by subst e; simp at f4, rfl⟩
    (refine RG ?_; simp only [go_sem, iv, f1, f2, f3, f4])
    refine RC_call rfl rfl rfl rfl goes43 (configsS_c hlx hly hl256) fun v H2 hv => ?_
    obtain ⟨⟨bc, rfl, hbc⟩, rfl⟩ := hv
    cases bc
    · (refine RG ?_; simp only [go_sem, iv])
      exact R_ret (r := [_]) rfl ⟨hno fun e => by subst e; exact absurd (hbc.2 (hlxy.2 rfl)) (by decide), rfl⟩
    (refine RG ?_; simp only [go_sem, iv])
    refine RC_call rfl rfl rfl rfl goes42 (ih d d' (by omega) hxk hyk (by omega)) fun v H2 hv => ?_
    obtain ⟨⟨bk, rfl, hbk⟩, rfl⟩ := hv
    cases bk
    · (refine RG ?_; simp only [go_sem, iv])
      exact R_ret (r := [_]) rfl ⟨hno fun e => by subst e; exact absurd (hbk.2 rfl) (by decide), rfl⟩
    (refine RG ?_; simp only [go_sem, iv, e1])
    have hxy : x = y := by
      have g1 := bne_eq_false_iff_eq.1 f1
      have g2 := eq_of_beq f2
      have g3 := bne_eq_false_iff_eq.1 f3
      have g4 := bne_eq_false_iff_eq.1 f4
      have g5 := hlxy.1 (hbc.1 rfl)
      have g6 := hbk.1 rfl
      cases x; cases y
      simp only at g1 g2 g3 g4 g5 g6
      have g1 : _ = _ := Int.ofNat.inj g1
      subst_vars; rfl
    exact hnext (i + 1) _ _ (by omega) (subT_dn (by simp only [go_sem, List.append_nil, iv])) (by simp only [go_sem, List.append_nil, snoS]) ⟨rfl, hlt, by rw [take_snoc' hx, take_snoc' hy, heq, hxy]⟩
  · have : i = la.length := by omega
    subst this
    rw [List.take_length, hab, List.take_length] at heq
    have h16 : decide ((la.length : Int) < (la.length : Int)) = false := by simp
    (refine RG ?_; simp only [go_sem, iv, h16])
    exact R_ret (r := [_]) rfl ⟨⟨true, rfl, fun _ => heq, fun _ => rfl⟩, rfl⟩
end Go.Proofs.YtfaclfkpnmcmlaaGreatDoor
end
section
namespace Go.Proofs.YtfaclfkpnmcmlaaGreatDoor
open Go Go.Sx Dg Syn
theorem dec_seq {a b : List T} (ha : T.Seq a) (hb : T.Seq b) (h : a.map (T.dec a) = b.map (T.dec b)) : a = b := by
  have hl : a.length = b.length := by have := congrArg List.length h; simpa using this
  have key : ∀ i, i ≤ a.length → a.take i = b.take i := by
    intro i
    induction i with
    | zero => intro _; simp
    | succ i ih =>
      intro hi
      have ht := ih (by omega)
      obtain ⟨x, hx⟩ : ∃ x, a[i]? = some x := ⟨_, List.getElem?_eq_getElem (by omega)⟩
      obtain ⟨y, hy⟩ : ∃ y, b[i]? = some y := ⟨_, List.getElem?_eq_getElem (by omega)⟩
      obtain ⟨v, l, r, rfl, _, h1, h2⟩ := ha.2 i x hx
      obtain ⟨v', l', r', rfl, _, h3, h4⟩ := hb.2 i y hy
      have he := congrArg (fun z : List (Nat × Nat × Nat) => z[i]?) h
      simp only [List.getElem?_map, hx, hy, Option.map_some, Option.some.injEq, T.dec, Prod.mk.injEq] at he
      obtain ⟨rfl, e1, e2⟩ := he
      have pa : ∀ {z : T}, T.isIn (a.take i) z → T.plc a z = T.plc (a.take i) z := fun {z} hz => by
        have := T.plc_app (us := a.drop i) hz
        rwa [List.take_append_drop] at this
      have pb : ∀ {z : T}, T.isIn (b.take i) z → T.plc b z = T.plc (b.take i) z := fun {z} hz => by
        have := T.plc_app (us := b.drop i) hz
        rwa [List.take_append_drop] at this
      rw [pa h1, pb h3, ← ht] at e1
      rw [pa h2, pb h4, ← ht] at e2
      rw [← ht] at h3 h4
      have := T.plc_inj h1 h3 e1
      have := T.plc_inj h2 h4 e2
      subst_vars
      rw [take_snoc' hx, take_snoc' hy, ht]
  have h1 := key a.length (Nat.le_refl _)
  rw [List.take_length, hl, List.take_length] at h1
  exact h1
theorem subs_eq {s t : T} (hs : s.ok 0) (ht : t.ok 0) (h : T.subs s = T.subs t) (hp : T.plc (T.subs s) s = T.plc (T.subs t) t) : s = t := by
  have h1 := T.subs_in hs
  rw [h] at h1 hp
  exact T.plc_inj h1 (T.subs_in ht) hp
def EqB (P : Program) (T : TypeId) (cs ds : Array Value) (b : Bool) : Prop := P.eqGuardType P.depth T = false ∧ ∀ w, (Op.equalIn 10000 T (.agg cs) (.agg ds)).run P w = .ok b w
theorem RD_neE {C : Cx} {ol : List Oper} {fr : FrD} {str : StD} {k : List Item} {σ : St} {H : PH} {i : Nat} {o : Oper} {l : List (Nat × Oper)} {T T2 : TypeId} {x y : Operand} {cs ds : Array Value} {b : Bool} (hf : fr.h.contains i = true) (hw : wantedS ol σ o = some true) (hop : o.op = .binOp .neq T x y T2) (hx : ev σ x = .v (.agg cs)) (hy : ev σ y = .v (.agg ds)) (he : EqB C.P T cs ds b) (h : RD C ol fr str l k (σ.put o.dst (.v (.bool (!b)))) H) : RD C ol fr str ((i, o) :: l) k σ H := by
  refine RD_read (.bool (!b)) hf hw ?_ (by rw [hop]; rfl) ?_ h
  · simp [knownS, hop, noSel, Op.operands, hx, hy, isV]
  · intro w _
    simp [execOp, hop, cenv, hx, hy, Sem.run_bind, run_eqGuard_agg w .neq T x y cs ds he.1, run_neq_struct, he.2 w, Result.andThen]
theorem eqB181 (a b c a' b' c' : Int) : EqB Tryz.prog 181 #[.int .i64 a, .int .i64 b, .int .i64 c] #[.int .i64 a', .int .i64 b', .int .i64 c'] (decide ((a, b, c) = (a', b', c'))) := by
  refine ⟨by kernel_rfl, fun w => ?_⟩
  have hS : Tryz.prog.underlying 181 = some (.struct (Tryz.prog.fieldsOf 181)) := by kernel_rfl
  have hp : Tryz.prog.stoodInHeld 181 = false := by kernel_rfl
  have hf : (Tryz.prog.fieldsOf 181).toList = [⟨ "Var", 3, 0, false, "", "", 0⟩, ⟨ "Low", 3, 1, false, "", "", 8⟩, ⟨ "High", 3, 2, false, "", "", 16⟩] := by unfold Program.fieldsOf; rw [un181]
  have p0 : ∀ a b c : Int, (part 3 #[.int .i64 a, .int .i64 b, .int .i64 c] 0).run Tryz.prog w = .ok (.int .i64 a) w := fun _ _ _ => run_part (by unfold rdCells; rw [ag3]; rfl)
  have p1 : ∀ a b c : Int, (part 3 #[.int .i64 a, .int .i64 b, .int .i64 c] 1).run Tryz.prog w = .ok (.int .i64 b) w := fun _ _ _ => run_part (by unfold rdCells; rw [ag3]; rfl)
  have p2 : ∀ a b c : Int, (part 3 #[.int .i64 a, .int .i64 b, .int .i64 c] 2).run Tryz.prog w = .ok (.int .i64 c) w := fun _ _ _ => run_part (by unfold rdCells; rw [ag3]; rfl)
  rw [show (10000 : Nat) = 9998 + 1 + 1 from rfl, run_equalIn_agg w (9998 + 1) 181 _ _ hS hp, hf]
  by_cases h1 : a = a' <;> by_cases h2 : b = b' <;> by_cases h3 : c = c' <;>
  simp [Op.eqFields, Sem.run_bind, p0, p1, p2, Result.andThen, run_equalIn_int w 9998 3 .i64 .i64 _ _ un3, h1, h2, h3]
def eqbQ (a b : List T) (H0 : PH) (i : Nat) (H : PH) : Prop := H = H0 ∧ i ≤ a.length ∧ (a.map (T.dec a)).take i = (b.map (T.dec b)).take i
theorem equalB_d {H : PH} {v1 v2 : Value} {ta tb : List T} (h1 : LstD H v1 ta) (h2 : LstD H v2 tb) (hl : ta.length < 2 ^ 40) : Does Tryz.prog 107 #[v1, v2] H fun r H2 => (∃ b : Bool, r = .bool b ∧ (b = true → ta.map (T.dec ta) = tb.map (T.dec tb))) ∧ H2 = H := by
  obtain ⟨a1, c1, rfl, g1⟩ := h1
  obtain ⟨a2, c2, rfl, g2⟩ := h2
  refine Does_ofD Tryz.func107 rfl (by simp [Tryz.ntmps107]) fun w0 => ?_
  simp only [Tryz.ntmps107]
  cases h0 : ((ta.length : Int) != (tb.length : Int))
  rotate_left
  · (refine RG ?_; simp only [go_sem, h0])
    exact R_ret (r := [_]) rfl ⟨⟨false, rfl, fun h => by cases h⟩, rfl⟩
  have hab : ta.length = tb.length := by
    have := bne_eq_false_iff_eq.1 h0
    omega
  (refine RG ?_; simp only [go_sem, h0])
  refine RC_loopD (fun x => ta.length - x) (eqlS (.slice a1 ta.length c1) (.slice a2 tb.length c2) ta.length) (eqbQ ta tb H) 0 (subT_dn (by simp only [go_sem, List.append_nil, iv])) (by simp only [go_sem, List.append_nil, eqlS]) ⟨rfl, Nat.zero_le _, by simp⟩ ?_
  rintro i H2 ⟨rfl, hi, heq⟩ hnext
  simp only [eqlS]
  rcases Nat.lt_or_ge i ta.length with hlt | hge
  · have h14 : decide ((i : Int) < (ta.length : Int)) = true := decide_eq_true (by omega)
    have e1 : IntKind.i64.wrap ((i : Int) + 1) = ((i + 1 : Nat) : Int) := by rw [← wrap64 (n := i + 1) (by omega)]; congr 1
    have ld : ∀ {a : Option Addr} {ts : List T} {t : T}, ts[i]? = some t → (ts = [] ∨ ∃ b, a = some ⟨b, 0, none⟩ ∧ Cells H2 b 0 (tsC ts)) → ∃ b, a = some ⟨b, 0, none⟩ ∧ Cells H2 b (i * 3) (decC (T.dec ts t)) := by
      rintro a ts t ht (h | ⟨b, e, h⟩)
      · rw [h] at ht; cases ht
      · have hlen : (tsC ts).length = ts.length * 3 := tsC_len _
        have := (List.getElem?_eq_some_iff.1 ht).1
        have hc := h.sub (i * 3) 3 (by omega)
        rw [tsC_get ht, Nat.zero_add] at hc
        exact ⟨b, e, hc⟩
    obtain ⟨s, hs⟩ : ∃ s, ta[i]? = some s := ⟨_, List.getElem?_eq_getElem hlt⟩
    obtain ⟨t, ht⟩ : ∃ t, tb[i]? = some t := ⟨_, List.getElem?_eq_getElem (by omega)⟩
    obtain ⟨b1, rfl, l1⟩ := ld hs g1
    obtain ⟨b2, rfl, l2⟩ := ld ht g2
    (refine RG ?_; simp only [go_sem, iv, h14])
    refine R_drawn mixed [0, 1, 2, 3, 4, 5, 6, 7, 8] [3, 7, 8] [] rfl rfl ?_
    (refine RD_go ?_; simp only [go_sem, iv])
    try refine ⟨by omega, ?_⟩
    refine RD_load (l := decC (T.dec ta s)) (v := decV (T.dec ta s)) rfl rfl rfl rfl (by simpa using l1) (.inl ⟨ag181, rfl⟩) ?_
    (refine RD_go ?_; simp only [go_sem, iv, decV])
    try refine ⟨by omega, ?_⟩
    refine RD_load (l := decC (T.dec tb t)) (v := decV (T.dec tb t)) rfl rfl rfl rfl (by simpa using l2) (.inl ⟨ag181, rfl⟩) ?_
    (refine RD_go ?_; simp only [go_sem, iv, decV])
    refine RD_neE rfl rfl rfl rfl rfl (eqB181 (T.dec ta s).1 (T.dec ta s).2.1 (T.dec ta s).2.2 (T.dec tb t).1 (T.dec tb t).2.1 (T.dec tb t).2.2) ?_
    cases hd : decide ((((T.dec ta s).1 : Int), ((T.dec ta s).2.1 : Int), ((T.dec ta s).2.2 : Int)) = (((T.dec tb t).1 : Int), ((T.dec tb t).2.1 : Int), ((T.dec tb t).2.2 : Int)))
    · (refine RD_go ?_; simp only [go_sem, iv, Bool.not_false])
      refine RD_nil ?_
      (refine RG ?_; simp only [go_sem, iv, e1])
      exact R_ret (r := [_]) rfl ⟨⟨false, rfl, fun h => by cases h⟩, rfl⟩
    · (refine RD_go ?_; simp only [go_sem, iv, Bool.not_true])
      refine RD_nil ?_
      (refine RG ?_; simp only [go_sem, iv, e1])
      refine hnext (i + 1) _ _ (by omega) (subT_dn (by simp only [go_sem, List.append_nil, iv])) (by simp only [go_sem, List.append_nil, eqlS]) ⟨rfl, hlt, ?_⟩
      have := of_decide_eq_true hd
      simp only [Prod.mk.injEq] at this
      obtain ⟨q1, q2, q3⟩ := this
      have he : T.dec ta s = T.dec tb t := by
        refine Prod.ext (by omega) (Prod.ext (by omega) (by omega))
      rw [take_snoc' (l := ta.map (T.dec ta)) (n := T.dec ta s) (by rw [List.getElem?_map, hs]; rfl), take_snoc' (l := tb.map (T.dec tb)) (n := T.dec tb t) (by rw [List.getElem?_map, ht]; rfl), heq, he]
  · have : i = ta.length := by omega
    subst this
    have h14 : decide ((ta.length : Int) < (ta.length : Int)) = false := by simp
    rw [List.take_of_length_le (by simp), List.take_of_length_le (by rw [List.length_map]; omega)] at heq
    (refine RG ?_; simp only [go_sem, iv, h14])
    exact R_ret (r := [_]) rfl ⟨⟨true, rfl, fun _ => heq⟩, rfl⟩
theorem sameB_d {H : PH} {v1 v2 : Value} {s t : T} (h1 : RepD H v1 s) (h2 : RepD H v2 t) : Does Tryz.prog 53 #[v1, v2] H fun r H2 => (∃ b : Bool, r = .bool b ∧ (b = true → s = t)) ∧ H2 = H := by
  have hl := subsLen24 h1.1
  obtain ⟨ok1, s1, rfl, g1⟩ := h1
  obtain ⟨ok2, s2, rfl, g2⟩ := h2
  obtain ⟨a1, c1, rfl, _⟩ := id g1
  obtain ⟨a2, c2, rfl, _⟩ := id g2
  refine Does_ofD Tryz.func53 rfl (by simp [Tryz.ntmps53]) fun w0 => ?_
  simp only [Tryz.ntmps53, iv]
  cases h0 : ((T.plc (T.subs s) s : Int) == (T.plc (T.subs t) t : Int))
  · (refine RG ?_; simp only [go_sem, h0])
    exact R_ret (r := [_]) rfl ⟨⟨false, rfl, fun h => by cases h⟩, rfl⟩
  · (refine RG ?_; simp only [go_sem, h0])
    refine RC_call rfl rfl rfl rfl goes107 (equalB_d g1 g2 (by omega)) fun v H2 hv => ?_
    obtain ⟨⟨b, rfl, hb⟩, rfl⟩ := hv
    (refine RG ?_; simp only [go_sem, h0])
    refine R_ret (r := [_]) rfl ⟨⟨b, rfl, fun h => ?_⟩, rfl⟩
    have e := eq_of_beq h0
    exact subs_eq ok1 ok2 (dec_seq (T.subs_seq ok1) (T.subs_seq ok2) (hb h)) (by omega)
end Go.Proofs.YtfaclfkpnmcmlaaGreatDoor
end
section
namespace Go.Proofs.YtfaclfkpnmcmlaaGreatDoor
open Go Go.Sx Dg Syn
theorem sameX_d {H : PH} {v1 v2 : Value} {s t : T} (h1 : RepD H v1 s) (h2 : RepD H v2 t) : Does Tryz.prog 53 #[v1, v2] H fun r H2 => (∃ b : Bool, r = .bool b ∧ (b = true ↔ s = t)) ∧ H2 = H := by
  by_cases e : s = t
  · subst e
    exact (same_d h1 h2).mono fun v H2 ⟨a, b⟩ => ⟨⟨true, a, fun _ => rfl, fun _ => rfl⟩, b⟩
  · refine (sameB_d h1 h2).mono fun v H2 ⟨⟨b, h, k⟩, e2⟩ => ⟨⟨b, h, k, fun h => absurd h e⟩, e2⟩
theorem Does.keepE {P : Program} {f : FuncId} {args : Array Value} {I : PH} {Q : Value → Prop} (h : Does P f args I fun v H2 => Q v ∧ H2 = I) : DoesI P f args I [] fun v I2 qs => qs = [] ∧ Q v :=
  Does.toI (h.mono fun v H2 ⟨a, b⟩ => by subst b; exact ⟨PH.le_refl _, a⟩)
theorem RD_eqE {C : Cx} {ol : List Oper} {fr : FrD} {str : StD} {k : List Item} {σ : St} {H : PH} {i : Nat} {o : Oper} {l : List (Nat × Oper)} {T T2 : TypeId} {x y : Operand} {cs ds : Array Value} {b : Bool} (hf : fr.h.contains i = true) (hw : wantedS ol σ o = some true) (hop : o.op = .binOp .eql T x y T2) (hx : ev σ x = .v (.agg cs)) (hy : ev σ y = .v (.agg ds)) (he : EqB C.P T cs ds b) (h : RD C ol fr str l k (σ.put o.dst (.v (.bool b))) H) : RD C ol fr str ((i, o) :: l) k σ H := by
  refine RD_read (.bool b) hf hw ?_ (by rw [hop]; rfl) ?_ h
  · simp [knownS, hop, noSel, Op.operands, hx, hy, isV]
  · intro w _
    simp [execOp, hop, cenv, hx, hy, Sem.run_bind, run_eqGuard_agg w .eql T x y cs ds he.1, run_eql_struct, he.2 w, Result.andThen]
theorem eqB240 (k k' : Key) : EqB Tryz.prog 240 #[.int .i64 k.slot, .int .i64 k.tok, .int .u8 k.kind, .string ⟨⟨k.text⟩⟩] #[.int .i64 k'.slot, .int .i64 k'.tok, .int .u8 k'.kind, .string ⟨⟨k'.text⟩⟩] (decide ((k.slot, k.tok, (k.kind : Int), k.text) = (k'.slot, k'.tok, (k'.kind : Int), k'.text))) := by
  refine ⟨by kernel_rfl, fun w => ?_⟩
  have hS : Tryz.prog.underlying 240 = some (.struct (Tryz.prog.fieldsOf 240)) := by kernel_rfl
  have hp : Tryz.prog.stoodInHeld 240 = false := by kernel_rfl
  have hf : (Tryz.prog.fieldsOf 240).toList = [⟨ "slot", 3, 0, false, "", "motley/syntax", 0⟩, ⟨ "tok", 3, 1, false, "", "motley/syntax", 8⟩, ⟨ "kind", 5, 2, false, "", "motley/syntax", 16⟩, ⟨ "text", 9, 3, false, "", "motley/syntax", 24⟩] := by unfold Program.fieldsOf; rw [un240]
  have p0 : ∀ (a b c : Int) (t : Txt), (part 3 #[.int .i64 a, .int .i64 b, .int .u8 c, .string ⟨⟨t⟩⟩] 0).run Tryz.prog w = .ok (.int .i64 a) w := fun _ _ _ _ => run_part (by unfold rdCells; rw [ag3]; rfl)
  have p1 : ∀ (a b c : Int) (t : Txt), (part 3 #[.int .i64 a, .int .i64 b, .int .u8 c, .string ⟨⟨t⟩⟩] 1).run Tryz.prog w = .ok (.int .i64 b) w := fun _ _ _ _ => run_part (by unfold rdCells; rw [ag3]; rfl)
  have p2 : ∀ (a b c : Int) (t : Txt), (part 5 #[.int .i64 a, .int .i64 b, .int .u8 c, .string ⟨⟨t⟩⟩] 2).run Tryz.prog w = .ok (.int .u8 c) w := fun _ _ _ _ => run_part (by unfold rdCells; rw [ag5]; rfl)
  have p3 : ∀ (a b c : Int) (t : Txt), (part 9 #[.int .i64 a, .int .i64 b, .int .u8 c, .string ⟨⟨t⟩⟩] 3).run Tryz.prog w = .ok (.string ⟨⟨t⟩⟩) w := fun _ _ _ _ => run_part (by unfold rdCells; rw [ag9]; rfl)
  rw [show (10000 : Nat) = 9998 + 1 + 1 from rfl, run_equalIn_agg w (9998 + 1) 240 _ _ hS hp, hf]
  by_cases h1 : k.slot = k'.slot <;> by_cases h2 : k.tok = k'.tok <;> by_cases h3 : k.kind = k'.kind <;> by_cases h4 : k.text = k'.text <;>
  simp [Op.eqFields, Sem.run_bind, p0, p1, p2, p3, Result.andThen, run_equalIn_int w 9998 3 .i64 .i64 _ _ un3, run_equalIn_int w 9998 5 .u8 .u8 _ _ un5, run_equalIn_string w 9998 9 _ _ un9, h1, h2, h3, h4, Int.ofNat_inj]
def BoolIs (r : Value) (p : Prop) : Prop := ∃ b : Bool, r = .bool b ∧ (b = true ↔ p)
theorem eqNX_c : ∀ (m : Nat) {I : PH} {v1 v2 : Value} {l1 l2 : List Nd}, szL l1 < m → szL l1 ≤ maxL → SlN I v1 l1 → SlN I v2 l2 → DoesI Tryz.prog 89 #[v1, v2, .func (.func 90) #[] #[]] I [] fun r I2 qs => qs = [] ∧ BoolIs r (l1 = l2) := by
  intro m
  induction m with
  | zero => intro I v1 v2 l1 l2 h; omega
  | succ m ih =>
  intro I v1 v2 l1 l2 hm hz h1 h2 hd
  obtain ⟨a1, c1, rfl, _⟩ := id h1
  obtain ⟨a2, c2, rfl, _⟩ := id h2
  have hll := szL_len l1
  unfold maxL at hz
  have sameN : ∀ {J : PH} {cx cy : List Value} {n n2 : Nd}, n ∈ l1 → NdR J cx n → NdR J cy n2 → DoesI Tryz.prog 90 #[.agg cx.toArray, .agg cy.toArray] J [] fun r I2 qs => qs = [] ∧ BoolIs r (n = n2) := by
    intro J cx cy n n2 hn hx hy hd
    have hsz := szL_mem hn
    obtain ⟨vk, xa, xk, rfl, hxr, hxk, _⟩ := hx.shape
    obtain ⟨wk, ya, yk, rfl, hyr, hyk, _⟩ := hy.shape
    obtain ⟨ka, kc, rfl, _⟩ := id hxk
    obtain ⟨la, lc, rfl, _⟩ := id hyk
    refine Does_ofD Tryz.func90 rfl (by simp [Tryz.ntmps90]) fun w0 => ?_
    simp only [Tryz.ntmps90, iv, sD, rD]
    (refine RG ?_; simp only [go_sem])
    refine R_drawn mixed [0, 2, 1, 3, 4, 5, 6, 7, 8, 9, 10, 11, 12, 13, 14, 15, 16, 17, 18, 19] [4] [] rfl rfl ?_
    (refine RD_go ?_; simp only [go_sem, iv, sD, rD])
    refine RD_callI hd [] rfl (fun h => by cases h) rfl rfl rfl rfl goes145 (by rfl) (ps := []) (F := []) rfl (Does.keep (key_c n.kind n.tok n.slot _ n.text ka xa n.kids.length kc (T.subs n.cond).length xk _)) fun v J2 qs hd2 hle2 hq => ?_
    obtain ⟨rfl, rfl⟩ := hq
    simp only [Z3] at hd2 ⊢
    (refine RD_go ?_; simp only [go_sem, iv, sD, rD])
    refine RD_callI hd2 [] rfl (fun h => by cases h) rfl rfl rfl rfl goes145 (by rfl) (ps := []) (F := []) rfl (Does.keep (key_c n2.kind n2.tok n2.slot _ n2.text la ya n2.kids.length lc (T.subs n2.cond).length yk _)) fun v J3 qs hd3 hle3 hq => ?_
    obtain ⟨rfl, rfl⟩ := hq
    simp only [Z3] at hd3 ⊢
    (refine RD_go ?_; simp only [go_sem, iv, sD, rD])
    refine RD_eqE rfl rfl rfl rfl rfl (eqB240 n.key n2.key) ?_
    have k03 := PH.le_trans hle2 hle3
    cases hkk : decide ((n.key.slot, n.key.tok, (n.key.kind : Int), n.key.text) = (n2.key.slot, n2.key.tok, (n2.key.kind : Int), n2.key.text))
    · (refine RD_go ?_; simp only [go_sem, iv, sD, rD])
      refine RD_nil ?_
      (refine RG ?_; simp only [go_sem])
      exact R_ret_I rfl hd3 (r := [_]) rfl k03 ⟨rfl, false, rfl, fun h => (by cases h), fun h => by subst h; simp at hkk⟩
    (refine RD_go ?_; simp only [go_sem, iv, sD, rD])
    refine RD_callI hd3 [] rfl (fun h => by cases h) rfl rfl rfl rfl goes53 (by rfl) (ps := []) (F := []) rfl (Does.keepE (sameX_d (hxr.le k03) (hyr.le k03))) fun v J4 qs hd4 hle4 hq => ?_
    obtain ⟨rfl, bc, rfl, hbc⟩ := hq
    simp only [Z3] at hd4 ⊢
    cases bc
    · (refine RD_go ?_; simp only [go_sem, iv, sD, rD])
      refine RD_nil ?_
      (refine RG ?_; simp only [go_sem])
      exact R_ret_I rfl hd4 (r := [_]) rfl (PH.le_trans k03 hle4) ⟨rfl, false, rfl, fun h => (by cases h), fun h => by subst h; exact absurd (hbc.2 rfl) (by decide)⟩
    (refine RD_go ?_; simp only [go_sem, iv, sD, rD])
    refine RD_callI hd4 [] rfl (fun h => by cases h) rfl rfl rfl rfl goes89 (by rfl) (ps := []) (F := []) rfl (ih (l1 := n.kids) (l2 := n2.kids) (by omega) (by unfold maxL; omega) (SlN.le hxk (PH.le_trans k03 hle4)) (SlN.le hyk (PH.le_trans k03 hle4))) fun v J5 qs hd5 hle5 hq => ?_
    obtain ⟨rfl, bk, rfl, hbk⟩ := hq
    simp only [Z3] at hd5 ⊢
    (refine RD_go ?_; simp only [go_sem, iv, sD, rD])
    refine RD_nil ?_
    (refine RG ?_; simp only [go_sem])
    refine R_ret_I rfl hd5 (r := [_]) rfl (PH.le_trans k03 (PH.le_trans hle4 hle5)) ⟨rfl, bk, rfl, fun h => ?_, fun h => by subst h; exact hbk.2 rfl⟩
    have g1 := of_decide_eq_true hkk
    have g2 := hbc.1 rfl
    have g3 := hbk.1 h
    simp only [Prod.mk.injEq, Nd.key] at g1
    obtain ⟨p1, p2, p3, p4⟩ := g1
    cases n; cases n2
    simp only at p1 p2 p3 p4 g2 g3
    have p3 := Int.ofNat.inj p3
    subst_vars; rfl
  refine Does_ofD Tryz.func89 rfl (by simp [Tryz.ntmps89]) fun w0 => ?_
  simp only [Tryz.ntmps89]
  cases h0 : ((l1.length : Int) != (l2.length : Int))
  rotate_left
  · (refine RG ?_; simp only [go_sem, h0])
    exact R_ret_I rfl hd (r := [_]) rfl (PH.le_refl _) ⟨rfl, false, rfl, fun h => (by cases h), fun h => by subst h; simp at h0⟩
  have hab : l1.length = l2.length := by have := bne_eq_false_iff_eq.1 h0; omega
  (refine RG ?_; simp only [go_sem, h0])
  refine RC_loopD (fun x => l1.length - x) (ndE (.slice a1 l1.length c1) (.slice a2 l2.length c2) (.func (.func 90) #[] #[]) l1.length) (fun i H2 => ∃ I2, H2 = U [I2] ∧ Dj [I2] ∧ I.le I2 ∧ i ≤ l1.length ∧ l1.take i = l2.take i) 0 (subT_dn (by simp only [go_sem, List.append_nil, iv])) (by simp only [go_sem, List.append_nil, ndE]) ⟨I, rfl, hd, PH.le_refl _, Nat.zero_le _, by simp⟩ ?_
  rintro i H2 ⟨I2, rfl, hd2, hle2, hi, heq⟩ hnext
  simp only [ndE]
  rcases Nat.lt_or_ge i l1.length with hlt | hge
  · have h18 : decide ((i : Int) < (l1.length : Int)) = true := decide_eq_true (by omega)
    have e1 : IntKind.i64.wrap ((i : Int) + 1) = ((i + 1 : Nat) : Int) := by rw [← wrap64 (n := i + 1) (by omega)]; congr 1
    obtain ⟨n, hn⟩ : ∃ n, l1[i]? = some n := ⟨_, List.getElem?_eq_getElem hlt⟩
    obtain ⟨n2, hn2⟩ : ∃ n, l2[i]? = some n := ⟨_, List.getElem?_eq_getElem (by omega)⟩
    obtain ⟨b1, o1, cx, rfl, hcx, hl1⟩ := Sl.load NdR.len (SlN.le h1 hle2) hn
    obtain ⟨b2, o2, cy, rfl, hcy, hl2⟩ := Sl.load NdR.len (SlN.le h2 hle2) hn2
    obtain ⟨vk, xa, xk, rfl, hxr, hxk, hxc⟩ := hcx.shape
    obtain ⟨wk, ya, yk, rfl, hyr, hyk, hyc⟩ := hcy.shape
    obtain ⟨ka, kc, rfl, _⟩ := id hxk
    obtain ⟨la, lc, rfl, _⟩ := id hyk
    (refine RG ?_; simp only [go_sem, iv, h18])
    try refine ⟨by omega, ?_⟩
    refine RC_load (l := [.int .u8 n.kind, .string ⟨⟨n.text⟩⟩, .int .i64 n.tok, .int .i64 n.slot, .slice ka n.kids.length kc, sD xa xk n.cond, rD n.cond]) (v := .agg #[.int .u8 n.kind, .string ⟨⟨n.text⟩⟩, .int .i64 n.tok, .int .i64 n.slot, .slice ka n.kids.length kc, sD xa xk n.cond, rD n.cond]) rfl rfl rfl (cellsU hd2 (.head _) hl1) (.inl ⟨ag60, rfl⟩) ?_
    (refine RG ?_; simp only [go_sem, iv, sD, rD])
    try refine ⟨by omega, ?_⟩
    refine RC_load (l := [.int .u8 n2.kind, .string ⟨⟨n2.text⟩⟩, .int .i64 n2.tok, .int .i64 n2.slot, .slice la n2.kids.length lc, sD ya yk n2.cond, rD n2.cond]) (v := .agg #[.int .u8 n2.kind, .string ⟨⟨n2.text⟩⟩, .int .i64 n2.tok, .int .i64 n2.slot, .slice la n2.kids.length lc, sD ya yk n2.cond, rD n2.cond]) rfl rfl rfl (cellsU hd2 (.head _) hl2) (.inl ⟨ag60, rfl⟩) ?_
    (refine RG ?_; simp only [go_sem, iv, sD, rD])
    refine RC_callI hd2 [] rfl rfl rfl rfl goes90 (by rfl) (ps := []) (F := []) rfl (sameN (List.mem_of_getElem? hn) hcx hcy) fun v I3 qs hd3 hle3 hq => ?_
    obtain ⟨rfl, bn, rfl, hbn⟩ := hq
    simp only [Z3] at hd3 ⊢
    cases bn
    · (refine RG ?_; simp only [go_sem, iv, sD, rD])
      exact R_ret_I rfl hd3 (r := [_]) rfl (PH.le_trans hle2 hle3) ⟨rfl, false, rfl, fun h => (by cases h), fun h => by subst h; rw [hn] at hn2; cases hn2; exact absurd (hbn.2 rfl) (by decide)⟩
    (refine RG ?_; simp only [go_sem, iv, sD, rD, e1])
    exact hnext (i + 1) _ _ (by omega) (subT_dn (by simp only [go_sem, List.append_nil, iv])) (by simp only [go_sem, List.append_nil, ndE]) ⟨I3, rfl, hd3, PH.le_trans hle2 hle3, hlt, by rw [take_snoc' hn, take_snoc' hn2, heq, hbn.1 rfl]⟩
  · have : i = l1.length := by omega
    subst this
    rw [List.take_length, hab, List.take_length] at heq
    have h18 : decide ((l1.length : Int) < (l1.length : Int)) = false := by simp
    (refine RG ?_; simp only [go_sem, iv, h18])
    exact R_ret_I rfl hd2 (r := [_]) rfl hle2 ⟨rfl, true, rfl, fun _ => heq, fun _ => rfl⟩
theorem sameDX_c {J : PH} {cx cy : List Value} {d d2 : Dgn} (hx : DgR J cx d) (hy : DgR J cy d2) : DoesI Tryz.prog 92 #[.agg cx.toArray, .agg cy.toArray] J [] fun r I2 qs => qs = [] ∧ BoolIs r (d = d2) := by
  intro hd
  obtain ⟨xa, xk, rfl, hxr⟩ := id hx
  obtain ⟨ya, yk, rfl, hyr⟩ := id hy
  refine Does_ofD Tryz.func92 rfl (by simp [Tryz.ntmps92]) fun w0 => ?_
  simp only [Tryz.ntmps92, iv, sD, rD]
  (refine RG ?_; simp only [go_sem])
  refine RC_callI hd [] rfl rfl rfl rfl goes93 (by rfl) (ps := []) (F := []) rfl (diags_c hx hy) fun v J2 qs hd2 hle2 hq => ?_
  obtain ⟨rfl, rfl⟩ := hq
  simp only [Z3] at hd2 ⊢
  cases hz : (diagZ d d2 == 0)
  · (refine RG ?_; simp only [go_sem, hz])
    exact R_ret_I rfl hd2 (r := [_]) rfl hle2 ⟨rfl, false, rfl, fun h => (by cases h), fun h => by subst h; rw [diagZ_eq] at hz; simp at hz⟩
  (refine RG ?_; simp only [go_sem, hz])
  refine RC_callI hd2 [] rfl rfl rfl rfl goes53 (by rfl) (ps := []) (F := []) rfl (Does.keepE (sameX_d (hxr.le hle2) (hyr.le hle2))) fun v J3 qs hd3 hle3 hq => ?_
  obtain ⟨rfl, bc, rfl, hbc⟩ := hq
  simp only [Z3] at hd3 ⊢
  (refine RG ?_; simp only [go_sem, hz])
  refine R_ret_I rfl hd3 (r := [_]) rfl (PH.le_trans hle2 hle3) ⟨rfl, bc, rfl, fun h => ?_, fun h => by subst h; exact hbc.2 rfl⟩
  rw [diagZ_eq] at hz
  have g1 := of_decide_eq_true hz
  have g2 := hbc.1 h
  simp only [Dgn.key, Prod.mk.injEq] at g1
  obtain ⟨p1, p2⟩ := g1
  cases d; cases d2
  simp only at p1 p2 g2
  subst_vars; rfl
theorem eqEX_c {I : PH} {v1 v2 : Value} {l1 l2 : List Dgn} (hz : l1.length ≤ maxL) (h1 : Sl DgR I v1 l1) (h2 : Sl DgR I v2 l2) : DoesI Tryz.prog 91 #[v1, v2, .func (.func 92) #[] #[]] I [] fun r I2 qs => qs = [] ∧ BoolIs r (l1 = l2) := by
  intro hd
  obtain ⟨a1, c1, rfl, _⟩ := id h1
  obtain ⟨a2, c2, rfl, _⟩ := id h2
  unfold maxL at hz
  refine Does_ofD Tryz.func91 rfl (by simp [Tryz.ntmps91]) fun w0 => ?_
  simp only [Tryz.ntmps91]
  cases h0 : ((l1.length : Int) != (l2.length : Int))
  rotate_left
  · (refine RG ?_; simp only [go_sem, h0])
    exact R_ret_I rfl hd (r := [_]) rfl (PH.le_refl _) ⟨rfl, false, rfl, fun h => (by cases h), fun h => by subst h; simp at h0⟩
  have hab : l1.length = l2.length := by have := bne_eq_false_iff_eq.1 h0; omega
  (refine RG ?_; simp only [go_sem, h0])
  refine RC_loopD (fun x => l1.length - x) (ndE (.slice a1 l1.length c1) (.slice a2 l2.length c2) (.func (.func 92) #[] #[]) l1.length) (fun i H2 => ∃ I2, H2 = U [I2] ∧ Dj [I2] ∧ I.le I2 ∧ i ≤ l1.length ∧ l1.take i = l2.take i) 0 (subT_dn (by simp only [go_sem, List.append_nil, iv])) (by simp only [go_sem, List.append_nil, ndE]) ⟨I, rfl, hd, PH.le_refl _, Nat.zero_le _, by simp⟩ ?_
  rintro i H2 ⟨I2, rfl, hd2, hle2, hi, heq⟩ hnext
  simp only [ndE]
  rcases Nat.lt_or_ge i l1.length with hlt | hge
  · have h18 : decide ((i : Int) < (l1.length : Int)) = true := decide_eq_true (by omega)
    have e1 : IntKind.i64.wrap ((i : Int) + 1) = ((i + 1 : Nat) : Int) := by rw [← wrap64 (n := i + 1) (by omega)]; congr 1
    obtain ⟨n, hn⟩ : ∃ n, l1[i]? = some n := ⟨_, List.getElem?_eq_getElem hlt⟩
    obtain ⟨n2, hn2⟩ : ∃ n, l2[i]? = some n := ⟨_, List.getElem?_eq_getElem (by omega)⟩
    obtain ⟨b1, o1, cx, rfl, hcx, hl1⟩ := Sl.load DgR.len (SlE.le h1 hle2) hn
    obtain ⟨b2, o2, cy, rfl, hcy, hl2⟩ := Sl.load DgR.len (SlE.le h2 hle2) hn2
    obtain ⟨xa, xk, rfl, hxr⟩ := id hcx
    obtain ⟨ya, yk, rfl, hyr⟩ := id hcy
    (refine RG ?_; simp only [go_sem, iv, h18])
    try refine ⟨by omega, ?_⟩
    refine RC_load (l := [.int .u8 n.code, .int .i64 n.tok, sD xa xk n.cond, rD n.cond]) (v := .agg #[.int .u8 n.code, .int .i64 n.tok, sD xa xk n.cond, rD n.cond]) rfl rfl rfl (cellsU hd2 (.head _) hl1) (.inl ⟨ag80, rfl⟩) ?_
    (refine RG ?_; simp only [go_sem, iv, sD, rD])
    try refine ⟨by omega, ?_⟩
    refine RC_load (l := [.int .u8 n2.code, .int .i64 n2.tok, sD ya yk n2.cond, rD n2.cond]) (v := .agg #[.int .u8 n2.code, .int .i64 n2.tok, sD ya yk n2.cond, rD n2.cond]) rfl rfl rfl (cellsU hd2 (.head _) hl2) (.inl ⟨ag80, rfl⟩) ?_
    (refine RG ?_; simp only [go_sem, iv, sD, rD])
    refine RC_callI hd2 [] rfl rfl rfl rfl goes92 (by rfl) (ps := []) (F := []) rfl (sameDX_c hcx hcy) fun v I3 qs hd3 hle3 hq => ?_
    obtain ⟨rfl, bn, rfl, hbn⟩ := hq
    simp only [Z3] at hd3 ⊢
    cases bn
    · (refine RG ?_; simp only [go_sem, iv, sD, rD])
      exact R_ret_I rfl hd3 (r := [_]) rfl (PH.le_trans hle2 hle3) ⟨rfl, false, rfl, fun h => (by cases h), fun h => by subst h; rw [hn] at hn2; cases hn2; exact absurd (hbn.2 rfl) (by decide)⟩
    (refine RG ?_; simp only [go_sem, iv, sD, rD, e1])
    exact hnext (i + 1) _ _ (by omega) (subT_dn (by simp only [go_sem, List.append_nil, iv])) (by simp only [go_sem, List.append_nil, ndE]) ⟨I3, rfl, hd3, PH.le_trans hle2 hle3, hlt, by rw [take_snoc' hn, take_snoc' hn2, heq, hbn.1 rfl]⟩
  · have : i = l1.length := by omega
    subst this
    rw [List.take_length, hab, List.take_length] at heq
    have h18 : decide ((l1.length : Int) < (l1.length : Int)) = false := by simp
    (refine RG ?_; simp only [go_sem, iv, h18])
    exact R_ret_I rfl hd2 (r := [_]) rfl hle2 ⟨rfl, true, rfl, fun _ => heq, fun _ => rfl⟩
theorem sameX_c {I : PH} {v1 v2 : Value} {t t2 : Syn.Tr} (h1 : TrR I v1 t) (h2 : TrR I v2 t2) (hz : szL t.kids ≤ maxL) (hz2 : t.diags.length ≤ maxL) : DoesI Tryz.prog 35 #[v1, v2] I [] fun r I2 qs => qs = [] ∧ BoolIs r (t.kids = t2.kids ∧ t.diags = t2.diags) := by
  obtain ⟨k1, d1, rfl, hk1, _, hd1, _⟩ := h1
  obtain ⟨k2, d2, rfl, hk2, _, hd2', _⟩ := h2
  obtain ⟨ka, kc, rfl, _⟩ := id hk1
  obtain ⟨la, lc, rfl, _⟩ := id hk2
  obtain ⟨da, dc, rfl, _⟩ := id hd1
  obtain ⟨ea, ec, rfl, _⟩ := id hd2'
  intro hd
  refine Does_ofD Tryz.func35 rfl (by simp [Tryz.ntmps35]) fun w0 => ?_
  simp only [Tryz.ntmps35]
  (refine RG ?_; simp only [go_sem])
  refine RC_callI hd [] rfl rfl rfl rfl goes89 (by rfl) (ps := []) (F := []) rfl (eqNX_c (szL t.kids + 1) (Nat.lt_succ_self _) hz hk1 hk2) fun v I2 qs hd2 hle2 hq => ?_
  obtain ⟨rfl, bk, rfl, hbk⟩ := hq
  simp only [Z3] at hd2 ⊢
  cases bk
  · (refine RG ?_; simp only [go_sem])
    exact R_ret_I rfl hd2 (r := [_]) rfl hle2 ⟨rfl, false, rfl, fun h => (by cases h), fun h => absurd (hbk.2 h.1) (by decide)⟩
  (refine RG ?_; simp only [go_sem])
  refine RC_callI hd2 [] rfl rfl rfl rfl goes91 (by rfl) (ps := []) (F := []) rfl (eqEX_c hz2 (SlE.le hd1 hle2) (SlE.le hd2' hle2)) fun v I3 qs hd3 hle3 hq => ?_
  obtain ⟨rfl, bd, rfl, hbd⟩ := hq
  simp only [Z3] at hd3 ⊢
  (refine RG ?_; simp only [go_sem])
  exact R_ret_I rfl hd3 (r := [_]) rfl (PH.le_trans hle2 hle3) ⟨rfl, bd, rfl, fun h => ⟨hbk.1 rfl, hbd.1 h⟩, fun h => hbd.2 h.2⟩
end Go.Proofs.YtfaclfkpnmcmlaaGreatDoor
end
section
namespace Go.Proofs.YtfaclfkpnmcmlaaGreatDoor
open Go Go.Sx Dg Syn
theorem goes103 : Goes Tryz.prog 103 := ⟨_, Tryz.func103, rfl, rfl⟩
theorem goes101 : Goes Tryz.prog 101 := ⟨_, Tryz.func101, rfl, rfl⟩
theorem goes44 : Goes Tryz.prog 44 := ⟨_, Tryz.func44, rfl, rfl⟩
theorem goes46 : Goes Tryz.prog 46 := ⟨_, Tryz.func46, rfl, rfl⟩
theorem goes105 : Goes Tryz.prog 105 := ⟨_, Tryz.func105, rfl, rfl⟩
theorem goes104 : Goes Tryz.prog 104 := ⟨_, Tryz.func104, rfl, rfl⟩
theorem un81 : Tryz.prog.underlying 81 = some (.slice 3) := by kernel_rfl
abbrev SlA (I : PH) (v : Value) (l : List Nat) : Prop := Sl AtR I v l
theorem SlA.le {I J : PH} {v : Value} {l : List Nat} (h : SlA I v l) (k : I.le J) : SlA J v l := Sl.le (R := AtR) (fun {I J c a} h k => h) h k
theorem AtR.len {I : PH} (c : List Value) (x : Nat) (h : AtR I c x) : c.length = 1 := by rw [show c = _ from h]; rfl
theorem AtR.ones {I : PH} {c : List Value} {x : Nat} (h : AtR I c x) : c.all Sx.one = true := by rw [show c = _ from h]; rfl
theorem cloneA_c {I : PH} {vf : Value} {f : List Nat} (hf : SlA I vf f) (hl : f.length < 2 ^ 42) : DoesI Tryz.prog 103 #[vf] I [] fun v I2 qs => ∃ A, qs = [A] ∧ OwA I2 A v f := by
  intro hd
  obtain ⟨fa, fc, rfl, hf2⟩ := id hf
  refine Does_ofD Tryz.func103 rfl (by simp [Tryz.ntmps103]) fun w0 => ?_
  simp only [Tryz.ntmps103]
  cases fa with
  | none =>
    have hf0 : f = [] := by
      rcases hf2 with h | ⟨b, off, xs, e, _⟩
      · exact h
      · cases e
    subst hf0
    (refine RG ?_; simp only [go_sem])
    refine RC_eqNil rfl rfl (by exact un81) rfl rfl ?_
    (refine RG ?_; simp only [go_sem, Option.isNone])
    refine RC_addno hd fun hd2 => ?_
    exact R_ret_I rfl hd2 (r := [_]) rfl (PH.le_refl _) ⟨_, rfl, Ow.nil _ _ _ _⟩
  | some a =>
    (refine RG ?_; simp only [go_sem])
    refine RC_eqNil rfl rfl (by exact un81) rfl rfl ?_
    (refine RG ?_; simp only [go_sem, Option.isNone])
    refine RC_buildSliceO hd (by exact sl81) rfl rfl rfl rfl rfl (by decide) fun b A hd2 hrow => ?_
    (refine RG ?_; simp only [go_sem])
    refine RC_appendSl hd2 (by exact sl81) (xs := ([] : List Nat)) (R := AtR) ⟨[], hrow, rfl⟩ hf (fun {I J c a} h k => h) (fun {I} c a h => AtR.len (I := I) c a h) (fun {I} c a h => AtR.ones (I := I) h) rfl rfl rfl rfl (by simp only [List.length_nil]; omega) (by simp only [List.length_nil]; unfold maxLen; omega) fun a2 c2 I2 A2 hd3 hle3 hA2 => ?_
    (refine RG ?_; simp only [go_sem, List.nil_append])
    exact R_ret_I rfl hd3 (r := [_]) rfl hle3 ⟨_, rfl, hA2⟩
def paS (va vb : Value) (i : Nat) : St := ⟨dn 41 [(0, .v va), (1, .v vb), (5, .v (iv i))], []⟩
theorem paths_c {H : PH} {va vb : Value} {p : List Nat} (h1 : SlA H va p) (h2 : SlA H vb p) (hl : p.length < 2 ^ 60) : Does Tryz.prog 105 #[va, vb] H fun r H2 => r = iv 0 ∧ H2 = H := by
  obtain ⟨a1, c1, rfl, _⟩ := id h1
  obtain ⟨a2, c2, rfl, _⟩ := id h2
  refine Does_ofD Tryz.func105 rfl (by simp [Tryz.ntmps105]) fun w0 => ?_
  simp only [Tryz.ntmps105]
  (refine RG ?_; simp only [go_sem])
  refine RC_loopD (fun x => p.length - x) (paS (.slice a1 p.length c1) (.slice a2 p.length c2)) (fun i H2 => H2 = H ∧ i ≤ p.length) 0 (subT_dn (by simp only [go_sem, List.append_nil, iv])) (by simp only [go_sem, List.append_nil, paS]) ⟨rfl, Nat.zero_le _⟩ ?_
  rintro i H2 ⟨rfl, hi⟩ hnext
  simp only [paS]
  rcases Nat.lt_or_ge i p.length with hlt | hge
  · have h14 : decide ((i : Int) < (p.length : Int)) = true := decide_eq_true (by omega)
    have e1 : IntKind.i64.wrap ((i : Int) + 1) = ((i + 1 : Nat) : Int) := by rw [← wrap64 (n := i + 1) (by omega)]; congr 1
    obtain ⟨x, hx⟩ : ∃ x, p[i]? = some x := ⟨_, List.getElem?_eq_getElem hlt⟩
    obtain ⟨b1, o1, cs1, rfl, e1', l1⟩ := Sl.load (fun {I} c a h => AtR.len (I := I) c a h) h1 hx
    obtain ⟨b2, o2, cs2, rfl, e2', l2⟩ := Sl.load (fun {I} c a h => AtR.len (I := I) c a h) h2 hx
    have e1' : cs1 = [iv x] := e1'
    have e2' : cs2 = [iv x] := e2'
    subst e1' e2'
    have f1 : ((x : Int) != (x : Int)) = false := by simp
    (refine RG ?_; simp only [go_sem, iv, h14])
    refine R_drawn mixed [0, 1, 2, 3, 4, 5, 6, 7, 8] [3, 7] [] rfl rfl ?_
    (refine RD_go ?_; simp only [go_sem, iv])
    try refine ⟨by omega, ?_⟩
    refine RD_load (l := [.int .i64 x]) rfl rfl rfl rfl (by simpa [iv] using l1) (.inr ⟨ag3, rfl⟩) ?_
    (refine RD_go ?_; simp only [go_sem, iv])
    try refine ⟨by omega, ?_⟩
    refine RD_load (l := [.int .i64 x]) rfl rfl rfl rfl (by simpa [iv] using l2) (.inr ⟨ag3, rfl⟩) ?_
    (refine RD_go ?_; simp only [go_sem, iv, f1])
    refine RD_nil ?_
    (refine RG ?_; simp only [go_sem, iv, e1])
    exact hnext (i + 1) _ _ (by omega) (subT_dn (by simp only [go_sem, List.append_nil, iv])) (by simp only [go_sem, List.append_nil, paS]) ⟨rfl, hlt⟩
  · have : i = p.length := by omega
    subst this
    have h14 : decide ((p.length : Int) < (p.length : Int)) = false := by simp
    have e4 : IntKind.i64.wrap ((p.length : Int) - (p.length : Int)) = 0 := by rw [Int.sub_self]; rfl
    (refine RG ?_; simp only [go_sem, iv, h14, e4])
    exact R_ret (r := [_]) rfl ⟨rfl, rfl⟩
theorem ints_c {H : PH} {va vb : Value} {p : List Nat} (h1 : SlA H va p) (h2 : SlA H vb p) (hl : p.length < 2 ^ 60) : Does Tryz.prog 46 #[va, vb] H fun r H2 => r = .bool true ∧ H2 = H := by
  obtain ⟨a1, c1, rfl, _⟩ := id h1
  obtain ⟨a2, c2, rfl, _⟩ := id h2
  refine Does_ofD Tryz.func46 rfl (by simp [Tryz.ntmps46]) fun w0 => ?_
  simp only [Tryz.ntmps46]
  (refine RG ?_; simp only [go_sem])
  refine RC_call rfl rfl rfl rfl goes105 (paths_c h1 h2 hl) fun v H2 hv => ?_
  obtain ⟨rfl, rfl⟩ := hv
  have e0 : ((0 : Int) == 0) = true := rfl
  (refine RG ?_; simp only [go_sem, iv, Int.cast_ofNat_Int, e0])
  exact R_ret (r := [_]) rfl ⟨rfl, rfl⟩
mutual
def wkN (p : List Nat) : Nd → List (List Nat × Nd)
  | ⟨k, s, t, o, ks, d⟩ => (p, ⟨k, s, t, o, ks, d⟩) :: wkL p 0 ks
def wkL (p : List Nat) (i : Nat) : List Nd → List (List Nat × Nd)
  | [] => []
  | n :: l => wkN (p ++ [i]) n ++ wkL p (i + 1) l
end
theorem wkN_eq (p : List Nat) (n : Nd) : wkN p n = (p, n) :: wkL p 0 n.kids := by cases n; rw [wkN]
theorem wkL_app (p : List Nat) : ∀ (a b : List Nd) (i : Nat), wkL p i (a ++ b) = wkL p i a ++ wkL p (i + a.length) b
  | [], b, i => by rw [List.nil_append, wkL]; rfl
  | n :: a, b, i => by rw [List.cons_append, wkL, wkL, wkL_app p a b, List.length_cons, List.append_assoc, show i + 1 + a.length = i + (a.length + 1) by omega]
theorem wkL_snoc (p : List Nat) {l : List Nd} {i : Nat} {n : Nd} (h : l[i]? = some n) : wkL p 0 (l.take (i + 1)) = wkL p 0 (l.take i) ++ (p ++ [i], n) :: wkL (p ++ [i]) 0 n.kids := by
  have hlt := (List.getElem?_eq_some_iff.1 h).1
  rw [take_snoc' h, wkL_app, wkL, wkL, List.append_nil, wkN_eq, List.length_take, Nat.zero_add, Nat.min_eq_left (by omega)]
mutual
theorem wkN_len (p : List Nat) : ∀ n : Nd, (wkN p n).length = szN n
  | ⟨k, s, t, o, ks, d⟩ => by rw [wkN, szN, List.length_cons, wkL_len p 0 ks]
theorem wkL_len (p : List Nat) (i : Nat) : ∀ l : List Nd, (wkL p i l).length = szL l
  | [] => by rw [wkL]; rfl
  | n :: l => by rw [wkL, szL, List.length_append, wkN_len _ n, wkL_len p (i + 1) l]
end
def StepR (u : Nat) (I : PH) (c : List Value) (x : List Nat × Nd) : Prop := ∃ vp cn d, c = vp :: cn ∧ SlA I vp x.1 ∧ NgRn (ThW u) d I cn x.2
theorem StepR.le {u : Nat} (hu : u < 2 ^ 32) (hp : pop u 32 ≤ 8) {I J : PH} {c : List Value} {x : List Nat × Nd} (h : StepR u I c x) (k : I.le J) : StepR u J c x := by
  obtain ⟨vp, cn, d, e, h1, h2⟩ := h; exact ⟨vp, cn, d, e, h1.le k, ngle hu hp h2 k⟩
theorem StepR.len {u : Nat} {I : PH} (c : List Value) (x : List Nat × Nd) (h : StepR u I c x) : c.length = 7 := by
  obtain ⟨vp, cn, d, e, _, h2⟩ := h; rw [e, List.length_cons, NgRn.len _ _ h2]
theorem StepR.ones {u : Nat} (hu : u < 2 ^ 32) (hp : pop u 32 ≤ 8) {I : PH} {c : List Value} {x : List Nat × Nd} (h : StepR u I c x) : c.all Sx.one = true := by
  obtain ⟨vp, cn, d, rfl, ⟨a, c', rfl, _⟩, h2⟩ := h
  rw [List.all_cons, NgRn.ones (thW_ok hu hp) h2]; rfl
abbrev OwS (u : Nat) (I A : PH) (v : Value) (l : List (List Nat × Nd)) : Prop := Ow (StepR u) 111 7 I A v l
theorem OwS.le {u : Nat} (hu : u < 2 ^ 32) (hp : pop u 32 ≤ 8) {I J A : PH} {v : Value} {l : List (List Nat × Nd)} (h : OwS u I A v l) (k : I.le J) : OwS u J A v l := Ow.le (R := StepR u) (fun {I J c a} h k => StepR.le hu hp h k) h k
def wrS (vl vp vo : Value) (i : Nat) : St := ⟨dn 39 [(0, .v vl), (1, .v vp), (2, .v vo), (7, .v (iv i))], []⟩
def wrQ (u : Nat) (p : List Nat) (l : List Nd) (out : List (List Nat × Nd)) (I0 : PH) (x : Nat × Value) (H : PH) : Prop := ∃ I A, H = U [I, A] ∧ Dj [I, A] ∧ I0.le I ∧ x.1 ≤ l.length ∧ OwS u I A x.2 (out ++ wkL p 0 (l.take x.1))
theorem walkR_c {u : Nat} (hu : u < 2 ^ 32) (hp : pop u 32 ≤ 8) : ∀ (m d : Nat) {I A : PH} {vl vp vo : Value} {l : List Nd} {p : List Nat} {out : List (List Nat × Nd)}, szL l < m → SlG u d I vl l → SlA I vp p → OwS u I A vo out → out.length + szL l < 2 ^ 36 → p.length + szL l < 2 ^ 36 →
    DoesI Tryz.prog 101 #[vl, vp, vo] I [A] fun r I2 qs => ∃ B, qs = [B] ∧ OwS u I2 B r (out ++ wkL p 0 l) := by
  intro m
  induction m with
  | zero => intro d I A vl vp vo l p out h; omega
  | succ m ih =>
  intro d I A vl vp vo l p out hm hS hP hA ho hpl hd
  obtain ⟨la, lc, rfl, _⟩ := id hS
  obtain ⟨pa, pc, rfl, _⟩ := id hP
  obtain ⟨oa, oc, rfl⟩ := hA.shape
  have hll := szL_len l
  refine Does_ofD Tryz.func101 rfl (by simp [Tryz.ntmps101]) fun w0 => ?_
  simp only [Tryz.ntmps101]
  (refine RG ?_; simp only [go_sem])
  refine RC_loopD (fun x => l.length - x.1) (fun x : Nat × Value => wrS (.slice la l.length lc) (.slice pa p.length pc) x.2 x.1) (wrQ u p l out I) (0, .slice oa out.length oc) (subT_dn (by simp only [go_sem, List.append_nil, iv])) (by simp only [go_sem, List.append_nil, wrS]) ⟨I, A, rfl, hd, PH.le_refl _, Nat.zero_le _, by simpa [wkL] using hA⟩ ?_
  rintro ⟨i, vx⟩ H ⟨I1, A1, rfl, hd1, hle1, hi, hA1⟩ hnext
  simp only at hi hA1
  simp only [wrS]
  obtain ⟨xa, xc, rfl⟩ := hA1.shape
  have hwl := wkL_len p 0 (l.take i)
  have hst : szL (l.take i) ≤ szL l := by
    conv => rhs; rw [← List.take_append_drop i l]
    rw [szL_app]; omega
  rcases Nat.lt_or_ge i l.length with hlt | hge
  · have h12 : decide ((i : Int) < (l.length : Int)) = true := decide_eq_true (by omega)
    have e1 : IntKind.i64.wrap ((i : Int) + 1) = ((i + 1 : Nat) : Int) := by rw [← wrap64 (n := i + 1) (by omega)]; congr 1
    obtain ⟨n, hn⟩ : ∃ n, l[i]? = some n := ⟨_, List.getElem?_eq_getElem hlt⟩
    obtain ⟨b, off, cs, rfl, hcs, hcell⟩ := Sl.load (R := NgRn (ThW u) d) (fun {I} c a h => NgRn.len (I := I) c a h) (SlG.le hu hp hS hle1) hn
    have hcs0 := hcs
    cases d with
    | zero => exact hcs.elim
    | succ d =>
    obtain ⟨vk, w, rfl, hw, hk⟩ := hcs
    obtain ⟨ka, kc, rfl, _⟩ := id hk
    obtain ⟨wa, wn, wc, rfl⟩ := (thW_ok hu hp).sh hw
    have hsn := wkL_snoc p hn
    have hszn := szL_mem (List.mem_of_getElem? hn)
    have hst2 : szL (l.take i) + (szL n.kids + 1) ≤ szL l := by
      have h1 : szL (l.take (i + 1)) ≤ szL l := by
        conv => rhs; rw [← List.take_append_drop (i + 1) l]
        rw [szL_app]; omega
      rw [take_snoc' hn, szL_app, szL_cons, szL_nil] at h1
      omega
    (refine RG ?_; simp only [go_sem, iv, h12])
    refine RC_addno hd1 fun hd2 => ?_
    refine RC_appendSl (R := AtR) (xs := ([] : List Nat)) (ys := p) hd2 (by exact sl81) (Ow.nil _ _ _ _) (SlA.le hP hle1) (fun {I J c a} h k => h) (fun {I} c a h => AtR.len (I := I) c a h) (fun {I} c a h => AtR.ones (I := I) h) rfl rfl rfl rfl (by simp only [List.length_nil]; omega) (by simp only [List.length_nil]; unfold maxLen; omega) fun ya yc I2 B2 hd3 hle2 hB2 => ?_
    rw [List.nil_append] at hB2
    (refine RG ?_; simp only [go_sem, iv, List.nil_append])
    refine RC_buildSliceI hd3 (by exact sl81) rfl rfl rfl rfl rfl (by decide) fun nb I3 hd4 hle3 hnb => ?_
    have hS3 : SlA I3 (.slice (some ⟨nb, 0, none⟩) 1 1) [i] := ⟨_, _, rfl, .inr ⟨nb, 0, _, rfl, cells_at hnb (by simp [flatP, Value.cells]) (by simp [flatP, Value.cells, iv]), .one rfl⟩⟩
    (refine RG ?_; simp only [go_sem, iv])
    refine RC_appendSl (R := AtR) (xs := p) (ys := [i]) hd4 (by exact sl81) (OwA.le hB2 hle3) hS3 (fun {I J c a} h k => h) (fun {I} c a h => AtR.len (I := I) c a h) (fun {I} c a h => AtR.ones (I := I) h) rfl rfl rfl rfl (by simp only [List.length_cons, List.length_nil]; omega) (by simp only [List.length_cons, List.length_nil]; unfold maxLen; omega) fun za zc I4 B4 hd5 hle4 hB4 => ?_
    refine RC_freeze hd5 fun I5 hd6 hle5 hB5 => ?_
    have hP5 : SlA I5 (.slice za (p ++ [i]).length zc) (p ++ [i]) := Ow.sl (R := AtR) (fun {I J c a} h k => h) hB4 hle5 hB5
    have k15 := PH.le_trans hle2 (PH.le_trans hle3 (PH.le_trans hle4 hle5))
    have hcell := hcell.le k15
    have c4 := hcell.get (i := 4) rfl
    (refine RG ?_; simp only [go_sem, iv])
    try refine ⟨by omega, ?_⟩
    refine RC_load (l := [.int .u8 n.kind, .string ⟨⟨n.text⟩⟩, .int .i64 n.tok, .int .i64 n.slot, .slice ka n.kids.length kc, .slice wa wn wc]) (v := .agg #[.int .u8 n.kind, .string ⟨⟨n.text⟩⟩, .int .i64 n.tok, .int .i64 n.slot, .slice ka n.kids.length kc, .slice wa wn wc]) rfl rfl rfl (cellsU hd6 (.head _) (by simpa using hcell)) (.inl ⟨ag67, rfl⟩) ?_
    (refine RG ?_; simp only [go_sem, iv])
    refine RC_buildSliceI hd6 (by exact sl104) rfl rfl rfl rfl rfl (by decide) fun sb I6 hd7 hle6 hsb => ?_
    have hS6 : Sl (StepR u) I6 (.slice (some ⟨sb, 0, none⟩) 1 1) [(p ++ [i], n)] := ⟨_, _, rfl, .inr ⟨sb, 0, _, rfl, (cells_at hsb (by simp [flatP, Value.cells]) (by simp [flatP, Value.cells, iv]) : Cells I6 sb 0 [.slice za (p ++ [i]).length zc, .int .u8 n.kind, .string ⟨⟨n.text⟩⟩, .int .i64 n.tok, .int .i64 n.slot, .slice ka n.kids.length kc, .slice wa wn wc]), .one ⟨_, _, d + 1, rfl, SlA.le hP5 hle6, ngle hu hp hcs0 (PH.le_trans k15 hle6)⟩⟩⟩
    (refine RG ?_; simp only [go_sem, iv])
    refine RC_appendSl (R := StepR u) hd7 (by exact sl104) (OwS.le hu hp hA1 (PH.le_trans k15 hle6)) hS6 (fun {I J c a} h k => StepR.le hu hp h k) (fun {I} c a h => StepR.len (I := I) c a h) (fun {I} c a h => StepR.ones (I := I) hu hp h) rfl rfl rfl rfl (by simp only [List.length_cons, List.length_nil, List.length_append]; omega) (by simp only [List.length_cons, List.length_nil, List.length_append]; unfold maxLen; omega) fun ta tc I7 A7 hd8 hle7 hA7 => ?_
    have k17 := PH.le_trans k15 (PH.le_trans hle6 hle7)
    have c4 := c4.le (PH.le_trans hle6 hle7)
    (refine RG ?_; simp only [go_sem, iv])
    try refine ⟨by omega, ?_⟩
    refine RC_load (l := [.slice ka n.kids.length kc]) rfl rfl rfl (cellsU hd8 (.head _) (by simpa using c4)) (.inr ⟨ag38, rfl⟩) ?_
    (refine RG ?_; simp only [go_sem, iv])
    refine RC_callI hd8 [0] rfl rfl rfl rfl goes101 (by rfl) (ps := [A7]) (F := []) rfl (ih d (p := p ++ [i]) (by omega) (SlG.le hu hp hk k17) (SlA.le hP5 (PH.le_trans hle6 hle7)) hA7 (by simp only [List.length_append, List.length_cons, List.length_nil]; omega) (by simp only [List.length_append, List.length_cons, List.length_nil]; omega)) fun v I8 qs hd9 hle8 hq => ?_
    obtain ⟨B8, rfl, hB8⟩ := hq
    simp only [Z3] at hd9 ⊢
    obtain ⟨ga, gc, rfl⟩ := hB8.shape
    have e8 : (out ++ wkL p 0 (l.take i)) ++ [(p ++ [i], n)] ++ wkL (p ++ [i]) 0 n.kids = out ++ wkL p 0 (l.take (i + 1)) := by rw [hsn, List.append_assoc, List.append_assoc]; rfl
    rw [e8] at hB8 ⊢
    (refine RG ?_; simp only [go_sem, iv, e1])
    exact hnext (i + 1, .slice ga (out ++ wkL p 0 (l.take (i + 1))).length gc) _ _ (by simp only; omega) (subT_dn (by simp only [go_sem, List.append_nil, iv])) (by simp only [go_sem, List.append_nil, wrS]) ⟨I8, B8, rfl, hd9, PH.le_trans hle1 (PH.le_trans k17 hle8), hlt, hB8⟩
  · have : i = l.length := by omega
    subst this
    rw [List.take_length] at hA1 ⊢
    have h12 : decide ((l.length : Int) < (l.length : Int)) = false := by simp
    (refine RG ?_; simp only [go_sem, iv, h12])
    exact R_ret_I rfl hd1 (r := [_]) rfl hle1 ⟨_, rfl, hA1⟩
theorem walkT_c {u : Nat} (hu : u < 2 ^ 32) (hp : pop u 32 ≤ 8) {I : PH} {v : Value} {t : Syn.Tr} (hT : TgR (ThW u) I v t) (hz : szL t.kids < 2 ^ 30) : DoesI Tryz.prog 44 #[v] I [] fun r I2 qs => qs = [] ∧ Sl (StepR u) I2 r (wkL [] 0 t.kids) := by
  obtain ⟨vk, vd, d, rfl, hk, hdd⟩ := hT
  obtain ⟨ka, kc, rfl, _⟩ := id hk
  obtain ⟨da, dc, rfl, _⟩ := id hdd
  intro hd
  refine Does_ofD Tryz.func44 rfl (by simp [Tryz.ntmps44]) fun w0 => ?_
  simp only [Tryz.ntmps44]
  (refine RG ?_; simp only [go_sem])
  refine RC_addno hd fun hd1 => ?_
  refine RC_callI hd1 [0] rfl rfl rfl rfl goes101 (by rfl) (ps := [_]) (F := []) rfl (walkR_c hu hp (szL t.kids + 1) d (p := []) (out := []) (by omega) hk ⟨none, 0, rfl, .inl rfl⟩ (Ow.nil _ _ _ _) (by simp only [List.length_nil]; omega) (by simp only [List.length_nil]; omega)) fun v I2 qs hd2 hle2 hq => ?_
  obtain ⟨B2, rfl, hB2⟩ := hq
  simp only [Z3] at hd2 ⊢
  rw [List.nil_append] at hB2
  obtain ⟨ga, gc, rfl⟩ := hB2.shape
  (refine RG ?_; simp only [go_sem])
  refine RC_freeze (c := .st _) hd2 fun I3 hd3 hle3 hB3 => ?_
  exact R_ret_I rfl hd3 (r := [_]) rfl (PH.le_trans hle2 hle3) ⟨rfl, Ow.sl (R := StepR u) (fun {I J c a} h k => StepR.le hu hp h k) hB2 hle3 hB3⟩
end Go.Proofs.YtfaclfkpnmcmlaaGreatDoor
end
section
namespace Go.Proofs.YtfaclfkpnmcmlaaGreatDoor
open Go Go.Sx Dg Syn
theorem goes47 : Goes Tryz.prog 47 := ⟨_, Tryz.func47, rfl, rfl⟩
theorem goes48 : Goes Tryz.prog 48 := ⟨_, Tryz.func48, rfl, rfl⟩
def cpS (vl kv : Value) (a : Option Addr) (k : Nat) (n : Nd) (i : Nat) : St := ⟨dn 24 [(1, .p 1 0), (2, .p 2 0), (9, .v vl), (10, .v (iv n.kids.length)), (11, .v (iv i))], [⟨1, 60, [.int .u8 n.kind, .string ⟨⟨n.text⟩⟩, .int .i64 n.tok, .int .i64 n.slot, kv, sD a k n.cond, rD n.cond]⟩, ⟨2, 60, [.int .u8 0, .string ⟨⟨[]⟩⟩, .int .i64 0, .int .i64 0, .slice none 0 0, .slice none 0 0, .int .i64 0]⟩]⟩
def cpQ (n : Nd) (I0 : PH) (x : Nat × Value) (H : PH) : Prop := ∃ I A, H = U [I, A] ∧ Dj [I, A] ∧ I0.le I ∧ x.1 ≤ n.kids.length ∧ OwN I A x.2 (n.kids.take x.1)
theorem copied_c : ∀ (m : Nat) {I : PH} {cx : List Value} {n : Nd}, szL n.kids < m → NdR I cx n → szL n.kids < 2 ^ 36 → DoesI Tryz.prog 104 #[.agg cx.toArray] I [] fun r I2 qs => qs = [] ∧ ∃ cy, r = .agg cy.toArray ∧ NdR I2 cy n := by
  intro m
  induction m with
  | zero => intro I cx n h; omega
  | succ m ih =>
  intro I cx n hm hx hz hd
  obtain ⟨vk, xa, xk, rfl, hxr, hxk, hxc⟩ := hx.shape
  obtain ⟨ka, kc, rfl, _⟩ := id hxk
  have hll := szL_len n.kids
  refine Does_ofD Tryz.func104 rfl (by simp [Tryz.ntmps104]) fun w0 => ?_
  simp only [Tryz.ntmps104, sD, rD]
  (refine RG ?_; simp only [go_sem])
  refine RC_addno hd fun hd1 => ?_
  refine RC_loopD (fun x => n.kids.length - x.1) (fun x : Nat × Value => cpS (.slice ka n.kids.length kc) x.2 xa xk n x.1) (cpQ n I) (0, .slice none 0 0) (subT_dn (by simp only [go_sem, List.append_nil, iv])) (by simp only [go_sem, List.append_nil, cpS, sD, rD, iv]) ⟨I, _, rfl, hd1, PH.le_refl _, Nat.zero_le _, Ow.nil _ _ _ _⟩ ?_
  rintro ⟨i, kv⟩ H ⟨I1, A1, rfl, hd2, hle1, hi, hA⟩ hnext
  simp only at hi hA
  simp only [cpS]
  obtain ⟨aa, ac, rfl⟩ := hA.shape
  rcases Nat.lt_or_ge i n.kids.length with hlt | hge
  · have h12 : decide ((i : Int) < (n.kids.length : Int)) = true := decide_eq_true (by omega)
    have e1 : IntKind.i64.wrap ((i : Int) + 1) = ((i + 1 : Nat) : Int) := by rw [← wrap64 (n := i + 1) (by omega)]; congr 1
    obtain ⟨y, hy⟩ : ∃ y, n.kids[i]? = some y := ⟨_, List.getElem?_eq_getElem hlt⟩
    have hys := szL_mem (List.mem_of_getElem? hy)
    obtain ⟨b, off, cs, rfl, hcs, hcell⟩ := Sl.load NdR.len (SlN.le hxk hle1) hy
    obtain ⟨wk, ya, yk, rfl, hyr, hyk, hyc⟩ := hcs.shape
    obtain ⟨la, lc, rfl, _⟩ := id hyk
    (refine RG ?_; simp only [go_sem, iv, h12])
    try refine ⟨by omega, ?_⟩
    refine RC_load (l := [.int .u8 y.kind, .string ⟨⟨y.text⟩⟩, .int .i64 y.tok, .int .i64 y.slot, .slice la y.kids.length lc, sD ya yk y.cond, rD y.cond]) (v := .agg #[.int .u8 y.kind, .string ⟨⟨y.text⟩⟩, .int .i64 y.tok, .int .i64 y.slot, .slice la y.kids.length lc, sD ya yk y.cond, rD y.cond]) rfl rfl rfl (cellsU hd2 (.head _) hcell) (.inl ⟨ag60, rfl⟩) ?_
    (refine RG ?_; simp only [go_sem, iv, sD, rD])
    refine R_drawn mixed [0, 1, 2, 3, 4, 5, 6, 7] [] [] rfl rfl ?_
    (refine RD_go ?_; simp only [go_sem, iv, sD, rD])
    refine RD_callI hd2 [0] rfl (fun h => by cases h) rfl rfl rfl rfl goes104 (by rfl) (ps := []) (F := [A1]) rfl (ih (by omega) hcs (by omega)) fun v I5 qs hd5 hle5 hq => ?_
    obtain ⟨rfl, cy, rfl, hcy⟩ := hq
    simp only [Z3] at hd5 ⊢
    have hcy0 := hcy
    obtain ⟨zk, za, zc, rfl, hzr, hzk, hzc⟩ := hcy.shape
    obtain ⟨ma, mc, rfl, _⟩ := id hzk
    (refine RD_go ?_; simp only [go_sem, iv, sD, rD])
    refine RD_buildSliceI hd5 (by exact sl33) rfl rfl rfl rfl rfl (by decide) fun kb I6 hd6 hle6 hkb6 => ?_
    have k16 := PH.le_trans hle5 hle6
    have hS6 : SlN I6 (.slice (some ⟨kb, 0, none⟩) 1 1) [y] := ⟨_, _, rfl, .inr ⟨kb, 0, _, rfl, (cells_at hkb6 (by simp [flatP, Value.cells]) (by simp [flatP, Value.cells, iv, sD, rD]) : Cells I6 kb 0 [.int .u8 y.kind, .string ⟨⟨y.text⟩⟩, .int .i64 y.tok, .int .i64 y.slot, .slice ma y.kids.length mc, sD za zc y.cond, rD y.cond]), .one (hcy0.le hle6)⟩⟩
    (refine RD_go ?_; simp only [go_sem, iv, sD, rD])
    have hlen : (n.kids.take i).length = i := by rw [List.length_take]; omega
    refine RD_appendSl hd6 (by exact sl33) (OwN.le hA k16) (hS6) (fun {I J c a} h k => NdR.le h k) (fun {I} c a h => NdR.len c a h) (fun {I} c a h => NdR.ones h) rfl rfl rfl rfl rfl rfl (by first | omega | (simp only [List.length_cons, List.length_nil]; omega)) (by unfold maxLen; first | omega | (simp only [List.length_cons, List.length_nil]; omega)) fun ua uc I7 A7 hd7 hle7 hA7 => ?_
    (refine RD_go ?_; simp only [go_sem, iv, sD, rD])
    refine RD_nil ?_
    (refine RG ?_; simp only [go_sem, iv, e1, sD, rD])
    exact hnext (i + 1, .slice ua (n.kids.take i ++ [y]).length uc) _ _ (by simp only; omega) (subT_dn (by simp only [go_sem, List.append_nil, iv])) (by simp only [go_sem, List.append_nil, cpS, sD, rD, iv]) ⟨I7, A7, rfl, hd7, PH.le_trans hle1 (PH.le_trans k16 hle7), hlt, by simp only; rw [take_snoc' hy]; exact hA7⟩
  · have : i = n.kids.length := by omega
    subst this
    rw [List.take_length] at hA ⊢
    have h12 : decide ((n.kids.length : Int) < (n.kids.length : Int)) = false := by simp
    have hcap := hA.capN NdR.len
    (refine RC_parts hd2 [0] rfl fun hd3 => ?_; simp only [Z4] at hd3 ⊢)
    refine RC_freeze (c := .st _) hd3 fun I3 hd3 hle3 hA3 => ?_
    (refine RG ?_; simp only [go_sem, iv, h12, sD, rD])
    exact R_ret_I rfl hd3 (r := [.agg #[.int .u8 n.kind, .string ⟨⟨n.text⟩⟩, .int .i64 n.tok, .int .i64 n.slot, .slice aa n.kids.length ac, sD xa xk n.cond, rD n.cond]]) (by (simp only [Tryz.results104, go_sem, iv, sD, rD])) (PH.le_trans hle1 hle3) ⟨rfl, _, rfl, NdR.mk (hxr.le (PH.le_trans hle1 hle3)) (OwN.sl hA hle3 hA3) hcap⟩
def AtZ (_ : PH) (c : List Value) (z : Int) : Prop := c = [.int .i64 z]
theorem AtZ.len {I : PH} (c : List Value) (x : Int) (h : AtZ I c x) : c.length = 1 := by rw [show c = _ from h]; rfl
abbrev SlZ (I : PH) (v : Value) (l : List Int) : Prop := Sl AtZ I v l
theorem SlZ.le {I J : PH} {v : Value} {l : List Int} (h : SlZ I v l) (k : I.le J) : SlZ J v l := Sl.le (R := AtZ) (fun {I J c a} h k => h) h k
theorem LR.mapZ {I : PH} : ∀ {l : List Nat} {xs : List Value}, LR (AtR I) xs l → LR (AtZ I) xs (l.map Int.ofNat)
  | [], xs, h => h
  | a :: l, xs, ⟨c, ys, e, h1, h2⟩ => ⟨c, ys, e, h1, LR.mapZ h2⟩
theorem SlA.z {I : PH} {v : Value} {l : List Nat} (h : SlA I v l) : SlZ I v (l.map Int.ofNat) := by
  obtain ⟨a, c, e, h⟩ := h
  refine ⟨a, c, by rw [List.length_map]; exact e, ?_⟩
  rcases h with h | ⟨b, off, xs, e1, e2, e3⟩
  · exact .inl (by rw [h]; rfl)
  · exact .inr ⟨b, off, xs, e1, e2, LR.mapZ e3⟩
def restW (f : List Nd → List Int → Option Nd) (o : Option Nd) (l : List Nd) : List Int → Option Nd
  | [] => o
  | z :: ps => f l (z :: ps)
def atW : List Nd → List Int → Option Nd
  | _, [] => none
  | l, z :: ps => if 0 ≤ z ∧ z < l.length then match l[z.toNat]? with
      | none => none
      | some n => match ps with
        | [] => some n
        | y :: qs => atW n.kids (y :: qs)
    else none
theorem atW_cons (l : List Nd) (z : Int) (ps : List Int) : atW l (z :: ps) = if 0 ≤ z ∧ z < l.length then (match l[z.toNat]? with | none => none | some n => restW atW (some n) n.kids ps) else none := by
  cases ps <;> rw [atW] <;> rfl
theorem atW_in {l : List Nd} {z : Int} {n : Nd} {ps : List Int} (h1 : ¬ z < 0) (h2 : ¬ z ≥ l.length) (hn : l[z.toNat]? = some n) : atW l (z :: ps) = restW atW (some n) n.kids ps := by
  rw [atW_cons, if_pos (by omega), hn]
theorem atW_out {l : List Nd} {z : Int} {ps : List Int} (h : z < 0 ∨ z ≥ l.length) : atW l (z :: ps) = none := by
  rw [atW_cons, if_neg (by omega)]
def atS (vp : Value) (N : Nat) (x : Nat × List Value) : St := ⟨dn 40 [(1, .v vp), (4, .p 4 0), (6, .p 6 0), (12, .v vp), (13, .v (iv N)), (14, .v (iv x.1))], [⟨4, 60, [.int .u8 0, .string ⟨⟨[]⟩⟩, .int .i64 0, .int .i64 0, .slice none 0 0, .slice none 0 0, .int .i64 0]⟩, ⟨6, 60, x.2⟩]⟩
def AtQ (I : PH) (kids : List Nd) (zs : List Int) (i : Nat) (cs : List Value) (H : PH) : Prop :=
  H = U [I] ∧ i ≤ zs.length ∧ ∃ k s t sl vk d0 d1 l o, cs = [.int .u8 k, .string s, .int .i64 t, .int .i64 sl, vk, d0, d1] ∧ SlN I vk l ∧ atW kids zs = restW atW o l (zs.drop i) ∧ szL l ≤ szL kids ∧ ((i = 0 ∧ o = none) ∨ ∃ n, o = some n ∧ NdR I cs n ∧ szL n.kids ≤ szL kids)
theorem at_w {I : PH} {v vp : Value} {t : Syn.Tr} {zs : List Int} (hT : TrR I v t) (hP : SlZ I vp zs) (hz : szL t.kids < 2 ^ 30) (hzl : zs.length < 2 ^ 40) : DoesI Tryz.prog 47 #[v, vp] I [] fun r I2 qs => qs = [] ∧
    ((atW t.kids zs = none ∧ r = .tuple #[.agg #[.int .u8 0, .string ⟨⟨[]⟩⟩, .int .i64 0, .int .i64 0, .slice none 0 0, .slice none 0 0, .int .i64 0], .int .i64 8]) ∨ ∃ n cy, atW t.kids zs = some n ∧ r = .tuple #[.agg cy.toArray, .int .i64 0] ∧ NdR I2 cy n) := by
  obtain ⟨vk, vd, rfl, hk, hkc, hdd, _⟩ := hT
  obtain ⟨ka, kc, rfl, _⟩ := id hk
  obtain ⟨da, dc, rfl, _⟩ := id hdd
  obtain ⟨pa, pc, rfl, _⟩ := id hP
  intro hd
  refine Does_ofD Tryz.func47 rfl (by simp [Tryz.ntmps47]) fun w0 => ?_
  simp only [Tryz.ntmps47]
  (refine RG ?_; simp only [go_sem])
  refine RC_loopD (fun x => zs.length - x.1) (atS (.slice pa zs.length pc) zs.length) (fun x H => AtQ I t.kids zs x.1 x.2 H) (0, [.int .u8 0, .string ⟨⟨[]⟩⟩, .int .i64 0, .int .i64 0, .slice ka t.kids.length kc, .slice none 0 0, .int .i64 0]) (subT_dn (by simp only [go_sem, List.append_nil, iv])) (by simp only [go_sem, List.append_nil, atS]) ?_ ?_
  · exact ⟨rfl, Nat.zero_le _, _, _, _, _, _, _, _, t.kids, none, rfl, hk, by cases zs <;> rfl, Nat.le_refl _, .inl ⟨rfl, rfl⟩⟩
  rintro ⟨i, cs⟩ H ⟨rfl, hi, k, s, tk, sl, wk, d0, d1, l, o, rfl, hl, hat, hls, ho⟩ hnext
  simp only at hi hat ho
  simp only [atS]
  obtain ⟨la, lc, rfl, _⟩ := id hl
  rcases Nat.lt_or_ge i zs.length with hlt | hge
  · have h15 : decide ((i : Int) < (zs.length : Int)) = true := decide_eq_true (by omega)
    have e1 : IntKind.i64.wrap ((i : Int) + 1) = ((i + 1 : Nat) : Int) := by rw [← wrap64 (n := i + 1) (by omega)]; congr 1
    obtain ⟨z, hzz⟩ : ∃ z, zs[i]? = some z := ⟨_, List.getElem?_eq_getElem hlt⟩
    obtain ⟨b, off, cs2, rfl, ez, hcell⟩ := Sl.load (R := AtZ) (fun {I} c a h => AtZ.len (I := I) c a h) hP hzz
    have ez : cs2 = [.int .i64 z] := ez
    subst ez
    have hdr : zs.drop i = z :: zs.drop (i + 1) := by
      rw [List.drop_eq_getElem_cons hlt]
      rw [List.getElem?_eq_getElem hlt] at hzz
      rw [Option.some.inj hzz]
    rw [hdr] at hat
    have hat : atW t.kids zs = atW l (z :: zs.drop (i + 1)) := hat
    (refine RG ?_; simp only [go_sem, iv, h15])
    try refine ⟨by omega, ?_⟩
    refine RC_load (l := [.int .i64 z]) rfl rfl rfl (cellsU hd (.head _) (by simpa using hcell)) (.inr ⟨ag3, rfl⟩) ?_
    cases h19 : decide (z < 0)
    rotate_left
    · (refine RG ?_; simp only [go_sem, iv, h19])
      exact R_ret_I rfl hd (r := [.agg #[.int .u8 0, .string ⟨⟨[]⟩⟩, .int .i64 0, .int .i64 0, .slice none 0 0, .slice none 0 0, .int .i64 0], .int .i64 8]) (by (simp only [Tryz.results47, go_sem, iv])) (PH.le_refl _) ⟨rfl, .inl ⟨by rw [hat]; exact atW_out (.inl (of_decide_eq_true h19)), rfl⟩⟩
    cases h25 : decide (z ≥ (l.length : Int))
    rotate_left
    · (refine RG ?_; simp only [go_sem, iv, h19, h25])
      exact R_ret_I rfl hd (r := [.agg #[.int .u8 0, .string ⟨⟨[]⟩⟩, .int .i64 0, .int .i64 0, .slice none 0 0, .slice none 0 0, .int .i64 0], .int .i64 8]) (by (simp only [Tryz.results47, go_sem, iv])) (PH.le_refl _) ⟨rfl, .inl ⟨by rw [hat]; exact atW_out (.inr (of_decide_eq_true h25)), rfl⟩⟩
    have g1 := of_decide_eq_false h19
    have g2 := of_decide_eq_false h25
    obtain ⟨y, hy⟩ : ∃ y, l[z.toNat]? = some y := ⟨_, List.getElem?_eq_getElem (by omega)⟩
    have hys := szL_mem (List.mem_of_getElem? hy)
    obtain ⟨b2, off2, cy, rfl, hcy, hcy2⟩ := Sl.load NdR.len hl hy
    obtain ⟨yk, ya, yc, rfl, hyr, hyk, hycp⟩ := hcy.shape
    obtain ⟨ma, mc, rfl, _⟩ := id hyk
    obtain ⟨q, hq⟩ : ∃ q : Nat, z = (q : Int) := ⟨z.toNat, by omega⟩
    subst hq
    rw [Int.toNat_natCast] at hy hcy2
    (refine RG ?_; simp only [go_sem, iv, h19, h25])
    try refine ⟨by omega, ?_⟩
    refine RC_load (l := [.int .u8 y.kind, .string ⟨⟨y.text⟩⟩, .int .i64 y.tok, .int .i64 y.slot, .slice ma y.kids.length mc, sD ya yc y.cond, rD y.cond]) (v := .agg #[.int .u8 y.kind, .string ⟨⟨y.text⟩⟩, .int .i64 y.tok, .int .i64 y.slot, .slice ma y.kids.length mc, sD ya yc y.cond, rD y.cond]) rfl rfl rfl (cellsU hd (.head _) (by simpa using hcy2)) (.inl ⟨ag60, rfl⟩) ?_
    (refine RG ?_; simp only [go_sem, iv, sD, rD, e1])
    refine hnext (i + 1, [.int .u8 y.kind, .string ⟨⟨y.text⟩⟩, .int .i64 y.tok, .int .i64 y.slot, .slice ma y.kids.length mc, sD ya yc y.cond, rD y.cond]) _ _ (by simp only; omega) (subT_dn (by simp only [go_sem, List.append_nil, iv])) (by simp only [go_sem, List.append_nil, atS, sD, rD, iv]) ⟨rfl, hlt, _, _, _, _, _, _, _, y.kids, some y, rfl, hyk, ?_, by omega, .inr ⟨y, rfl, hcy, by omega⟩⟩
    rw [hat]; exact atW_in g1 g2 (by rw [Int.toNat_natCast]; exact hy)
  · have : i = zs.length := by omega
    subst this
    rw [List.drop_length] at hat
    have hat : atW t.kids zs = o := hat
    have h15 : decide ((zs.length : Int) < (zs.length : Int)) = false := by simp
    rcases ho with ⟨h0, rfl⟩ | ⟨n, rfl, hn, hns⟩
    · have h36 : ((zs.length : Int) == 0) = true := by rw [h0]; rfl
      (refine RG ?_; simp only [go_sem, iv, h15, h36])
      exact R_ret_I rfl hd (r := [.agg #[.int .u8 0, .string ⟨⟨[]⟩⟩, .int .i64 0, .int .i64 0, .slice none 0 0, .slice none 0 0, .int .i64 0], .int .i64 8]) (by (simp only [Tryz.results47, go_sem, iv])) (PH.le_refl _) ⟨rfl, .inl ⟨hat, rfl⟩⟩
    · have h36 : ((zs.length : Int) == 0) = false := by
        cases zs with
        | nil => cases hat
        | cons z zs => simp; omega
      (refine RG ?_; simp only [go_sem, iv, h15, h36])
      refine RC_callI hd [] rfl rfl rfl rfl goes104 (by rfl) (ps := []) (F := []) rfl (copied_c (szL n.kids + 1) (by omega) hn (by omega)) fun v I2 qs hd2 hle2 hq => ?_
      obtain ⟨rfl, cy, rfl, hcy⟩ := hq
      simp only [Z3] at hd2 ⊢
      have hcy0 := hcy
      obtain ⟨zk, za, zc, rfl, _, hzk, _⟩ := hcy.shape
      obtain ⟨ma, mc, rfl, _⟩ := id hzk
      (refine RG ?_; simp only [go_sem, iv, sD, rD])
      exact R_ret_I rfl hd2 (r := [.agg #[.int .u8 n.kind, .string ⟨⟨n.text⟩⟩, .int .i64 n.tok, .int .i64 n.slot, .slice ma n.kids.length mc, sD za zc n.cond, rD n.cond], .int .i64 0]) (by (simp only [Tryz.results47, go_sem, iv, sD, rD])) hle2 ⟨rfl, .inr ⟨n, _, hat, rfl, hcy0⟩⟩
def taS (vp vl : Value) (x : Nat × List Value) : St := ⟨dn 45 [(1, .v vp), (4, .p 4 0), (6, .v vl), (7, .p 7 0), (8, .v (iv x.1))], [⟨4, 67, [.int .u8 0, .string ⟨⟨[]⟩⟩, .int .i64 0, .int .i64 0, .slice none 0 0, .slice none 0 0]⟩, ⟨7, 67, x.2⟩]⟩
theorem tat_w {u : Nat} (hu : u < 2 ^ 32) (hp : pop u 32 ≤ 8) {H : PH} {v vp : Value} {t : Syn.Tr} {zs : List Int} (hT : TgR (ThW u) H v t) (hP : SlZ H vp zs) (hzl : zs.length < 2 ^ 40) : Does Tryz.prog 48 #[v, vp] H fun r H2 =>
    ((atW t.kids zs = none ∧ r = .tuple #[.agg #[.int .u8 0, .string ⟨⟨[]⟩⟩, .int .i64 0, .int .i64 0, .slice none 0 0, .slice none 0 0], .bool false]) ∨ ∃ n cn d, atW t.kids zs = some n ∧ r = .tuple #[.agg cn.toArray, .bool true] ∧ NgRn (ThW u) d H cn n) ∧ H2 = H := by
  obtain ⟨vk, vd, d, rfl, hk, hdd⟩ := hT
  obtain ⟨ka, kc, rfl, _⟩ := id hk
  obtain ⟨da, dc, rfl, _⟩ := id hdd
  obtain ⟨pa, pc, rfl, _⟩ := id hP
  refine Does_ofD Tryz.func48 rfl (by simp [Tryz.ntmps48]) fun w0 => ?_
  simp only [Tryz.ntmps48]
  (refine RG ?_; simp only [go_sem])
  refine RC_loopD (fun x => zs.length - x.1) (fun x : Nat × Value × List Value => taS (.slice pa zs.length pc) x.2.1 (x.1, x.2.2)) (fun x H' => H' = H ∧ x.1 ≤ zs.length ∧ ∃ k s t' sl vk w l o d, x.2.2 = [.int .u8 k, .string s, .int .i64 t', .int .i64 sl, vk, w] ∧ SlG u d H x.2.1 l ∧ atW t.kids zs = restW atW o l (zs.drop x.1) ∧ ((x.1 = 0 ∧ o = none ∧ x.2.2 = [.int .u8 0, .string ⟨⟨[]⟩⟩, .int .i64 0, .int .i64 0, .slice none 0 0, .slice none 0 0]) ∨ ∃ n, o = some n ∧ ∃ d, NgRn (ThW u) d H x.2.2 n))
    (0, .slice ka t.kids.length kc, [.int .u8 0, .string ⟨⟨[]⟩⟩, .int .i64 0, .int .i64 0, .slice none 0 0, .slice none 0 0]) (subT_dn (by simp only [go_sem, List.append_nil, iv])) (by simp only [go_sem, List.append_nil, taS]) ?_ ?_
  · exact ⟨rfl, Nat.zero_le _, _, _, _, _, _, _, t.kids, none, d, rfl, hk, by cases zs <;> rfl, .inl ⟨rfl, rfl, rfl⟩⟩
  rintro ⟨i, vl, cs⟩ H2 ⟨rfl, hi, k, s, tk, sl, wk, w, l, o, dl, rfl, hl, hat, ho⟩ hnext
  simp only at hi hat hl ho
  simp only [taS]
  obtain ⟨la, lc, rfl, _⟩ := id hl
  rcases Nat.lt_or_ge i zs.length with hlt | hge
  · have h14 : decide ((i : Int) < (zs.length : Int)) = true := decide_eq_true (by omega)
    have e1 : IntKind.i64.wrap ((i : Int) + 1) = ((i + 1 : Nat) : Int) := by rw [← wrap64 (n := i + 1) (by omega)]; congr 1
    obtain ⟨z, hzz⟩ : ∃ z, zs[i]? = some z := ⟨_, List.getElem?_eq_getElem hlt⟩
    obtain ⟨b, off, cs2, rfl, ez, hcell⟩ := Sl.load (R := AtZ) (fun {I} c a h => AtZ.len (I := I) c a h) hP hzz
    have ez : cs2 = [.int .i64 z] := ez
    subst ez
    have hdr : zs.drop i = z :: zs.drop (i + 1) := by
      rw [List.drop_eq_getElem_cons hlt]
      rw [List.getElem?_eq_getElem hlt] at hzz
      rw [Option.some.inj hzz]
    rw [hdr] at hat
    have hat : atW t.kids zs = atW l (z :: zs.drop (i + 1)) := hat
    (refine RG ?_; simp only [go_sem, iv, h14])
    try refine ⟨by omega, ?_⟩
    refine RC_load (l := [.int .i64 z]) rfl rfl rfl (by simpa using hcell) (.inr ⟨ag3, rfl⟩) ?_
    cases h21 : decide (z < 0)
    rotate_left
    · (refine RG ?_; simp only [go_sem, iv, h21])
      exact R_ret (r := [.agg #[.int .u8 0, .string ⟨⟨[]⟩⟩, .int .i64 0, .int .i64 0, .slice none 0 0, .slice none 0 0], .bool false]) (by (simp only [Tryz.results48, go_sem, iv])) ⟨.inl ⟨by rw [hat]; exact atW_out (.inl (of_decide_eq_true h21)), rfl⟩, rfl⟩
    (refine RG ?_; simp only [go_sem, iv, h21])
    try refine ⟨by omega, ?_⟩
    refine RC_load (l := [.int .i64 z]) rfl rfl rfl (by simpa using hcell) (.inr ⟨ag3, rfl⟩) ?_
    cases h29 : decide (z ≥ (l.length : Int))
    rotate_left
    · (refine RG ?_; simp only [go_sem, iv, h29])
      exact R_ret (r := [.agg #[.int .u8 0, .string ⟨⟨[]⟩⟩, .int .i64 0, .int .i64 0, .slice none 0 0, .slice none 0 0], .bool false]) (by (simp only [Tryz.results48, go_sem, iv])) ⟨.inl ⟨by rw [hat]; exact atW_out (.inr (of_decide_eq_true h29)), rfl⟩, rfl⟩
    have g1 := of_decide_eq_false h21
    have g2 := of_decide_eq_false h29
    obtain ⟨q, hq⟩ : ∃ q : Nat, z = (q : Int) := ⟨z.toNat, by omega⟩
    subst hq
    obtain ⟨y, hy⟩ : ∃ y, l[q]? = some y := ⟨_, List.getElem?_eq_getElem (by omega)⟩
    obtain ⟨b2, off2, cy, rfl, hcy, hcy2⟩ := Sl.load (R := NgRn (ThW u) dl) (fun {I} c a h => NgRn.len (I := I) c a h) hl hy
    have hcy0 := hcy
    cases dl with
    | zero => exact hcy.elim
    | succ dl =>
    obtain ⟨yk, yw, rfl, hyw, hyk⟩ := hcy
    obtain ⟨ma, mc, rfl, _⟩ := id hyk
    obtain ⟨wa, wn, wc, rfl⟩ := (thW_ok hu hp).sh hyw
    (refine RG ?_; simp only [go_sem, iv, h29])
    try refine ⟨by omega, ?_⟩
    refine RC_load (l := [.int .i64 (q : Int)]) rfl rfl rfl (by simpa using hcell) (.inr ⟨ag3, rfl⟩) ?_
    (refine RG ?_; simp only [go_sem, iv])
    try refine ⟨by omega, ?_⟩
    refine RC_load (l := [.int .u8 y.kind, .string ⟨⟨y.text⟩⟩, .int .i64 y.tok, .int .i64 y.slot, .slice ma y.kids.length mc, .slice wa wn wc]) (v := .agg #[.int .u8 y.kind, .string ⟨⟨y.text⟩⟩, .int .i64 y.tok, .int .i64 y.slot, .slice ma y.kids.length mc, .slice wa wn wc]) rfl rfl rfl (by simpa using hcy2) (.inl ⟨ag67, rfl⟩) ?_
    (refine RG ?_; simp only [go_sem, iv, e1])
    refine hnext (i + 1, .slice ma y.kids.length mc, [.int .u8 y.kind, .string ⟨⟨y.text⟩⟩, .int .i64 y.tok, .int .i64 y.slot, .slice ma y.kids.length mc, .slice wa wn wc]) _ _ (by simp only; omega) (subT_dn (by simp only [go_sem, List.append_nil, iv])) (by simp only [go_sem, List.append_nil, taS]) ⟨rfl, hlt, _, _, _, _, _, _, y.kids, some y, dl, rfl, hyk, ?_, .inr ⟨y, rfl, dl + 1, hcy0⟩⟩
    rw [hat]; exact atW_in g1 g2 (by rw [Int.toNat_natCast]; exact hy)
  · have : i = zs.length := by omega
    subst this
    rw [List.drop_length] at hat
    have hat : atW t.kids zs = o := hat
    have h14 : decide ((zs.length : Int) < (zs.length : Int)) = false := by simp
    rcases ho with ⟨h0, rfl, ec⟩ | ⟨n, rfl, d2, hn⟩
    · simp only [List.cons.injEq, Value.int.injEq, Value.string.injEq, true_and, and_true] at ec
      obtain ⟨rfl, rfl, rfl, rfl, rfl, rfl⟩ := ec
      have h44 : decide ((zs.length : Int) > 0) = false := by rw [h0]; rfl
      (refine RG ?_; simp only [go_sem, iv, h14, h44])
      exact R_ret (r := [.agg #[.int .u8 0, .string ⟨⟨[]⟩⟩, .int .i64 0, .int .i64 0, .slice none 0 0, .slice none 0 0], .bool false]) (by (simp only [Tryz.results48, go_sem, iv])) ⟨.inl ⟨hat, rfl⟩, rfl⟩
    · have hn0 := hn
      cases d2 with
      | zero => exact hn.elim
      | succ d2 =>
      obtain ⟨yk, yw, ec, hyw, hyk⟩ := hn
      obtain ⟨ma, mc, rfl, _⟩ := id hyk
      obtain ⟨wa, wn, wc, rfl⟩ := (thW_ok hu hp).sh hyw
      simp only [List.cons.injEq, and_true] at ec
      obtain ⟨e1, e2, e3, e4, rfl, rfl⟩ := ec
      rw [e1, e2, e3, e4] at hn0 ⊢
      have h44 : decide ((zs.length : Int) > 0) = true := by
        cases zs with
        | nil => cases hat
        | cons z zs => exact decide_eq_true (by simp only [List.length_cons]; omega)
      (refine RG ?_; simp only [go_sem, iv, h14, h44])
      exact R_ret (r := [.agg #[.int .u8 n.kind, .string ⟨⟨n.text⟩⟩, .int .i64 n.tok, .int .i64 n.slot, .slice ma n.kids.length mc, .slice wa wn wc], .bool true]) (by (simp only [Tryz.results48, go_sem, iv])) ⟨.inr ⟨n, _, d2 + 1, hat, rfl, hn0⟩, rfl⟩
end Go.Proofs.YtfaclfkpnmcmlaaGreatDoor
end
