import Derived.Test.YtfaclfkpnmcmlaaGreatDoorW02
import Derived.Laws.MakeOwn
set_option maxHeartbeats 20000000
set_option linter.all false
section
namespace Go.Ke
open Go Go.Sx
inductive LV where
  | v (x : Value)
  | p (id off : Nat)
  | sl (id off len cap : Nat) (ex : Bool)
  | m (id : Nat)
  | f (fn : Fn) (l c : List LV)
  | i (t : TypeId) (x : LV)
  | ag (cs : List LV)
  | tu (cs : List LV)
  | d0 (id : Nat)
  | d1 (id : Nat)
  | us
  deriving Inhabited
inductive EV where
  | blk (b x : Nat)
  | dia (a b : Value)
abbrev Env := Nat → Option EV
def Env.le (e e' : Env) : Prop := ∀ id x, e id = some x → e' id = some x
theorem Env.le_refl (e : Env) : e.le e := fun _ _ h => h
theorem Env.le_trans {a b c : Env} (h : a.le b) (k : b.le c) : a.le c := fun i x hx => k i x (h i x hx)
def atomL : LV → Bool | .v _ => true | .p .. => true | .sl .. => true | .m _ => true | .d0 _ => true | .d1 _ => true | _ => false
def fixL : LV → Bool | .ag cs => cs.all atomL | x => atomL x
mutual
def VR (e : Env) : LV → Value → Prop
  | .v x, y => y = x
  | .p id off, y => ∃ b x, e id = some (.blk b x) ∧ y = .pointer (some ⟨b, off, none⟩)
  | .sl id off len cap ex, y => ∃ b x, e id = some (.blk b x) ∧ y = .slice (some ⟨b, off, none⟩) len (if ex then cap else cap + x)
  | .m id, y => ∃ b x, e id = some (.blk b x) ∧ y = .map (some b)
  | .f fn l c, y => ∃ l' c', y = .func fn l'.toArray c'.toArray ∧ VRs e l l' ∧ VRs e c c'
  | .i t x, y => ∃ x', y = .iface t x' ∧ VR e x x'
  | .ag cs, y => ∃ cs', y = .agg cs'.toArray ∧ VRs e cs cs'
  | .tu cs, y => ∃ cs', y = .tuple cs'.toArray ∧ VRs e cs cs'
  | .d0 id, y => ∃ b s n c, e id = some (.dia y b) ∧ y = .slice s n c
  | .d1 id, y => ∃ a k n, e id = some (.dia a y) ∧ y = .int k n
  | .us, y => ∃ a n c, y = .slice a n c
def VRs (e : Env) : List LV → List Value → Prop
  | [], l => l = []
  | x :: xs, l => ∃ y ys, l = y :: ys ∧ VR e x y ∧ VRs e xs ys
end
mutual
theorem VR.mono {e e' : Env} (h : e.le e') : ∀ {x : LV} {y : Value}, VR e x y → VR e' x y
  | .v x, y, k => by simpa only [VR] using k
  | .p id off, y, k => by simp only [VR] at k ⊢; obtain ⟨b, x, a, r⟩ := k; exact ⟨b, x, h _ _ a, r⟩
  | .sl id off len cap ex, y, k => by simp only [VR] at k ⊢; obtain ⟨b, x, a, r⟩ := k; exact ⟨b, x, h _ _ a, r⟩
  | .m id, y, k => by simp only [VR] at k ⊢; obtain ⟨b, x, a, r⟩ := k; exact ⟨b, x, h _ _ a, r⟩
  | .f fn l c, y, k => by simp only [VR] at k ⊢; obtain ⟨l', c', a, r, s⟩ := k; exact ⟨l', c', a, VRs.mono h r, VRs.mono h s⟩
  | .i t x, y, k => by simp only [VR] at k ⊢; obtain ⟨x', a, r⟩ := k; exact ⟨x', a, VR.mono h r⟩
  | .ag cs, y, k => by simp only [VR] at k ⊢; obtain ⟨x', a, r⟩ := k; exact ⟨x', a, VRs.mono h r⟩
  | .tu cs, y, k => by simp only [VR] at k ⊢; obtain ⟨x', a, r⟩ := k; exact ⟨x', a, VRs.mono h r⟩
  | .d0 id, y, k => by simp only [VR] at k ⊢; obtain ⟨b, s, n, c, a, r⟩ := k; exact ⟨b, s, n, c, h _ _ a, r⟩
  | .d1 id, y, k => by simp only [VR] at k ⊢; obtain ⟨b, s, n, a, r⟩ := k; exact ⟨b, s, n, h _ _ a, r⟩
  | .us, y, k => by simpa only [VR] using k
theorem VRs.mono {e e' : Env} (h : e.le e') : ∀ {xs : List LV} {ys : List Value}, VRs e xs ys → VRs e' xs ys
  | [], l, k => by simpa only [VRs] using k
  | x :: xs, l, k => by simp only [VRs] at k ⊢; obtain ⟨y, ys, a, r, s⟩ := k; exact ⟨y, ys, a, VR.mono h r, VRs.mono h s⟩
end
theorem VRs.length {e : Env} : ∀ {xs : List LV} {ys : List Value}, VRs e xs ys → ys.length = xs.length
  | [], l, k => by simp only [VRs] at k; subst k; rfl
  | x :: xs, l, k => by simp only [VRs] at k; obtain ⟨y, ys, rfl, _, s⟩ := k; simp [VRs.length s]
theorem VRs.get {e : Env} : ∀ {xs : List LV} {ys : List Value}, VRs e xs ys → ∀ {i : Nat} {x : LV}, xs[i]? = some x → ∃ y, ys[i]? = some y ∧ VR e x y
  | [], l, k, i, x, h => by simp at h
  | x :: xs, l, k, 0, z, h => by simp only [VRs] at k; obtain ⟨y, ys, rfl, r, s⟩ := k; simp at h; subst h; exact ⟨y, by simp, r⟩
  | x :: xs, l, k, i + 1, z, h => by simp only [VRs] at k; obtain ⟨y, ys, rfl, r, s⟩ := k; simpa using s.get (by simpa using h)
theorem VRs.append {e : Env} : ∀ {xs : List LV} {ys : List Value}, VRs e xs ys → ∀ {xs' : List LV} {ys' : List Value}, VRs e xs' ys' → VRs e (xs ++ xs') (ys ++ ys')
  | [], l, k, _, _, h => by simp only [VRs] at k; subst k; simpa using h
  | x :: xs, l, k, _, _, h => by simp only [VRs] at k; obtain ⟨y, ys, rfl, r, s⟩ := k; simp only [List.cons_append, VRs]; exact ⟨y, _, rfl, r, s.append h⟩
theorem VRs.take {e : Env} : ∀ (n : Nat) {xs : List LV} {ys : List Value}, VRs e xs ys → VRs e (xs.take n) (ys.take n)
  | 0, _, _, _ => by simp [VRs]
  | n + 1, [], l, k => by simp only [VRs] at k; subst k; simp [VRs]
  | n + 1, x :: xs, l, k => by simp only [VRs] at k; obtain ⟨y, ys, rfl, r, s⟩ := k; simp only [List.take_succ_cons, VRs]; exact ⟨y, _, rfl, r, s.take n⟩
theorem VRs.drop {e : Env} : ∀ (n : Nat) {xs : List LV} {ys : List Value}, VRs e xs ys → VRs e (xs.drop n) (ys.drop n)
  | 0, _, _, k => by simpa using k
  | n + 1, [], l, k => by simp only [VRs] at k; subst k; simp [VRs]
  | n + 1, x :: xs, l, k => by simp only [VRs] at k; obtain ⟨y, ys, rfl, r, s⟩ := k; simpa using s.drop n
theorem VRs.set {e : Env} : ∀ {xs : List LV} {ys : List Value}, VRs e xs ys → ∀ (n : Nat) {x : LV} {y : Value}, VR e x y → VRs e (xs.set n x) (ys.set n y)
  | [], l, k, n, x, y, h => by simp only [VRs] at k; subst k; simp [VRs]
  | z :: xs, l, k, 0, x, y, h => by simp only [VRs] at k; obtain ⟨y', ys, rfl, r, s⟩ := k; simp only [List.set_cons_zero, VRs]; exact ⟨y, ys, rfl, h, s⟩
  | z :: xs, l, k, n + 1, x, y, h => by simp only [VRs] at k; obtain ⟨y', ys, rfl, r, s⟩ := k; simp only [List.set_cons_succ, VRs]; exact ⟨y', _, rfl, r, s.set n h⟩
theorem VRs.map_v (e : Env) : ∀ (l : List Value), VRs e (l.map .v) l
  | [] => by simp [VRs]
  | x :: l => by simp only [List.map_cons, VRs]; exact ⟨x, l, rfl, by simp [VR], VRs.map_v e l⟩
def cellsL : LV → List LV
  | .ag cs => cs
  | .v (.agg cs) => cs.toList.map .v
  | x => [x]
def setL : List LV → Nat → List LV → List LV
  | l, _, [] => l
  | l, n, c :: cs => setL (l.set n c) (n + 1) cs
theorem VRs.setL {e : Env} : ∀ {cs : List LV} {cs' : List Value}, VRs e cs cs' → ∀ {xs : List LV} {ys : List Value}, VRs e xs ys → ∀ (n : Nat), VRs e (setL xs n cs) (setCs ys n cs')
  | [], l, k, xs, ys, h, n => by simp only [VRs] at k; subst k; simpa only [Ke.setL, setCs] using h
  | x :: cs, l, k, xs, ys, h, n => by simp only [VRs] at k; obtain ⟨y, ys', rfl, r, s⟩ := k; simp only [Ke.setL, setCs]; exact s.setL (h.set n r) (n + 1)
inductive LO where
  | cells (c : List LV) (ty : TypeId) (gr : Bool)
  | ro (c : List LV)
  | map (es : List (Value × LV)) (kt : TypeId)
  | dia (t : Dg.T)
  | dead
abbrev LM := Nat → Option LO
def LM.up (M : LM) (id : Nat) (o : LO) : LM := fun j => if j = id then some o else M j
def Env.up (e : Env) (id : Nat) (o : EV) : Env := fun j => if j = id then some o else e j
theorem Env.le_up {e : Env} {id : Nat} {o : EV} (h : e id = none) : e.le (e.up id o) := fun j x hj => by
  unfold Env.up; by_cases k : j = id
  · subst k; rw [h] at hj; cases hj
  · rw [if_neg k]; exact hj
theorem Env.up_self (e : Env) (id : Nat) (o : EV) : (e.up id o) id = some o := by simp [Env.up]
theorem Env.up_other {e : Env} {id j : Nat} {o : EV} (h : j ≠ id) : (e.up id o) j = e j := by simp [Env.up, h]
theorem LM.up_self (e : LM) (id : Nat) (o : LO) : (e.up id o) id = some o := by simp [LM.up]
theorem LM.up_other {e : LM} {id j : Nat} {o : LO} (h : j ≠ id) : (e.up id o) j = e j := by simp [LM.up, h]
structure Ctx where
  P : Program
  rep : PH → Value → Value → Dg.T → Prop
  mono : ∀ {I J : PH} {a b : Value} {t : Dg.T}, rep I a b t → I.le J → rep J a b t
  keyed : TypeId → Bool
  keyedOk : ∀ {kt : TypeId}, keyed kt = true → Maps.Keyed P kt
def ORel (X : Ctx) (e : Env) (I H : PH) (id : Nat) : LO → Prop
  | .cells c ty gr => ∃ b x cs post, e id = some (.blk b x) ∧ I b = none ∧ H b = some (.cells (cs ++ post).toArray ty (0, 0)) ∧ VRs e c cs ∧ (∃ s, szOf X.P ty = some s ∧ post.length = x * s ∧ (gr = true → cs.length + x * s ≤ maxLen * s)) ∧ (gr = false → x = 0)
  | .ro c => ∃ b x cs post ty fz, e id = some (.blk b x) ∧ H b = some (.cells (cs ++ post).toArray ty fz) ∧ VRs e c cs
  | .map es kt => ∃ b, e id = some (.blk b 0) ∧ I b = none ∧ MapAt X.P H b kt (fun y u => ∃ k ∈ es, k.1 = y ∧ VR e k.2 u) ∧ ∀ k ∈ es, (∃ u, VR e k.2 u) ∧ fixL k.2 = true
  | .dia t => ∃ a b, e id = some (.dia a b) ∧ X.rep I a b t ∧ (∃ s n c, a = .slice s n c) ∧ ∃ k n, b = .int k n
  | .dead => True
def live : LO → Bool | .cells .. => true | .ro _ => true | .map .. => true | _ => false
structure Rel (X : Ctx) (e : Env) (M : LM) (I H : PH) : Prop where
  le : I.le H
  inj : ∀ i j oi oj b x y, M i = some oi → M j = some oj → live oi = true → live oj = true → e i = some (.blk b x) → e j = some (.blk b y) → i = j
  ob : ∀ id o, M id = some o → ORel X e I H id o
end Go.Ke
end
section
namespace Go.Ke
open Go Go.Sx
abbrev Rho := Operand → Option LV
def rdL (P : Program) (T : TypeId) (cs : List LV) (off : Nat) : Option LV :=
  match aggOf P T with
  | some (some n) => if off + n ≤ cs.length then some (.ag ((cs.drop off).take n)) else none
  | some none => cs[off]?
  | none => none
def allL (ρ : Rho) : List Operand → Option (List LV)
  | [] => some []
  | x :: l => match ρ x, allL ρ l with
    | some a, some r => some (a :: r)
    | _, _ => none
def allPL (ρ : Rho) : List (Nat × Operand) → Option (List (Nat × LV))
  | [] => some []
  | (i, x) :: l => match ρ x, allPL ρ l with
    | some a, some r => some ((i, a) :: r)
    | _, _ => none
def fillLL (place : Nat → Option (Nat × Nat)) (cells : List LV) : List (Nat × LV) → Option (List LV)
  | [] => some cells
  | (i, v) :: rest =>
    match place i with
    | none => none
    | some (off, size) => if (cellsL v).length = size ∧ off + size ≤ cells.length then fillLL place (setL cells off (cellsL v)) rest else none
def buildL (P : Program) (T : TypeId) (parts : List (Nat × LV)) : Option LV :=
  match zeroOf P T with
  | none => none
  | some z =>
    match elOf P T with
    | .arr _ size => (fillLL (fun i => some (i * size, size)) (z.cells.toList.map .v) parts).map .ag
    | _ => if isSt P T then (fillLL (placeOf P T) (z.cells.toList.map .v) parts).map .ag else none
def bndL (n : Nat) : Option (Option LV) → Option Int
  | none => some n
  | some (some (.v (.int _ i))) => some i
  | _ => none
def isC : Operand → Bool | .const _ => true | _ => false
def cmpInt (P : Program) (t : TypeId) : Bool := match P.info? t, P.underlying t with
  | some i, some (.int _) => i.comparable
  | _, _ => false
def eqL (P : Program) (d : TypeDesc) (c : Bool) (x y : LV) : Option Bool :=
  match d, x, y with
  | .interface _, .i t (.v (.int k n)), .i t' (.v (.int k' n')) => if t ≠ t' then some false else if cmpInt P t = true ∧ k = k' then some (n == n') else none
  | .slice _, .v (.slice none _ _), .v (.slice b _ _) => some b.isNone
  | .slice _, .sl .., .v (.slice none _ _) => some false
  | .slice _, .v (.slice none _ _), .sl .. => some false
  | .interface _, .v .nilIface, .v .nilIface => if c then some true else none
  | .interface _, .v .nilIface, .i _ _ => some false
  | .interface _, .i _ _, .v .nilIface => some false
  | .bool, .v (.bool a), .v (.bool b) => some (a == b)
  | .pointer _, .v (.pointer none), .v (.pointer b) => some b.isNone
  | .pointer _, .p _ _, .v (.pointer none) => some false
  | .pointer _, .v (.pointer none), .p _ _ => some false
  | .map _ _, .v (.map none), .v (.map b) => some b.isNone
  | .map _ _, .m _, .v (.map none) => some false
  | .func .., .v .nilFunc, .v .nilFunc => some true
  | .func .., .f .., .v .nilFunc => some false
  | _, _, _ => none
def pickL (c x y : Option LV) : Option LV := match c with | some (.v (.bool b)) => if b then x else y | _ => none
def atL (n : Nat) : Option LV → Option LV | some (.p id off) => some (.p id (off + n)) | _ => none
def ixL (e : Elem) (x i : Option LV) : Option LV :=
  match e, x, i with
  | .arr len size, some (.p id off), some (.v (.int _ n)) => if 0 ≤ n ∧ n < len then some (.p id (off + n.toNat * size)) else none
  | .sl size, some (.sl id off len _ _), some (.v (.int _ n)) => if 0 ≤ n ∧ n < len then some (.p id (off + n.toNat * size)) else none
  | _, _, _ => none
def indexL (k : Kd) (x i : Option LV) : Option LV :=
  match k, x, i with
  | .str, some (.v (.string s)), some (.v (.int _ n)) => if 0 ≤ n ∧ n < s.size then some (.v (.int .u8 (byteAt s n.toNat))) else none
  | _, _, _ => none
def indexA (P : Program) (len : Nat) (el : TypeId) (x i : Option LV) : Option LV :=
  match P.info? el, x, i with
  | some j, some (.ag cs), some (.v (.int _ n)) => if 0 ≤ n ∧ n < len then rdL P el cs (n.toNat * j.size) else none
  | _, _, _ => none
def eqOp (P : Program) (op : BinOp) (d : Option TypeDesc) (c : Bool) (a b : LV) : Option LV :=
  match op, d with
  | .eql, some d => (eqL P d c a b).map fun r => .v (.bool r)
  | .neq, some d => (eqL P d c a b).map fun r => .v (.bool !r)
  | _, _ => none
def binL (P : Program) (op : BinOp) (T : TypeId) (c : Bool) (x y : Option LV) : Option LV :=
  match x, y with
  | some (.v a), some (.v b) => match binV op a b with
    | some r => some (.v r)
    | none => eqOp P op (P.underlying T) c (.v a) (.v b)
  | some a, some b => eqOp P op (P.underlying T) c a b
  | _, _ => none
def lenL (k : Kd) : Option LV → Option LV
  | some (.sl _ _ len _ _) => match k with | .sl => some (.v (.int .i64 len)) | _ => none
  | some (.v (.slice _ len _)) => match k with | .sl => some (.v (.int .i64 len)) | _ => none
  | some (.v (.string s)) => match k with | .str => some (.v (.int .i64 s.size)) | _ => none
  | _ => none
def capL (k : Kd) : Option LV → Option LV
  | some (.sl _ _ _ cap true) => match k with | .sl => some (.v (.int .i64 cap)) | _ => none
  | some (.v (.slice _ _ cap)) => match k with | .sl => some (.v (.int .i64 cap)) | _ => none
  | _ => none
def callL (P : Program) (ρ : Rho) (c : Call) : Option LV :=
  match c.callee, c.args.toList, c.argTypes.toList with
  | .builtin .len, [x], [t] => lenL (kindOf P t) (ρ x)
  | .builtin .cap, [x], [t] => capL (kindOf P t) (ρ x)
  | .builtin .min, [x, y], _ => match ρ x, ρ y with | some (.v a), some (.v b) => (minV a b).map .v | _, _ => none
  | .builtin .max, [x, y], _ => match ρ x, ρ y with | some (.v a), some (.v b) => (maxV a b).map .v | _, _ => none
  | _, _, _ => none
def sliceL (k : Kd) (e : Elem) (x : Option LV) (lo hi : Option (Option LV)) : Option LV :=
  match k, e, x with
  | .sl, .sl size, some (.sl id off len cap ex) => match bndL 0 lo, bndL len hi with
    | some l, some h => if 0 ≤ l ∧ l ≤ h ∧ h ≤ cap then (if l < cap then some (.sl id (off + l.toNat * size) (h.toNat - l.toNat) (cap - l.toNat) ex) else if ex then some (.sl id off (h.toNat - l.toNat) (cap - l.toNat) ex) else some .us) else none
    | _, _ => none
  | .sl, .sl _, some (.v (.slice none 0 0)) => match bndL 0 lo, bndL 0 hi with
    | some 0, some 0 => some (.v (.slice none 0 0))
    | _, _ => none
  | .str, _, some (.v (.string s)) => match bndL 0 lo, bndL s.size hi with
    | some l, some h => if 0 ≤ l ∧ l ≤ h ∧ h ≤ s.size then some (.v (.string (s.extract l.toNat h.toNat))) else none
    | _, _ => none
  | _, _, _ => none
def opP (P : Program) (ρ : Rho) : Op → Option LV
  | .move x | .assign x => ρ x
  | .pick c x y => pickL (ρ c) (ρ x) (ρ y)
  | .fieldAddr T x f => match fieldOf P T f with | some (n, _) => atL n (ρ x) | none => none
  | .nilCheck x => atL 0 (ρ x)
  | .indexAddr T x i => ixL (elOf P T) (ρ x) (ρ i)
  | .index T x i => match P.underlying T with | some (.array len el) => indexA P len el (ρ x) (ρ i) | _ => indexL (kindOf P T) (ρ x) (ρ i)
  | .field T x f => match fieldOf P T f, ρ x with | some (n, ty), some (.ag cs) => rdL P ty cs n | some (n, ty), some (.v (.agg cs)) => rdL P ty (cs.toList.map .v) n | _, _ => none
  | .extract x n => match ρ x with | some (.tu l) => l[n]? | some (.v (.tuple l)) => (l.toList[n]?).map .v | _ => none
  | .build T ps => match allPL ρ ps.toList with | some l => buildL P T l | none => none
  | .binOp op T x y _ => binL P op T (isC x || isC y) (ρ x) (ρ y)
  | .unOp op _ x => match ρ x with | some (.v a) => (unV op a).map .v | _ => none
  | .convert s d x => match hasU P s, ρ x with | true, some (.v a) => (convV P d a).map .v | _, _ => none
  | .makeFunc fn f c => match allL ρ f.toList, allL ρ c.toList with | some l, some m => some (.f fn l m) | _, _ => none
  | .makeInterface T x => match P.underlying T, ρ x with | some (.interface _), _ => none | some _, some a => some (.i T a) | _, _ => none
  | .call c => callL P ρ c
  | .slice T x lo hi none => sliceL (kindOf P T) (elOf P T) (ρ x) (lo.map ρ) (hi.map ρ)
  | _ => none
def OR (e : Env) (ρ : Rho) (σ : St) : Prop := ∀ x v, ρ x = some v → ∃ y, ev σ x = .v y ∧ VR e v y
theorem cellsL_VR {e : Env} {x : LV} {y : Value} (h : VR e x y) : VRs e (cellsL x) y.cells.toList := by
  have one : ∀ (z : LV), cellsL z = [z] → VR e z y → y.cells = #[y] → VRs e (cellsL z) y.cells.toList := by
    intro z h1 h2 h3; rw [h1, h3]; simp only [VRs]; exact ⟨_, _, rfl, h2, by simp⟩
  have k := h
  cases x with
  | v x =>
    simp only [VR] at h; subst h
    cases y <;> first | exact VRs.map_v e _ | exact one _ rfl k rfl
  | ag cs => simp only [VR] at h; obtain ⟨cs', rfl, h⟩ := h; simpa only [cellsL, Value.cells] using h
  | p a b => simp only [VR] at h; obtain ⟨b, x, _, rfl⟩ := h; exact one _ rfl k rfl
  | sl a b c d f => simp only [VR] at h; obtain ⟨b, x, _, rfl⟩ := h; exact one _ rfl k rfl
  | m a => simp only [VR] at h; obtain ⟨b, x, _, rfl⟩ := h; exact one _ rfl k rfl
  | f a b c => simp only [VR] at h; obtain ⟨b, x, rfl, _⟩ := h; exact one _ rfl k rfl
  | i a b => simp only [VR] at h; obtain ⟨b, rfl, _⟩ := h; exact one _ rfl k rfl
  | tu a => simp only [VR] at h; obtain ⟨b, rfl, _⟩ := h; exact one _ rfl k rfl
  | d0 a => simp only [VR] at h; obtain ⟨b, s, n, c, _, rfl⟩ := h; exact one _ rfl k rfl
  | d1 a => simp only [VR] at h; obtain ⟨b, s, n, _, rfl⟩ := h; exact one _ rfl k rfl
  | us => simp only [VR] at h; obtain ⟨b, s, n, rfl⟩ := h; exact one _ rfl k rfl
theorem OR.allL {e : Env} {ρ : Rho} {σ : St} (h : OR e ρ σ) : ∀ (l : List Operand) {r : List LV}, allL ρ l = some r → ∃ r', allV (ev σ) l = some r' ∧ VRs e r r'
  | [], r, hr => by simp only [Ke.allL, Option.some.injEq] at hr; subst hr; exact ⟨[], rfl, by simp [VRs]⟩
  | x :: l, r, hr => by
    simp only [Ke.allL] at hr
    split at hr
    · rename_i a r2 ha hr2
      cases hr
      obtain ⟨y, h1, h2⟩ := h x a ha
      obtain ⟨ys, h3, h4⟩ := h.allL l hr2
      exact ⟨y :: ys, by simp only [allV, h1, h3], by simp only [VRs]; exact ⟨y, ys, rfl, h2, h4⟩⟩
    · cases hr
def PR (e : Env) : List (Nat × LV) → List (Nat × Value) → Prop
  | [], l => l = []
  | (i, x) :: r, l => ∃ y ys, l = (i, y) :: ys ∧ VR e x y ∧ PR e r ys
theorem OR.allPL {e : Env} {ρ : Rho} {σ : St} (h : OR e ρ σ) : ∀ (l : List (Nat × Operand)) {r : List (Nat × LV)}, allPL ρ l = some r → ∃ r', allP (ev σ) l = some r' ∧ PR e r r'
  | [], r, hr => by simp only [Ke.allPL, Option.some.injEq] at hr; subst hr; exact ⟨[], rfl, by simp [PR]⟩
  | (i, x) :: l, r, hr => by
    simp only [Ke.allPL] at hr
    split at hr
    · rename_i a r2 ha hr2
      cases hr
      obtain ⟨y, h1, h2⟩ := h x a ha
      obtain ⟨ys, h3, h4⟩ := h.allPL l hr2
      exact ⟨(i, y) :: ys, by simp only [allP, h1, h3], by simp only [PR]; exact ⟨y, ys, rfl, h2, h4⟩⟩
    · cases hr
theorem fillLL_VR {e : Env} {place : Nat → Option (Nat × Nat)} : ∀ {parts : List (Nat × LV)} {parts' : List (Nat × Value)}, PR e parts parts' → ∀ {c : List LV} {c' : List Value}, VRs e c c' → ∀ {r : List LV}, fillLL place c parts = some r →
    ∃ r', fillL place c' parts' = some r' ∧ VRs e r r'
  | [], l, k, c, c', hc, r, h => by simp only [PR] at k; subst k; simp only [fillLL, Option.some.injEq] at h; subst h; exact ⟨c', rfl, hc⟩
  | (i, x) :: parts, l, k, c, c', hc, r, h => by
    simp only [PR] at k; obtain ⟨y, ys, rfl, h1, h2⟩ := k
    simp only [fillLL] at h
    split at h
    · cases h
    · rename_i off size hp
      split at h
      · rename_i hh
        have hx := cellsL_VR h1
        obtain ⟨r', h3, h4⟩ := fillLL_VR h2 (hx.setL hc off) h
        refine ⟨r', ?_, h4⟩
        simp only [fillL, hp]
        rw [if_pos ⟨by rw [hx.length]; exact hh.1, by rw [hc.length]; exact hh.2⟩]
        exact h3
      · cases h
theorem buildL_VR {e : Env} {P : Program} {T : TypeId} {parts : List (Nat × LV)} {parts' : List (Nat × Value)} (k : PR e parts parts') {r : LV} (h : buildL P T parts = some r) : ∃ r', buildV P T parts' = some r' ∧ VR e r r' := by
  unfold buildL at h; unfold buildV
  cases hz : zeroOf P T with
  | none => rw [hz] at h; cases h
  | some z =>
    rw [hz] at h
    simp only at h ⊢
    have fin : ∀ (pl : Nat → Option (Nat × Nat)), (fillLL pl (z.cells.toList.map .v) parts).map LV.ag = some r → ∃ r', (fillL pl z.cells.toList parts').map (fun l => Value.agg l.toArray) = some r' ∧ VR e r r' := by
      intro pl hh
      simp only [Option.map_eq_some_iff] at hh
      obtain ⟨l, hl, rfl⟩ := hh
      obtain ⟨l', h1, h2⟩ := fillLL_VR k (VRs.map_v e z.cells.toList) hl
      exact ⟨.agg l'.toArray, by rw [h1]; rfl, by simp only [VR]; exact ⟨l', rfl, h2⟩⟩
    have fin2 : (if isSt P T then (fillLL (placeOf P T) (z.cells.toList.map .v) parts).map LV.ag else none) = some r → ∃ r', (if isSt P T then (fillL (placeOf P T) z.cells.toList parts').map (fun l => Value.agg l.toArray) else none) = some r' ∧ VR e r r' := by
      intro hh
      split at hh
      · rename_i hs; rw [if_pos hs]; exact fin _ hh
      · cases hh
    cases he : elOf P T with
    | arr a b => rw [he] at h; exact fin _ h
    | sl a => rw [he] at h; exact fin2 h
    | none => rw [he] at h; exact fin2 h
theorem rdL_VR {e : Env} {P : Program} {T : TypeId} {cs : List LV} {cs' : List Value} (k : VRs e cs cs') {off : Nat} {r : LV} (h : rdL P T cs off = some r) : ∃ r', rdCells P T cs' off = some r' ∧ VR e r r' := by
  unfold rdL at h; unfold rdCells
  cases ha : aggOf P T with
  | none => rw [ha] at h; cases h
  | some o =>
    cases o with
    | none =>
      rw [ha] at h
      obtain ⟨y, h1, h2⟩ := k.get h
      exact ⟨y, h1, h2⟩
    | some n =>
      rw [ha] at h
      simp only at h ⊢
      split at h
      · rename_i hle
        cases h
        rw [if_pos (by rw [k.length]; exact hle)]
        exact ⟨_, rfl, by simp only [VR]; exact ⟨_, rfl, (k.drop off).take n⟩⟩
      · cases h
end Go.Ke
end
section
namespace Go.Ke
open Go Go.Sx
theorem run_eqV {P : Program} {w : World} {T : TypeId} {d : TypeDesc} (hu : P.underlying T = some d) {e : Env} {c : Bool} {x y : LV} {x' y' : Value} {r : Bool} (hx : VR e x x') (hy : VR e y y') (h : eqL P d c x y = some r) {ox oy : Operand} (hc : c = (isC ox || isC oy)) :
    (Op.equal T x' y').run P w = .ok r w ∧ (∀ op, (eqGuard op T ox oy x' y').run P w = .ok () w) ∧ binOp .eql T x' y' = (do pure (.bool (← Op.equal T x' y'))) ∧ binOp .neq T x' y' = (do pure (.bool (!(← Op.equal T x' y')))) := by
  have key : ∀ k, Op.maxDepth = k + 1 → (Op.equal T x' y').run P w = .ok r w ∧ (∀ op, (eqGuard op T ox oy x' y').run P w = .ok () w) ∧ binOp .eql T x' y' = (do pure (.bool (← Op.equal T x' y'))) ∧ binOp .neq T x' y' = (do pure (.bool (!(← Op.equal T x' y')))) := by
    intro k hk
    unfold eqL at h
    split at h <;> try simp only [VR] at hx hy
    case h_1 =>
      rename_i ms t k1 n t' k2 n'
      obtain ⟨x1, rfl, hx⟩ := hx
      obtain ⟨y1, rfl, hy⟩ := hy
      subst hx; subst hy
      refine ⟨?_, fun op => by cases op <;> simp [eqGuard], rfl, rfl⟩
      split at h
      · rename_i hne
        cases h
        unfold Op.equal; rw [hk]
        simp [Op.equalIn, run_underlying hu, Sem.run_bind, Result.andThen, hne]
      · rename_i hne
        have hne : t = t' := by simpa using hne
        subst hne
        split at h
        · rename_i hc2
          cases h
          obtain ⟨c1, rfl⟩ := hc2
          unfold cmpInt at c1
          cases hi : P.info? t with
          | none => rw [hi] at c1; cases c1
          | some i =>
            rw [hi] at c1
            cases hut : P.underlying t with
            | none => rw [hut] at c1; cases c1
            | some d2 =>
              rw [hut] at c1
              cases d2 <;> try (cases c1; done)
              simp only at c1
              have hti : (typeInfo t).run P w = .ok i w := by simp [typeInfo, program, Sem.run, hi]
              unfold Op.equal; rw [hk]
              cases k with
              | zero => exact absurd hk (by decide)
              | succ k =>
                simp [Op.equalIn, run_underlying hu, run_underlying hut, Sem.run_bind, Result.andThen, hti, c1]
        · cases h
    case h_2 =>
      cases h; subst hx; subst hy
      rename_i a b c d n
      exact ⟨by unfold Op.equal; rw [hk]; cases c <;> simp [Op.equalIn, run_underlying hu, Sem.run_bind, Result.andThen], fun op => by cases op <;> simp [eqGuard], rfl, rfl⟩
    case h_3 =>
      cases h; subst hy; obtain ⟨b, x, _, rfl⟩ := hx
      exact ⟨by unfold Op.equal; rw [hk]; simp [Op.equalIn, run_underlying hu, Sem.run_bind, Result.andThen], fun op => by cases op <;> simp [eqGuard], rfl, rfl⟩
    case h_4 =>
      cases h; subst hx; obtain ⟨b, x, _, rfl⟩ := hy
      exact ⟨by unfold Op.equal; rw [hk]; simp [Op.equalIn, run_underlying hu, Sem.run_bind, Result.andThen], fun op => by cases op <;> simp [eqGuard], rfl, rfl⟩
    case h_5 =>
      split at h
      · cases h; subst hx; subst hy
        rename_i hcc
        rw [hc] at hcc
        refine ⟨by unfold Op.equal; rw [hk]; simp [Op.equalIn, run_underlying hu, Sem.run_bind, Result.andThen], fun op => ?_, rfl, rfl⟩
        unfold eqGuard
        cases ox <;> cases oy <;> first | (exact Bool.noConfusion hcc) | (cases op <;> simp)
      · cases h
    case h_6 =>
      cases h; subst hx; obtain ⟨b, rfl, _⟩ := hy
      exact ⟨by unfold Op.equal; rw [hk]; simp [Op.equalIn, run_underlying hu, Sem.run_bind, Result.andThen], fun op => by cases op <;> simp [eqGuard], rfl, rfl⟩
    case h_7 =>
      cases h; subst hy; obtain ⟨b, rfl, _⟩ := hx
      exact ⟨by unfold Op.equal; rw [hk]; simp [Op.equalIn, run_underlying hu, Sem.run_bind, Result.andThen], fun op => by cases op <;> simp [eqGuard], rfl, rfl⟩
    case h_8 =>
      cases h; subst hx; subst hy
      exact ⟨by unfold Op.equal; rw [hk]; simp [Op.equalIn, run_underlying hu, Sem.run_bind, Result.andThen], fun op => by cases op <;> simp [eqGuard], rfl, rfl⟩
    case h_9 =>
      cases h; subst hx; subst hy
      exact ⟨by unfold Op.equal; rw [hk]; simp [Op.equalIn, run_underlying hu, Sem.run_bind, Result.andThen], fun op => by cases op <;> simp [eqGuard], rfl, rfl⟩
    case h_10 =>
      cases h; subst hy; obtain ⟨b, x, _, rfl⟩ := hx
      exact ⟨by unfold Op.equal; rw [hk]; simp [Op.equalIn, run_underlying hu, Sem.run_bind, Result.andThen], fun op => by cases op <;> simp [eqGuard], rfl, rfl⟩
    case h_11 =>
      cases h; subst hx; obtain ⟨b, x, _, rfl⟩ := hy
      exact ⟨by unfold Op.equal; rw [hk]; simp [Op.equalIn, run_underlying hu, Sem.run_bind, Result.andThen], fun op => by cases op <;> simp [eqGuard], rfl, rfl⟩
    case h_12 =>
      cases h; subst hx; subst hy
      exact ⟨by unfold Op.equal; rw [hk]; simp [Op.equalIn, run_underlying hu, Sem.run_bind, Result.andThen], fun op => by cases op <;> simp [eqGuard], rfl, rfl⟩
    case h_13 =>
      cases h; subst hy; obtain ⟨b, x, _, rfl⟩ := hx
      exact ⟨by unfold Op.equal; rw [hk]; simp [Op.equalIn, run_underlying hu, Sem.run_bind, Result.andThen], fun op => by cases op <;> simp [eqGuard], rfl, rfl⟩
    case h_14 =>
      cases h; subst hx; subst hy
      exact ⟨by unfold Op.equal; rw [hk]; simp [Op.equalIn, run_underlying hu, Sem.run_bind, Result.andThen], fun op => by cases op <;> simp [eqGuard], rfl, rfl⟩
    case h_15 =>
      cases h; subst hy; obtain ⟨b, x, rfl, _⟩ := hx
      exact ⟨by unfold Op.equal; rw [hk]; simp [Op.equalIn, run_underlying hu, Sem.run_bind, Result.andThen], fun op => by cases op <;> simp [eqGuard], rfl, rfl⟩
    case h_16 => cases h
  exact key 9999 rfl
theorem knownS_of {σ : St} {op : Op} (hs : noSel op = true) (h : ∀ x ∈ op.operands.toList, ∃ y, ev σ x = .v y) : knownS σ op = true := by
  simp only [knownS, hs, Bool.true_and, List.all_eq_true]
  intro x hx
  obtain ⟨y, hy⟩ := h x hx
  rw [hy]; rfl
theorem opP_sound {P : Program} {e : Env} {ρ : Rho} {σ : St} {H : PH} {o : Oper} {v : LV} (hO : OR e ρ σ) (h : opP P ρ o.op = some v) : ∃ y, VR e v y ∧ Val P σ H o (.v y) := by
  obtain ⟨dst, op, type, pos, after, guard⟩ := o
  simp only at h
  have ok : ∀ y, pv P σ.bx (ev σ) op = some (True, .v y) → Val P σ H ⟨dst, op, type, pos, after, guard⟩ (.v y) := fun y hy => .inl ⟨True, hy, trivial⟩
  cases op <;> simp only [opP] at h <;> try (cases h; done)
  case move x => obtain ⟨y, h1, h2⟩ := hO _ _ h; exact ⟨y, h2, ok y (by simp only [pv, h1])⟩
  case assign x => obtain ⟨y, h1, h2⟩ := hO _ _ h; exact ⟨y, h2, ok y (by simp only [pv, h1])⟩
  case pick c x y =>
    unfold pickL at h
    split at h
    · rename_i b hb
      obtain ⟨z, h1, h2⟩ := hO _ _ hb
      simp only [VR] at h2; subst h2
      cases b
      · obtain ⟨y', h3, h4⟩ := hO _ _ (by simpa using h)
        exact ⟨y', h4, ok _ (by simp [pv, h1, h3])⟩
      · obtain ⟨y', h3, h4⟩ := hO _ _ (by simpa using h)
        exact ⟨y', h4, ok _ (by simp [pv, h1, h3])⟩
    · cases h
  case fieldAddr T x f =>
    split at h
    · rename_i n ty hf
      unfold atL at h
      split at h
      · rename_i id off hx
        cases h
        obtain ⟨z, h1, h2⟩ := hO _ _ hx
        simp only [VR] at h2; obtain ⟨b, sp, h3, rfl⟩ := h2
        exact ⟨_, by simp only [VR]; exact ⟨b, sp, h3, rfl⟩, ok _ (by simp only [pv, hf, h1, pvAt])⟩
      · cases h
    · cases h
  case nilCheck x =>
    unfold atL at h
    split at h
    · rename_i id off hx
      cases h
      obtain ⟨z, h1, h2⟩ := hO _ _ hx
      simp only [VR] at h2; obtain ⟨b, sp, h3, rfl⟩ := h2
      exact ⟨_, by simp only [VR, Nat.add_zero]; exact ⟨b, sp, h3, rfl⟩, ok _ (by simp only [pv, h1, pvNil])⟩
    · cases h
  case indexAddr T x i =>
    unfold ixL at h
    split at h
    · rename_i len size id off k n he hx hi
      split at h
      · rename_i hh
        cases h
        obtain ⟨z, h1, h2⟩ := hO _ _ hx
        obtain ⟨z', h3, h4⟩ := hO _ _ hi
        simp only [VR] at h2 h4; obtain ⟨b, sp, h5, rfl⟩ := h2; subst h4
        exact ⟨_, by simp only [VR]; exact ⟨b, sp, h5, rfl⟩, .inl ⟨_, by simp only [pv, he, h1, h3, pvIx], hh⟩⟩
      · cases h
    · rename_i size id off len cap ex k n he hx hi
      split at h
      · rename_i hh
        cases h
        obtain ⟨z, h1, h2⟩ := hO _ _ hx
        obtain ⟨z', h3, h4⟩ := hO _ _ hi
        simp only [VR] at h2 h4; obtain ⟨b, sp, h5, rfl⟩ := h2; subst h4
        exact ⟨_, by simp only [VR]; exact ⟨b, sp, h5, rfl⟩, .inl ⟨_, by simp only [pv, he, h1, h3, pvIx], hh⟩⟩
      · cases h
    · cases h
  case index T x i =>
    split at h
    · rename_i len el hu
      unfold indexA at h
      split at h
      · rename_i j cs k n hj hx hi
        split at h
        · rename_i hh
          obtain ⟨z, h1, h2⟩ := hO _ _ hx
          obtain ⟨z', h3, h4⟩ := hO _ _ hi
          simp only [VR] at h2 h4; obtain ⟨cs', rfl, h2⟩ := h2; subst h4
          obtain ⟨y, h5, h6⟩ := rdL_VR h2 h
          refine ⟨y, h6, .inr ⟨y, rfl, knownS_of rfl (by simp [Op.operands, h1, h3]), fun w _ => ?_⟩⟩
          have hp : (part el cs'.toArray (n.toNat * j.size)).run P w = .ok y w := run_part (by simpa using h5)
          have sz : (sizeOf el).run P w = .ok j.size w := by simp [sizeOf, typeInfo, program, Sem.run, hj]
          have e1 : (Instr.index T (.agg cs'.toArray) (.int k n)).run P w = .ok y w := by
            simp only [Instr.index, Sem.run_bind, asIntOf, kindOf_und hu]
            simp [Result.andThen, kindOf_und hu, hh, sz, hp]
          simp [execOp, cenv, h1, h3, e1, Result.andThen]
        · cases h
      · cases h
    · unfold indexL at h
      split at h
      · rename_i s k n he hx hi
        split at h
        · rename_i hh
          cases h
          obtain ⟨z, h1, h2⟩ := hO _ _ hx
          obtain ⟨z', h3, h4⟩ := hO _ _ hi
          simp only [VR] at h2 h4; subst h2; subst h4
          exact ⟨.int .u8 (byteAt s n.toNat), by simp only [VR], .inl ⟨_, by simp only [pv, he, h1, h3, pvIndex], hh⟩⟩
        · cases h
      · cases h
  case field T x f =>
    split at h
    · rename_i n ty cs hf hx
      obtain ⟨z, h1, h2⟩ := hO _ _ hx
      simp only [VR] at h2; obtain ⟨cs', rfl, h2⟩ := h2
      obtain ⟨r', h3, h4⟩ := rdL_VR h2 h
      exact ⟨r', h4, ok _ (by simp only [pv, hf, h1, h3, okV])⟩
    · rename_i n ty cs hf hx
      obtain ⟨z, h1, h2⟩ := hO _ _ hx
      simp only [VR] at h2; subst h2
      obtain ⟨r', h3, h4⟩ := rdL_VR (VRs.map_v e cs.toList) h
      exact ⟨r', h4, ok _ (by simp only [pv, hf, h1, h3, okV])⟩
    · cases h
  case extract x n =>
    split at h
    · rename_i l hx
      obtain ⟨z, h1, h2⟩ := hO _ _ hx
      simp only [VR] at h2; obtain ⟨cs', rfl, h2⟩ := h2
      obtain ⟨r', h3, h4⟩ := h2.get h
      exact ⟨r', h4, ok _ (by simp only [pv, h1, h3, okV])⟩
    · rename_i l hx
      simp only [Option.map_eq_some_iff] at h
      obtain ⟨a, ha, rfl⟩ := h
      obtain ⟨z, h1, h2⟩ := hO _ _ hx
      simp only [VR] at h2; subst h2
      exact ⟨a, by simp only [VR], ok _ (by simp only [pv, h1, okV, ha])⟩
    · cases h
  case build T ps =>
    split at h
    · rename_i l hl
      obtain ⟨r', h1, h2⟩ := hO.allPL _ hl
      obtain ⟨y, h3, h4⟩ := buildL_VR h2 h
      exact ⟨y, h4, ok _ (by simp only [pv, h1, h3, okV])⟩
    · cases h
  case unOp uo T x =>
    split at h
    · rename_i a hx
      simp only [Option.map_eq_some_iff] at h
      obtain ⟨r, hr, rfl⟩ := h
      obtain ⟨z, h1, h2⟩ := hO _ _ hx
      simp only [VR] at h2; subst h2
      exact ⟨r, by simp only [VR], ok _ (by simp only [pv, h1, hr, okV])⟩
    · cases h
  case convert s d x =>
    split at h
    · rename_i a hs hx
      simp only [Option.map_eq_some_iff] at h
      obtain ⟨r, hr, rfl⟩ := h
      obtain ⟨z, h1, h2⟩ := hO _ _ hx
      simp only [VR] at h2; subst h2
      exact ⟨r, by simp only [VR], ok _ (by simp only [pv, hs, h1, hr, okV])⟩
    · cases h
  case makeFunc fn f c =>
    split at h
    · rename_i l m hl hm
      cases h
      obtain ⟨l', h1, h2⟩ := hO.allL _ hl
      obtain ⟨m', h3, h4⟩ := hO.allL _ hm
      exact ⟨_, by simp only [VR]; exact ⟨l', m', rfl, h2, h4⟩, ok _ (by simp only [pv, h1, h3])⟩
    · cases h
  case makeInterface T x =>
    split at h
    · cases h
    · rename_i d a hu hd ha
      cases h
      obtain ⟨z, h1, h2⟩ := hO _ _ ha
      refine ⟨.iface T z, by simp only [VR]; exact ⟨z, rfl, h2⟩, .inr ⟨_, rfl, knownS_of rfl (by simp [Op.operands, h1]), fun w _ => ?_⟩⟩
      have e1 : (Instr.makeInterface T z).run P w = .ok (.iface T z) w := by
        simp only [Instr.makeInterface, Sem.run_bind, kindOf_und hd, Result.andThen]
        cases d <;> first | rfl | exact absurd rfl (hu _)
      simp [execOp, cenv, h1, e1, Result.andThen]
    · cases h
  case call c =>
    unfold callL at h
    split at h
    · rename_i x t hc ha ht
      unfold lenL at h
      split at h <;> rename_i hx <;> first | (cases h; done) | skip
      all_goals
        obtain ⟨z, h1, h2⟩ := hO _ _ hx
        split at h
        · rename_i hk
          cases h
          simp only [VR] at h2
          first
          | (obtain ⟨b, sp, h5, rfl⟩ := h2; exact ⟨_, by simp only [VR]; rfl, ok _ (by simp only [pv, pvCall, hc, ha, ht, h1, lenV, hk, okV])⟩)
          | (subst h2; exact ⟨_, by simp only [VR]; rfl, ok _ (by simp only [pv, pvCall, hc, ha, ht, h1, lenV, hk, okV])⟩)
        · cases h
    · rename_i x t hc ha ht
      unfold capL at h
      split at h <;> rename_i hx <;> first | (cases h; done) | skip
      all_goals
        obtain ⟨z, h1, h2⟩ := hO _ _ hx
        split at h
        · rename_i hk
          cases h
          simp only [VR] at h2
          first
          | (obtain ⟨b, sp, h5, rfl⟩ := h2; exact ⟨_, by simp only [VR]; rfl, ok _ (by simp only [pv, pvCall, hc, ha, ht, h1, capV, hk, okV, if_true])⟩)
          | (subst h2; exact ⟨_, by simp only [VR]; rfl, ok _ (by simp only [pv, pvCall, hc, ha, ht, h1, capV, hk, okV])⟩)
        · cases h
    · rename_i x y hc ha
      split at h
      · rename_i a b hx hy
        simp only [Option.map_eq_some_iff] at h
        obtain ⟨r, hr, rfl⟩ := h
        obtain ⟨z, h1, h2⟩ := hO _ _ hx
        obtain ⟨z', h3, h4⟩ := hO _ _ hy
        simp only [VR] at h2 h4; subst h2; subst h4
        exact ⟨r, by simp only [VR], ok _ (by simp only [pv, pvCall, hc, ha, h1, h3, hr, okV])⟩
      · cases h
    · rename_i x y hc ha
      split at h
      · rename_i a b hx hy
        simp only [Option.map_eq_some_iff] at h
        obtain ⟨r, hr, rfl⟩ := h
        obtain ⟨z, h1, h2⟩ := hO _ _ hx
        obtain ⟨z', h3, h4⟩ := hO _ _ hy
        simp only [VR] at h2 h4; subst h2; subst h4
        exact ⟨r, by simp only [VR], ok _ (by simp only [pv, pvCall, hc, ha, h1, h3, hr, okV])⟩
      · cases h
    · cases h
  case binOp bo T x y T2 =>
    have fin : ∀ {a b : LV} {y1 y2 : Value}, ev σ x = .v y1 → ev σ y = .v y2 → VR e a y1 → VR e b y2 →
        eqOp P bo (P.underlying T) (isC x || isC y) a b = some v → ∃ z, VR e v z ∧ Val P σ H ⟨dst, .binOp bo T x y T2, type, pos, after, guard⟩ (.v z) := by
      intro a b y1 y2 hx hy ha hb hh
      unfold eqOp at hh
      split at hh
      · rename_i d hu
        simp only [Option.map_eq_some_iff] at hh
        obtain ⟨r, hr, rfl⟩ := hh
        refine ⟨.bool r, by simp only [VR], .inr ⟨_, rfl, knownS_of rfl (by simp [Op.operands, hx, hy]), fun w _ => ?_⟩⟩
        obtain ⟨e1, e2, e3, e4⟩ := run_eqV (w := w) hu ha hb hr (ox := x) (oy := y) rfl
        simp [execOp, cenv, hx, hy, e1, e2, e3, Result.andThen]
      · rename_i d hu
        simp only [Option.map_eq_some_iff] at hh
        obtain ⟨r, hr, rfl⟩ := hh
        refine ⟨.bool !r, by simp only [VR], .inr ⟨_, rfl, knownS_of rfl (by simp [Op.operands, hx, hy]), fun w _ => ?_⟩⟩
        obtain ⟨e1, e2, e3, e4⟩ := run_eqV (w := w) hu ha hb hr (ox := x) (oy := y) rfl
        simp [execOp, cenv, hx, hy, e1, e2, e4, Result.andThen]
      · cases hh
    unfold binL at h
    split at h
    · rename_i a b hx hy
      obtain ⟨z, h1, h2⟩ := hO _ _ hx
      obtain ⟨z', h3, h4⟩ := hO _ _ hy
      split at h
      · rename_i r hr
        cases h
        simp only [VR] at h2 h4; subst h2; subst h4
        exact ⟨r, by simp only [VR], ok _ (by simp only [pv, h1, h3, hr, okV])⟩
      · exact fin h1 h3 h2 h4 h
    · rename_i a b hab hx hy
      obtain ⟨z, h1, h2⟩ := hO _ _ hx
      obtain ⟨z', h3, h4⟩ := hO _ _ hy
      exact fin h1 h3 h2 h4 h
    · cases h
  case slice T x lo hi mx =>
    cases mx with
    | some m => simp at h
    | none =>
      simp only at h
      have bnd : ∀ (n : Nat) (q : Option Operand) (i : Int), bndL n (q.map ρ) = some i → bndV n (q.map (ev σ)) = some i := by
        intro n q i hq
        cases q with
        | none => exact hq
        | some y =>
          simp only [Option.map_some] at hq ⊢
          cases hr : ρ y with
          | none => rw [hr] at hq; simp [bndL] at hq
          | some a =>
            rw [hr] at hq
            unfold bndL at hq
            split at hq
            · rename_i hh; cases hh
            · rename_i k j hj
              cases hq; cases hj
              obtain ⟨z, h1, h2⟩ := hO _ _ hr
              simp only [VR] at h2; subst h2
              rw [h1]; rfl
            · cases hq
      unfold sliceL at h
      split at h
      · rename_i size id off len cap ex hk he hx
        obtain ⟨z, h1, h2⟩ := hO _ _ hx
        have h2' := h2
        simp only [VR] at h2; obtain ⟨b, sp, h5, rfl⟩ := h2
        split at h
        · rename_i l hh hl hhh
          have q1 := bnd _ _ _ hl
          have q2 := bnd _ _ _ hhh
          split at h
          · rename_i hc
            obtain ⟨c1, c2, c3⟩ := hc
            have hcap : cap ≤ (if ex = true then cap else cap + sp) := by split <;> omega
            generalize hcc : (if ex = true then cap else cap + sp) = cap' at hcap h1
            have val : ∀ y, y = Value.slice (slA (some ⟨b, off, none⟩) size l.toNat cap') (hh.toNat - l.toNat) (cap' - l.toNat) → Val P σ H ⟨dst, .slice T x lo hi none, type, pos, after, guard⟩ (.v y) := by
              intro y hy
              subst hy
              cases hi with
              | none => exact .inl ⟨0 ≤ l ∧ l ≤ hh, by simp only [pv, hk, he, h1, pvSlice, q1]; simp only [Option.map_none] at q2 ⊢; simp only [q2], ⟨c1, c2⟩⟩
              | some q => exact .inl ⟨(0 ≤ l ∧ l ≤ hh) ∧ hh ≤ cap', by simp only [pv, hk, he, h1, pvSlice, q1]; simp only [Option.map_some] at q2 ⊢; simp only [q2], ⟨⟨c1, c2⟩, by omega⟩⟩
            split at h
            · rename_i c4
              cases h
              refine ⟨_, ?_, val _ rfl⟩
              simp only [VR]
              refine ⟨b, sp, h5, ?_⟩
              have : slA (some ⟨b, off, none⟩) size l.toNat cap' = some ⟨b, off + l.toNat * size, none⟩ := by
                unfold slA
                rw [if_neg (by omega)]
                simp [add_block]
              rw [this, ← hcc]
              congr 1
              split <;> omega
            · rename_i c4
              split at h
              · rename_i hex
                cases h
                refine ⟨_, ?_, val _ rfl⟩
                simp only [VR]
                refine ⟨b, sp, h5, ?_⟩
                rw [hex] at hcc ⊢
                simp only [if_true] at hcc ⊢
                have : slA (some ⟨b, off, none⟩) size l.toNat cap' = some ⟨b, off, none⟩ := by
                  unfold slA
                  rw [if_pos (by omega)]
                rw [this, hcc]
              · cases h
                refine ⟨_, ?_, val _ rfl⟩
                simp only [VR]
                exact ⟨_, _, _, rfl⟩
          · cases h
        · cases h
      · rename_i size hk he hx
        obtain ⟨z, h1, h2⟩ := hO _ _ hx
        simp only [VR] at h2; subst h2
        split at h
        · rename_i hl hhh
          cases h
          have q1 := bnd _ _ _ hl
          have q2 := bnd _ _ _ hhh
          refine ⟨.slice none 0 0, by simp only [VR], ?_⟩
          cases hi with
          | none => exact .inl ⟨(0 : Int) ≤ 0 ∧ (0 : Int) ≤ 0, by simp only [pv, hk, he, h1, pvSlice, q1]; simp only [Option.map_none] at q2 ⊢; simp only [q2]; simp [slA], by simp⟩
          | some q => exact .inl ⟨((0 : Int) ≤ 0 ∧ (0 : Int) ≤ 0) ∧ (0 : Int) ≤ (0 : Nat), by simp only [pv, hk, he, h1, pvSlice, q1]; simp only [Option.map_some] at q2 ⊢; simp only [q2]; simp [slA], by simp⟩
        · cases h
      · rename_i s hk hx
        obtain ⟨z, h1, h2⟩ := hO _ _ hx
        simp only [VR] at h2; subst h2
        split at h
        · rename_i l hh hl hhh
          have q1 := bnd _ _ _ hl
          have q2 := bnd _ _ _ hhh
          split at h
          · rename_i hc
            cases h
            exact ⟨.string (s.extract l.toNat hh.toNat), by simp only [VR], .inl ⟨(0 ≤ l ∧ l ≤ hh) ∧ hh ≤ s.size, by simp only [pv, hk, h1, pvSlice, q1, q2], ⟨⟨hc.1, hc.2.1⟩, hc.2.2⟩⟩⟩
          · cases h
        · cases h
      · cases h
end Go.Ke
end
section
namespace Go.Ke
open Go Go.Sx
inductive Tr (α : Type) where
  | lf
  | nd (l : Tr α) (o : Option α) (r : Tr α)
 noncomputable def Tr.get {α : Type} (t : Tr α) : Nat → Option α :=
  Tr.rec (motive := fun _ => Nat → Option α) (fun _ => none) (fun _ o _ il ir n => Nat.rec (motive := fun _ => Option α) o (fun m _ => Nat.rec (motive := fun _ => Option α) (il (Nat.div m 2)) (fun _ _ => ir (Nat.div m 2)) (Nat.mod m 2)) n) t
 noncomputable def Tr.one {α : Type} (f n : Nat) (a : α) : Tr α :=
  Nat.rec (motive := fun _ => Nat → Tr α) (fun _ => .lf) (fun _ ih n => Nat.rec (motive := fun _ => Tr α) (.nd .lf (some a) .lf) (fun m _ => Nat.rec (motive := fun _ => Tr α) (.nd (ih (Nat.div m 2)) none .lf) (fun _ _ => .nd .lf none (ih (Nat.div m 2))) (Nat.mod m 2)) n) f n
 noncomputable def Tr.set {α : Type} (t : Tr α) (n : Nat) (a : α) : Tr α :=
  Tr.rec (motive := fun _ => Nat → Tr α) (fun n => Tr.one 31 n a) (fun l o r il ir n => Nat.rec (motive := fun _ => Tr α) (.nd l (some a) r) (fun m _ => Nat.rec (motive := fun _ => Tr α) (.nd (il (Nat.div m 2)) o r) (fun _ _ => .nd l o (ir (Nat.div m 2))) (Nat.mod m 2)) n) t n
 noncomputable def Tr.del {α : Type} (t : Tr α) : Nat → Tr α :=
  Tr.rec (motive := fun _ => Nat → Tr α) (fun _ => .lf) (fun l o r il ir n => Nat.rec (motive := fun _ => Tr α) (.nd l none r) (fun m _ => Nat.rec (motive := fun _ => Tr α) (.nd (il (Nat.div m 2)) o r) (fun _ _ => .nd l o (ir (Nat.div m 2))) (Nat.mod m 2)) n) t
theorem par_rec {γ : Type} (m : Nat) (a b : γ) : (Nat.rec (motive := fun _ => γ) a (fun _ _ => b) (Nat.mod m 2) : γ) = if m % 2 = 0 then a else b := by
  have : Nat.mod m 2 = m % 2 := rfl
  rw [this]
  rcases Nat.mod_two_eq_zero_or_one m with h | h <;> rw [h] <;> rfl
theorem Tr.get_nd {α : Type} (l : Tr α) (o : Option α) (r : Tr α) (n : Nat) : (Tr.nd l o r).get n = if n = 0 then o else if (n - 1) % 2 = 0 then l.get ((n - 1) / 2) else r.get ((n - 1) / 2) := by
  cases n with
  | zero => rfl
  | succ m => exact (par_rec m _ _).trans (by simp; rfl)
theorem Tr.set_nd {α : Type} (l : Tr α) (o : Option α) (r : Tr α) (n : Nat) (a : α) : (Tr.nd l o r).set n a = if n = 0 then .nd l (some a) r else if (n - 1) % 2 = 0 then .nd (l.set ((n - 1) / 2) a) o r else .nd l o (r.set ((n - 1) / 2) a) := by
  cases n with
  | zero => rfl
  | succ m => exact (par_rec m _ _).trans (by simp; rfl)
theorem Tr.del_nd {α : Type} (l : Tr α) (o : Option α) (r : Tr α) (n : Nat) : (Tr.nd l o r).del n = if n = 0 then .nd l none r else if (n - 1) % 2 = 0 then .nd (l.del ((n - 1) / 2)) o r else .nd l o (r.del ((n - 1) / 2)) := by
  cases n with
  | zero => rfl
  | succ m => exact (par_rec m _ _).trans (by simp; rfl)
theorem Tr.one_s {α : Type} (f n : Nat) (a : α) : Tr.one (f + 1) n a = if n = 0 then .nd .lf (some a) .lf else if (n - 1) % 2 = 0 then .nd (Tr.one f ((n - 1) / 2) a) none .lf else .nd .lf none (Tr.one f ((n - 1) / 2) a) := by
  cases n with
  | zero => rfl
  | succ m => exact (par_rec m _ _).trans (by simp; rfl)
theorem Tr.get_step {α : Type} {l l' r r' : Tr α} {o o' : Option α} {n m : Nat} {x : Option α} (h0 : n = 0 → o' = x ∧ l' = l ∧ r' = r) (h1 : n ≠ 0 → o' = o ∧ (((n - 1) % 2 = 0 ∧ r' = r ∧ ∀ k, l'.get k = if k = (n - 1) / 2 then x else l.get k) ∨ ((n - 1) % 2 ≠ 0 ∧ l' = l ∧ ∀ k, r'.get k = if k = (n - 1) / 2 then x else r.get k))) :
    (Tr.nd l' o' r').get m = if m = n then x else (Tr.nd l o r).get m := by
  rw [Tr.get_nd, Tr.get_nd]
  by_cases n0 : n = 0
  · obtain ⟨rfl, rfl, rfl⟩ := h0 n0
    subst n0
    by_cases m0 : m = 0 <;> simp [m0]
  · obtain ⟨rfl, h⟩ := h1 n0
    by_cases m0 : m = 0
    · rw [if_pos m0, if_pos m0, if_neg (by omega)]
    · rw [if_neg m0, if_neg m0]
      rcases h with ⟨p, rfl, h⟩ | ⟨p, rfl, h⟩
      · by_cases q : (m - 1) % 2 = 0
        · rw [if_pos q, if_pos q, h]
          by_cases e : m = n
          · rw [if_pos e, if_pos (by omega)]
          · rw [if_neg e, if_neg (by omega)]
        · rw [if_neg q, if_neg q, if_neg (by intro e; subst e; exact q p)]
      · by_cases q : (m - 1) % 2 = 0
        · rw [if_pos q, if_pos q, if_neg (by intro e; subst e; exact p q)]
        · rw [if_neg q, if_neg q, h]
          by_cases e : m = n
          · rw [if_pos e, if_pos (by omega)]
          · rw [if_neg e, if_neg (by omega)]
theorem Tr.get_one {α : Type} : ∀ (f n : Nat) (a : α) (m : Nat), n + 1 < 2 ^ f → (Tr.one f n a).get m = if m = n then some a else none
  | 0, n, a, m, h => by simp at h
  | f + 1, n, a, m, h => by
    have hp : 2 ^ (f + 1) = 2 * 2 ^ f := by rw [Nat.pow_succ, Nat.mul_comm]
    have lf : ∀ k, (Tr.lf : Tr α).get k = none := fun _ => rfl
    have e0 : ∀ k, (Tr.nd .lf none .lf : Tr α).get k = none := by intro k; rw [Tr.get_nd]; simp [lf]
    have key : (Tr.one (f + 1) n a).get m = if m = n then some a else (Tr.nd .lf none .lf : Tr α).get m := by
     rw [Tr.one_s]
     by_cases n0 : n = 0
     · rw [if_pos n0]; exact Tr.get_step (fun _ => ⟨rfl, rfl, rfl⟩) (fun h => (h n0).elim)
     · rw [if_neg n0]
       by_cases p : (n - 1) % 2 = 0
       · rw [if_pos p]; exact Tr.get_step (fun h => (n0 h).elim) (fun _ => ⟨rfl, .inl ⟨p, rfl, fun k => by rw [Tr.get_one f _ a k (by omega), lf]⟩⟩)
       · rw [if_neg p]; exact Tr.get_step (fun h => (n0 h).elim) (fun _ => ⟨rfl, .inr ⟨p, rfl, fun k => by rw [Tr.get_one f _ a k (by omega), lf]⟩⟩)
    rw [key, e0]
theorem Tr.get_set {α : Type} : ∀ (t : Tr α) (n : Nat) (a : α) (m : Nat), n < 2147483647 → (t.set n a).get m = if m = n then some a else t.get m
  | .lf, n, a, m, h => by
    show (Tr.one 31 n a).get m = _; rw [Tr.get_one 31 n a m (by omega)]; rfl
  | .nd l o r, n, a, m, h => by
    rw [Tr.set_nd]
    by_cases n0 : n = 0
    · rw [if_pos n0]; exact Tr.get_step (fun _ => ⟨rfl, rfl, rfl⟩) (fun h => (h n0).elim)
    · rw [if_neg n0]
      by_cases p : (n - 1) % 2 = 0
      · rw [if_pos p]; exact Tr.get_step (fun h => (n0 h).elim) (fun _ => ⟨rfl, .inl ⟨p, rfl, fun k => Tr.get_set l _ a k (by omega)⟩⟩)
      · rw [if_neg p]; exact Tr.get_step (fun h => (n0 h).elim) (fun _ => ⟨rfl, .inr ⟨p, rfl, fun k => Tr.get_set r _ a k (by omega)⟩⟩)
theorem Tr.get_del {α : Type} : ∀ (t : Tr α) (n m : Nat), (t.del n).get m = if m = n then none else t.get m
  | .lf, n, m => by show (none : Option α) = if m = n then none else none; split <;> rfl
  | .nd l o r, n, m => by
    rw [Tr.del_nd]
    by_cases n0 : n = 0
    · rw [if_pos n0]; exact Tr.get_step (fun _ => ⟨rfl, rfl, rfl⟩) (fun h => (h n0).elim)
    · rw [if_neg n0]
      by_cases p : (n - 1) % 2 = 0
      · rw [if_pos p]; exact Tr.get_step (fun h => (n0 h).elim) (fun _ => ⟨rfl, .inl ⟨p, rfl, fun k => Tr.get_del l _ k⟩⟩)
      · rw [if_neg p]; exact Tr.get_step (fun h => (n0 h).elim) (fun _ => ⟨rfl, .inr ⟨p, rfl, fun k => Tr.get_del r _ k⟩⟩)
 noncomputable def Tr.put {α : Type} (t : Tr α) (n : Nat) (a : α) : Option (Tr α) := match Nat.blt n 2147483647 with | true => some (t.set n a) | false => none
theorem Tr.get_put {α : Type} {t t' : Tr α} {n : Nat} {a : α} (h : t.put n a = some t') (m : Nat) : t'.get m = if m = n then some a else t.get m := by
  unfold Tr.put at h
  split at h
  · rename_i hb
    cases h; exact Tr.get_set t n a m (by have : n + 1 ≤ 2147483647 := Nat.le_of_ble_eq_true hb; omega)
  · cases h
theorem VR.func0 {e : Env} {x : LV} {y z : Value} (h0 : atomL x = true) (h : VR e x y) (k : VR e x z) : y = z := by
  cases x with
  | v x => simp only [VR] at h k; rw [h, k]
  | p id off =>
    simp only [VR] at h k; obtain ⟨b, x, h1, rfl⟩ := h; obtain ⟨b', x', k1, rfl⟩ := k
    rw [h1] at k1; cases k1; rfl
  | sl id off len cap ex =>
    simp only [VR] at h k; obtain ⟨b, x, h1, rfl⟩ := h; obtain ⟨b', x', k1, rfl⟩ := k
    rw [h1] at k1; cases k1; rfl
  | m id =>
    simp only [VR] at h k; obtain ⟨b, x, h1, rfl⟩ := h; obtain ⟨b', x', k1, rfl⟩ := k
    rw [h1] at k1; cases k1; rfl
  | d0 id =>
    simp only [VR] at h k; obtain ⟨b, _, _, _, h1, _⟩ := h; obtain ⟨b', _, _, _, k1, _⟩ := k
    rw [h1] at k1; cases k1; rfl
  | d1 id =>
    simp only [VR] at h k; obtain ⟨b, _, _, h1, _⟩ := h; obtain ⟨b', _, _, k1, _⟩ := k
    rw [h1] at k1; cases k1; rfl
  | _ => cases h0
theorem VRs.func {e : Env} : ∀ {xs : List LV} {ys zs : List Value}, xs.all atomL = true → VRs e xs ys → VRs e xs zs → ys = zs
  | [], y, z, _, h, k => by simp only [VRs] at h k; rw [h, k]
  | x :: xs, y, z, h0, h, k => by
    simp only [List.all_cons, Bool.and_eq_true] at h0
    simp only [VRs] at h k; obtain ⟨y1, ys1, rfl, h1, h2⟩ := h; obtain ⟨y2, ys2, rfl, k1, k2⟩ := k
    rw [VR.func0 h0.1 h1 k1, VRs.func h0.2 h2 k2]
theorem VR.func {e : Env} {x : LV} {y z : Value} (h0 : fixL x = true) (h : VR e x y) (k : VR e x z) : y = z := by
  unfold fixL at h0
  split at h0
  · simp only [VR] at h k; obtain ⟨l1, rfl, h1⟩ := h; obtain ⟨l2, rfl, k1⟩ := k
    rw [VRs.func h0 h1 k1]
  · exact VR.func0 h0 h k
theorem ORel.blk {X : Ctx} {e : Env} {I H : PH} {id : Nat} {o : LO} (h : ORel X e I H id o) (hl : live o = true) (hle : I.le H) : ∃ b x, e id = some (.blk b x) ∧ H b ≠ none := by
  cases o <;> simp only [live] at hl <;> try (cases hl; done)
  · obtain ⟨b, x, cs, post, h1, _, h2, _⟩ := h; exact ⟨b, x, h1, by rw [h2]; simp⟩
  · obtain ⟨b, x, cs, post, ty, fz, h1, h2, _⟩ := h; exact ⟨b, x, h1, by rw [h2]; simp⟩
  · obtain ⟨b, h1, _, ⟨es, clock, h2, _⟩, _⟩ := h; exact ⟨b, 0, h1, by rw [h2]; simp⟩
theorem ORel.keep {X : Ctx} {e e2 : Env} {I H H2 : PH} {id : Nat} {o : LO} (h : ORel X e I H id o) (he : e.le e2) (hb : live o = true → ∀ b x, e id = some (.blk b x) → H2 b = H b) : ORel X e2 I H2 id o := by
  cases o with
  | cells c ty gr =>
    obtain ⟨b, x, cs, post, h1, h2, h3, h4, h5, h6⟩ := h
    exact ⟨b, x, cs, post, he _ _ h1, h2, by rw [hb rfl b x h1]; exact h3, h4.mono he, h5, h6⟩
  | ro c =>
    obtain ⟨b, x, cs, post, ty, fz, h1, h2, h3⟩ := h
    exact ⟨b, x, cs, post, ty, fz, he _ _ h1, by rw [hb rfl b x h1]; exact h2, h3.mono he⟩
  | map es kt =>
    obtain ⟨b, h1, h2, h3, h4⟩ := h
    refine ⟨b, he _ _ h1, h2, ?_, fun k hk => ⟨let ⟨u, hu⟩ := (h4 k hk).1; ⟨u, hu.mono he⟩, (h4 k hk).2⟩⟩
    refine (h3.of_eq (hb rfl b 0 h1)).congr fun y u => ?_
    constructor
    · rintro ⟨k, hk, rfl, hu⟩
      obtain ⟨⟨u', hu'⟩, hf⟩ := h4 k hk
      exact ⟨k, hk, rfl, by rw [VR.func hf hu (hu'.mono he)]; exact hu'⟩
    · rintro ⟨k, hk, rfl, hu⟩
      exact ⟨k, hk, rfl, hu.mono he⟩
  | dia t =>
    obtain ⟨a, b, h1, h2⟩ := h
    exact ⟨a, b, he _ _ h1, h2⟩
  | dead => trivial
theorem Rel.write {X : Ctx} {e : Env} {M : LM} {I H : PH} (h : Rel X e M I H) {id b x : Nat} {o oi : LO} {ob : Obj} (hid : e id = some (.blk b x)) (hI : I b = none) (hM : M id = some oi) (hl : live oi = true)
    (ho : ORel X e I (H.put b ob) id o) : Rel X e (M.up id o) I (H.put b ob) := by
  have hne : ∀ j oj y, j ≠ id → M j = some oj → live oj = true → ∀ b', e j = some (.blk b' y) → b' ≠ b := by
    intro j oj y hj hMj hlj b' hb' e1
    subst e1
    exact hj (h.inj j id oj oi b' y x hMj hM hlj hl hb' hid)
  refine ⟨fun c o' hc => ?_, fun i j oi' oj' b' y z hi hj hli hlj hbi hbj => ?_, fun j o' hj => ?_⟩
  · have : c ≠ b := fun e1 => by subst e1; rw [hI] at hc; cases hc
    simp only [PH.put, if_neg this]; exact h.le _ _ hc
  · by_cases ei : i = id
    · by_cases ej : j = id
      · rw [ei, ej]
      · exfalso
        rw [ei, hid] at hbi; cases hbi
        rw [LM.up_other ej] at hj
        exact hne j oj' z ej hj hlj _ hbj rfl
    · rw [LM.up_other ei] at hi
      by_cases ej : j = id
      · exfalso
        rw [ej, hid] at hbj; cases hbj
        exact hne i oi' y ei hi hli _ hbi rfl
      · rw [LM.up_other ej] at hj
        exact h.inj i j oi' oj' b' y z hi hj hli hlj hbi hbj
  · by_cases ej : j = id
    · subst ej; rw [LM.up_self] at hj; cases hj; exact ho
    · rw [LM.up_other ej] at hj
      refine (h.ob j o' hj).keep (Env.le_refl e) fun hlj b' y hb' => ?_
      have := hne j o' y ej hj hlj b' hb'
      simp [PH.put, this]
theorem Rel.fresh {X : Ctx} {e : Env} {M : LM} {I H : PH} (h : Rel X e M I H) {id b x : Nat} {o : LO} {ob : Obj} (he : e id = none) (hM : M id = none) (hb : H b = none)
    (ho : ORel X (e.up id (.blk b x)) I (H.put b ob) id o) : Rel X (e.up id (.blk b x)) (M.up id o) I (H.put b ob) := by
  have hne : ∀ j oj y, M j = some oj → live oj = true → ∀ b', e j = some (.blk b' y) → b' ≠ b := by
    intro j oj y hMj hlj b' hb' e1
    subst e1
    obtain ⟨b2, x2, h1, h2⟩ := (h.ob j oj hMj).blk hlj h.le
    rw [hb'] at h1; cases h1; exact h2 hb
  refine ⟨PH.le_trans h.le (PH.le_put hb), fun i j oi' oj' b' y z hi hj hli hlj hbi hbj => ?_, fun j o' hj => ?_⟩
  · by_cases ei : i = id
    · by_cases ej : j = id
      · rw [ei, ej]
      · exfalso
        rw [ei, Env.up_self] at hbi; cases hbi
        rw [LM.up_other ej] at hj; rw [Env.up_other ej] at hbj
        exact hne j oj' z hj hlj _ hbj rfl
    · rw [LM.up_other ei] at hi; rw [Env.up_other ei] at hbi
      by_cases ej : j = id
      · exfalso
        rw [ej, Env.up_self] at hbj; cases hbj
        exact hne i oi' y hi hli _ hbi rfl
      · rw [LM.up_other ej] at hj; rw [Env.up_other ej] at hbj
        exact h.inj i j oi' oj' b' y z hi hj hli hlj hbi hbj
  · by_cases ej : j = id
    · subst ej; rw [LM.up_self] at hj; cases hj; exact ho
    · rw [LM.up_other ej] at hj
      refine (h.ob j o' hj).keep (Env.le_up he) fun hlj b' y hb' => ?_
      have := hne j o' y hj hlj b' hb'
      simp [PH.put, this]
theorem Rel.kill {X : Ctx} {e : Env} {M : LM} {I H : PH} (h : Rel X e M I H) (id : Nat) : Rel X e (M.up id .dead) I H := by
  refine ⟨h.le, fun i j oi' oj' b' y z hi hj hli hlj hbi hbj => ?_, fun j o' hj => ?_⟩
  · have f : ∀ k ok, (M.up id .dead) k = some ok → live ok = true → M k = some ok := by
      intro k ok hk hl
      by_cases ek : k = id
      · subst ek; rw [LM.up_self] at hk; cases hk; cases hl
      · rwa [LM.up_other ek] at hk
    exact h.inj i j oi' oj' b' y z (f i oi' hi hli) (f j oj' hj hlj) hli hlj hbi hbj
  · by_cases ej : j = id
    · subst ej; rw [LM.up_self] at hj; cases hj; trivial
    · rw [LM.up_other ej] at hj; exact h.ob j o' hj
end Go.Ke
end
section
namespace Go.Ke
open Go Go.Sx
structure KS where
  L : Tr LO
  c : Nat
structure HR where
  res : LV
  s : KS
  fp : List Nat
  ws : List Nat
 noncomputable def ovl (M : LM) (ws : List Nat) (lo hi : Nat) (L : Tr LO) : LM := fun id => if id ∈ ws ∨ (lo ≤ id ∧ id < hi) then L.get id else M id
 noncomputable def newO (s : KS) (o : LO) (v : Nat → LV) : Option HR := match s.L.put s.c o with | some L => some ⟨v s.c, ⟨L, s.c + 1⟩, [], []⟩ | none => none
 noncomputable def setO (s : KS) (id : Nat) (o : LO) : Option HR := match s.L.put id o with | some L => some ⟨.v undef, ⟨L, s.c⟩, [id], [id]⟩ | none => none
 noncomputable def loadL (P : Program) (T : TypeId) (x : Option LV) (s : KS) : Option HR :=
  match x with
  | some (.p id off) => match s.L.get id with
    | some (.cells c _ _) => match rdL P T c off with | some v => some ⟨v, s, [id], []⟩ | none => none
    | some (.ro c) => match rdL P T c off with | some v => some ⟨v, s, [id], []⟩ | none => none
    | _ => none
  | _ => none
 noncomputable def oneL : LV → Bool | .ag _ => false | .tu _ => false | .v (.agg _) => false | .v (.tuple _) => false | _ => true
 noncomputable def storeL (P : Program) (T : TypeId) (x y : Option LV) (s : KS) : Option HR :=
  match x, y with
  | some (.p id off), some v => match s.L.get id with
    | some (.cells c ty gr) => if szOf P T = some (cellsL v).length ∧ off + (cellsL v).length ≤ c.length ∧ (cellsL v).all oneL = true then setO s id (.cells (setL c off (cellsL v)) ty gr) else none
    | _ => none
  | _, _ => none
 noncomputable def partsL (size : Nat) : Nat → List (Nat × LV) → Bool
  | _, [] => true
  | j, (i, v) :: r => i == j && (cellsL v).length == size && partsL size (j + 1) r
 noncomputable def flatL : List (Nat × LV) → List LV
  | [] => []
  | (_, v) :: r => cellsL v ++ flatL r
 noncomputable def slOf (P : Program) (t : TypeId) : Option (TypeId × Nat × Nat) :=
  match P.underlying t with
  | some (.slice e) => match P.info? e with
    | some i => match i.zero with
      | some z => if z.cells.size = i.size ∧ 0 < i.size then some (e, i.size, i.bytes) else none
      | none => none
    | none => none
  | _ => none
theorem slOf_SlT {P : Program} {t e : TypeId} {size bytes : Nat} (h : slOf P t = some (e, size, bytes)) : SlT P t e size bytes := by
  unfold slOf at h
  split at h
  · rename_i e' hu
    split at h
    · rename_i i hi
      split at h
      · rename_i z hz
        split at h
        · rename_i hc
          cases h
          exact ⟨i, z, hu, hi, hz, rfl, rfl, hc.1, hc.2⟩
        · cases h
      · cases h
    · cases h
  · cases h
 noncomputable def bslL (P : Program) (t : TypeId) (len : Nat) (ps : Option (List (Nat × LV))) (s : KS) : Option HR :=
  match slOf P t, ps with
  | some (e, size, _), some ps => if partsL size 0 ps = true ∧ ps.length = len ∧ len * size ≤ 16777216 then newO s (.cells (flatL ps) e false) (fun c => .sl c 0 len len true) else none
  | _, _ => none
 noncomputable def Eff (X : Ctx) (ol : List Oper) (o : Oper) (σ : St) (e : Env) (I H : PH) (res : LV) (M2 : LM) (lo hi : Nat) : Prop :=
  ∀ K : St → PH → Prop, (∀ e2 y I2 H2, e.le e2 → (∀ id, ¬ (lo ≤ id ∧ id < hi) → e2 id = e id) → VR e2 res y → Rel X e2 M2 I2 H2 → I.le I2 → K (σ.put o.dst (.v y)) H2) → Vstep X.P ol o K σ H
theorem ovl_nil (M : LM) (lo : Nat) (L : Tr LO) : ovl M [] lo lo L = M := by
  funext id; unfold ovl; rw [if_neg (by simp <;> omega)]
theorem ovl_one {M : LM} {lo id : Nat} {L : Tr LO} {o : LO} (h : L.get id = some o) : ovl M [id] lo lo L = M.up id o := by
  funext j; unfold ovl LM.up
  by_cases e : j = id
  · subst e; simp [h]
  · rw [if_neg e, if_neg (by simp [e] <;> omega)]
theorem ovl_new {M : LM} {lo : Nat} {L : Tr LO} {o : LO} (h : L.get lo = some o) : ovl M [] lo (lo + 1) L = M.up lo o := by
  funext j; unfold ovl LM.up
  by_cases e : j = lo
  · subst e; simp [h]
  · rw [if_neg e, if_neg (by simp <;> omega)]
theorem ovl_two {M : LM} {lo id : Nat} {L : Tr LO} {o o' : LO} (hn : id ≠ lo) (h : L.get lo = some o) (h' : L.get id = some o') : ovl M [id] lo (lo + 1) L = (M.up id o').up lo o := by
  funext j; unfold ovl LM.up
  by_cases e : j = lo
  · subst e; simp [h]
  · rw [if_neg e]
    by_cases e' : j = id
    · subst e'; simp [h']
    · rw [if_neg e', if_neg (by simp [e'] <;> omega)]
section
variable {X : Ctx} {ol : List Oper} {o : Oper} {σ : St} {e : Env} {M : LM} {I H : PH} {ρ : Rho}
theorem Eff.pure {v : LV} (hw : wantedS ol σ o = some true) (hR : Rel X e M I H) (h : ∃ y, VR e v y ∧ Val X.P σ H o (.v y)) (lo : Nat) : Eff X ol o σ e I H v M lo lo := by
  intro K hK
  obtain ⟨y, h1, h2⟩ := h
  exact .inr ⟨hw, .inl ⟨.v y, h2, hK e y I H (Env.le_refl e) (fun _ _ => rfl) h1 hR (PH.le_refl I)⟩⟩
theorem Eff.spec {v : LV} {M2 : LM} {lo hi : Nat} (hw : wantedS ol σ o = some true) (hk : knownS σ o.op = true)
    (h : OpSpec X.P (execOp (cenv σ) o) H fun sv H2 => ∃ e2 y, (sv = .v y ∨ (sv = .u ∧ o.dst = none)) ∧ e.le e2 ∧ (∀ id, ¬ (lo ≤ id ∧ id < hi) → e2 id = e id) ∧ VR e2 v y ∧ Rel X e2 M2 I H2) : Eff X ol o σ e I H v M2 lo hi := by
  intro K hK
  refine .inr ⟨hw, .inr (.inr (.inr ⟨hk, h.mono fun sv H2 ⟨e2, y, h1, h2, h3, h4, h5⟩ => ?_⟩))⟩
  have := hK e2 y I H2 h2 h3 h4 h5 (PH.le_refl I)
  rcases h1 with rfl | ⟨rfl, hd⟩
  · exact this
  · rw [hd] at this ⊢; exact this
theorem cenv_v {x : Operand} {y : Value} (h : ev σ x = .v y) : cenv σ x = y := by unfold cenv; rw [h]
theorem load_sound {T : TypeId} {x : Operand} (hop : o.op = .load T x) (hw : wantedS ol σ o = some true) (hO : OR e ρ σ) {s : KS} {r : HR} (h : loadL X.P T (ρ x) s = some r) (hR : Rel X e M I H)
    (hfp : ∀ id ∈ r.fp, ∀ ob, s.L.get id = some ob → M id = some ob) : r.s = s ∧ r.ws = [] ∧ ∀ lo, Eff X ol o σ e I H r.res M lo lo := by
  unfold loadL at h
  have main : ∀ {id off : Nat} {c : List LV} {v : LV} {b x' : Nat} {cs post : List Value} {ty : TypeId} {fz : Nat × Nat}, ρ x = some (.p id off) → rdL X.P T c off = some v → e id = some (.blk b x') → H b = some (.cells (cs ++ post).toArray ty fz) → VRs e c cs → ∀ lo, Eff X ol o σ e I H v M lo lo := by
    intro id off c v b x' cs post ty fz hx hr hb hH hc lo
    obtain ⟨z, h1, h2⟩ := hO _ _ hx
    simp only [VR] at h2; obtain ⟨b2, x2, h3, rfl⟩ := h2
    rw [hb] at h3; cases h3
    obtain ⟨y, h4, h5⟩ := rdL_VR hc hr
    refine Eff.pure hw hR ⟨y, h5, .inr ⟨y, rfl, ?_, ?_⟩⟩ lo
    · exact knownS_of (by rw [hop]; rfl) (by rw [hop]; simp [Op.operands, h1])
    · have hcells : rdCells X.P T (cs ++ post) off = some y := by
        unfold rdCells at h4 ⊢
        split at h4
        · split at h4
          · rename_i n ha hle
            cases h4
            rw [if_pos (by simp; omega), List.drop_append_of_le_length (by omega), List.take_append_of_le_length (by simp; omega)]
          · cases h4
        · rename_i ha
          have : off < cs.length := by
            rcases Nat.lt_or_ge off cs.length with h | h
            · exact h
            · rw [List.getElem?_eq_none h] at h4; cases h4
          rw [List.getElem?_append_left this]; exact h4
        · cases h4
      intro w hw'
      have := run_loadVar (P := X.P) (w := w) (off := off) (b := b) (cs := cs ++ post) (hw' _ _ hH) hcells
      simp [execOp, hop, cenv_v h1, Instr.loadAt, Instr.sureAddr, this, Result.andThen]
  split at h
  · rename_i id off hx
    split at h
    · rename_i c ty gr hg
      split at h
      · rename_i v hv
        cases h
        refine ⟨rfl, rfl, ?_⟩
        obtain ⟨b, x', cs, post, h1, _, h2, h3, _⟩ := hR.ob id _ (hfp id (.head _) _ hg)
        exact main hx hv h1 h2 h3
      · cases h
    · rename_i c hg
      split at h
      · rename_i v hv
        cases h
        refine ⟨rfl, rfl, ?_⟩
        obtain ⟨b, x', cs, post, ty, fz, h1, h2, h3⟩ := hR.ob id _ (hfp id (.head _) _ hg)
        exact main hx hv h1 h2 h3
      · cases h
    · cases h
  · cases h
end
end Go.Ke
end
section
namespace Go.Ke
open Go Go.Sx
theorem newO_some {s : KS} {o : LO} {v : Nat → LV} {r : HR} (h : newO s o v = some r) : r.res = v s.c ∧ r.s.c = s.c + 1 ∧ r.fp = [] ∧ r.ws = [] ∧ ∀ m, r.s.L.get m = if m = s.c then some o else s.L.get m := by
  unfold newO at h
  split at h
  · rename_i L hL; cases h; exact ⟨rfl, rfl, rfl, rfl, fun m => Tr.get_put hL m⟩
  · cases h
theorem setO_some {s : KS} {id : Nat} {o : LO} {r : HR} (h : setO s id o = some r) : r.res = .v undef ∧ r.s.c = s.c ∧ r.fp = [id] ∧ r.ws = [id] ∧ ∀ m, r.s.L.get m = if m = id then some o else s.L.get m := by
  unfold setO at h
  split at h
  · rename_i L hL; cases h; exact ⟨rfl, rfl, rfl, rfl, fun m => Tr.get_put hL m⟩
  · cases h
structure Good (X : Ctx) (ol : List Oper) (o : Oper) (σ : St) (e : Env) (M : LM) (I H : PH) (s : KS) (r : HR) : Prop where
  cle : s.c ≤ r.s.c
  keep : ∀ id, id ∉ r.ws → ¬ (s.c ≤ id ∧ id < r.s.c) → r.s.L.get id = s.L.get id
  sub : ∀ id ∈ r.ws, id ∈ r.fp ∧ ∃ ob, s.L.get id = some ob
  eff : Eff X ol o σ e I H r.res (ovl M r.ws s.c r.s.c r.s.L) s.c r.s.c
section
variable {X : Ctx} {ol : List Oper} {o : Oper} {σ : St} {e : Env} {M : LM} {I H : PH} {ρ : Rho}
theorem Good.look {s : KS} {r : HR} (h1 : r.s = s) (h2 : r.ws = []) (h : Eff X ol o σ e I H r.res M s.c s.c) : Good X ol o σ e M I H s r := by
  refine ⟨by rw [h1]; exact Nat.le_refl _, fun id _ _ => by rw [h1], fun id hid => (by rw [h2] at hid; cases hid), ?_⟩
  rw [h1, h2, ovl_nil]; exact h
theorem Good.new {s : KS} {r : HR} {ob : LO} {v : Nat → LV} (h : newO s ob v = some r) (heff : Eff X ol o σ e I H (v s.c) (M.up s.c ob) s.c (s.c + 1)) : Good X ol o σ e M I H s r := by
  obtain ⟨h1, h2, h3, h4, h5⟩ := newO_some h
  refine ⟨by omega, fun id _ h => by rw [h5, if_neg (by omega)], fun id hid => (by rw [h4] at hid; cases hid), ?_⟩
  rw [h1, h2, h4, ovl_new (by rw [h5, if_pos rfl])]; exact heff
theorem Good.set {s : KS} {r : HR} {id : Nat} {ob : LO} (h : setO s id ob = some r) (hg : ∃ ob, s.L.get id = some ob) (heff : Eff X ol o σ e I H (.v undef) (M.up id ob) s.c s.c) : Good X ol o σ e M I H s r := by
  obtain ⟨h1, h2, h3, h4, h5⟩ := setO_some h
  refine ⟨by omega, fun j hj _ => by rw [h5, if_neg (by rw [h4] at hj; simpa using hj)], fun j hj => by rw [h4] at hj; rw [h3]; rw [List.mem_singleton] at hj; subst hj; exact ⟨.head _, hg⟩, ?_⟩
  rw [h1, h2, h4, ovl_one (by rw [h5, if_pos rfl])]; exact heff
theorem eff_new {c : Nat} {cs : List LV} {cs' : List Value} {T : TypeId} {res : LV} {f : Nat → Value} (hw : wantedS ol σ o = some true) (hk : knownS σ o.op = true) (hR : Rel X e M I H) (hM : M c = none) (he : e c = none) (hc : VRs e cs cs') (hs : (szOf X.P T).isSome = true)
    (hrun : OpSpec X.P (execOp (cenv σ) o) H fun sv H2 => ∃ b, H b = none ∧ sv = .v (f b) ∧ H2 = H.put b (.cells cs'.toArray T (0, 0))) (hv : ∀ b, VR (e.up c (.blk b 0)) res (f b)) :
    Eff X ol o σ e I H res (M.up c (.cells cs T false)) c (c + 1) := by
  refine Eff.spec hw hk (hrun.mono fun sv H2 ⟨b, hb, h1, h2⟩ => ?_)
  subst h2
  refine ⟨e.up c (.blk b 0), f b, .inl h1, Env.le_up he, fun id hid => Env.up_other (by omega), hv b, hR.fresh he hM hb ?_⟩
  obtain ⟨s, hs⟩ := Option.isSome_iff_exists.1 hs
  refine ⟨b, 0, cs', [], Env.up_self _ _ _, PH.le_none hR.le hb, by simp [PH.put], hc.mono (Env.le_up he), ⟨s, hs, by simp, fun h => by cases h⟩, fun _ => rfl⟩
 noncomputable def allocL (P : Program) (T : TypeId) (s : KS) : Option HR :=
  match zeroOf P T, (szOf P T).isSome with
  | some z, true => newO s (.cells (z.cells.toList.map .v) T false) (fun c => .p c 0)
  | _, _ => none
theorem alloc_sound {T : TypeId} (hop : o.op = .alloc T) (hw : wantedS ol σ o = some true) {s : KS} {r : HR} (h : allocL X.P T s = some r) (hR : Rel X e M I H) (hfr : M s.c = none ∧ e s.c = none) : Good X ol o σ e M I H s r := by
  unfold allocL at h
  split at h
  · rename_i z hz hs
    refine Good.new h (eff_new hw (knownS_of (by rw [hop]; rfl) (by rw [hop]; simp [Op.operands])) hR hfr.1 hfr.2 (VRs.map_v e _) hs (f := fun b => .pointer (some ⟨b, 0, none⟩)) ?_ ?_)
    · intro w hw'
      obtain ⟨n1, n2⟩ := Step.new hw' (.cells z.cells.toList.toArray T (0, 0))
      have hrun : (execOp (cenv σ) o).run X.P w = .ok (.value (.pointer (some ⟨w.heap.size, 0, none⟩))) { w with heap := w.heap.push (.cells z.cells.toList.toArray T (0, 0)) } := by
        unfold zeroOf at hz
        cases hi : X.P.info? T with
        | none => rw [hi] at hz; cases hz
        | some i =>
          rw [hi] at hz
          simp only [Option.bind_some] at hz
          have zv : (zeroValue T).run X.P w = .ok z w := by simp [zeroValue, typeInfo, program, Sem.run, hi, hz]
          simp [execOp, hop, Instr.alloc, zv, Result.andThen, newVar, newRow, newObj, Sem.run]
      rw [hrun]
      exact ⟨_, n2, w.heap.size, n1, rfl, rfl⟩
    · intro b; simp only [VR]; exact ⟨b, 0, Env.up_self _ _ _, rfl⟩
  · cases h
 noncomputable def boxL (P : Program) (T : TypeId) (x : Option LV) (s : KS) : Option HR :=
  match x, (szOf P T).isSome with
  | some v, true => newO s (.cells (cellsL v) T false) (fun c => .p c 0)
  | _, _ => none
theorem box_sound {T : TypeId} {x : Operand} (hop : o.op = .box T x) (hw : wantedS ol σ o = some true) (hO : OR e ρ σ) {s : KS} {r : HR} (h : boxL X.P T (ρ x) s = some r) (hR : Rel X e M I H) (hfr : M s.c = none ∧ e s.c = none) : Good X ol o σ e M I H s r := by
  unfold boxL at h
  split at h
  · rename_i v hx hs
    obtain ⟨y, h1, h2⟩ := hO _ _ hx
    refine Good.new h (eff_new hw (knownS_of (by rw [hop]; rfl) (by rw [hop]; simp [Op.operands, h1])) hR hfr.1 hfr.2 (cellsL_VR h2) hs (f := fun b => .pointer (some ⟨b, 0, none⟩)) ?_ ?_)
    · intro w hw'
      obtain ⟨n1, n2⟩ := Step.new hw' (.cells y.cells.toList.toArray T (0, 0))
      have hrun : (execOp (cenv σ) o).run X.P w = .ok (.value (.pointer (some ⟨w.heap.size, 0, none⟩))) { w with heap := w.heap.push (.cells y.cells.toList.toArray T (0, 0)) } := by
        simp [execOp, hop, Instr.box, cenv_v h1, Result.andThen, newVar, newRow, newObj, Sem.run]
      rw [hrun]
      exact ⟨_, n2, w.heap.size, n1, rfl, rfl⟩
    · intro b; simp only [VR]; exact ⟨b, 0, Env.up_self _ _ _, rfl⟩
  · cases h
theorem partsL_VR {size : Nat} : ∀ {ps : List (Nat × LV)} {ps' : List (Nat × Value)} {j : Nat}, PR e ps ps' → partsL size j ps = true → partsOk size j ps' = true ∧ ps'.length = ps.length ∧ VRs e (flatL ps) (flatP ps')
  | [], l, j, h, _ => by simp only [PR] at h; subst h; simp [partsOk, flatL, flatP, VRs]
  | (i, x) :: ps, l, j, h, k => by
    simp only [PR] at h; obtain ⟨y, ys, rfl, h1, h2⟩ := h
    simp only [partsL, Bool.and_eq_true] at k
    obtain ⟨⟨k1, k2⟩, k3⟩ := k
    obtain ⟨a, b, c⟩ := partsL_VR h2 k3
    have hx := cellsL_VR h1
    refine ⟨?_, by simp [b], ?_⟩
    · simp only [partsOk, Bool.and_eq_true]
      have hl := hx.length
      simp only [beq_iff_eq] at k1 k2
      refine ⟨⟨?_, ?_⟩, a⟩ <;> simp_all
    · simp only [flatL, flatP]; exact hx.append c
theorem bsl_sound {t : TypeId} {len : Nat} {parts : Array (Nat × Operand)} (hop : o.op = .buildSlice t len parts) (hw : wantedS ol σ o = some true) (hO : OR e ρ σ) {s : KS} {r : HR} (h : bslL X.P t len (allPL ρ parts.toList) s = some r) (hR : Rel X e M I H) (hfr : M s.c = none ∧ e s.c = none) : Good X ol o σ e M I H s r := by
  unfold bslL at h
  split at h
  · rename_i el size bytes ps hsl hps
    split at h
    · rename_i hc
      obtain ⟨c1, c2, c3⟩ := hc
      obtain ⟨ps', q1, q2⟩ := hO.allPL _ hps
      obtain ⟨q3, q4, q5⟩ := partsL_VR q2 c1
      have ht := slOf_SlT hsl
      obtain ⟨k1, k2⟩ := spec_buildSlice (H := H) hop q1 ht q3 (by omega) c3
      refine Good.new h (eff_new hw k1 hR hfr.1 hfr.2 q5 ?_ k2 (fun b => ?_))
      · obtain ⟨i, z, _, hi, _⟩ := ht
        simp [szOf, hi]
      · simp only [VR]; exact ⟨b, 0, Env.up_self _ _ _, by simp⟩
    · cases h
  · cases h
theorem setCs_app : ∀ (cs pre post : List Value) (off : Nat), off + cs.length ≤ pre.length → setCs (pre ++ post) off cs = setCs pre off cs ++ post
  | [], pre, post, off, _ => rfl
  | c :: cs, pre, post, off, h => by
    simp only [List.length_cons] at h
    simp only [setCs]
    rw [List.set_append_left _ _ (by omega), setCs_app cs _ post _ (by simp; omega)]
theorem oneL_one {x : LV} {y : Value} (h : VR e x y) (k : oneL x = true) : one y = true := by
  cases x <;> simp only [VR] at h
  case v x => subst h; cases y <;> first | rfl | cases k
  case p a b => obtain ⟨_, _, _, rfl⟩ := h; rfl
  case sl a b c d f => obtain ⟨_, _, _, rfl⟩ := h; rfl
  case m a => obtain ⟨_, _, _, rfl⟩ := h; rfl
  case f a b c => obtain ⟨_, _, rfl, _⟩ := h; rfl
  case i a b => obtain ⟨_, rfl, _⟩ := h; rfl
  case ag => cases k
  case tu => cases k
  case d0 a => obtain ⟨_, _, _, _, _, rfl⟩ := h; rfl
  case us => obtain ⟨_, _, _, rfl⟩ := h; rfl
  case d1 a => obtain ⟨_, _, _, _, rfl⟩ := h; rfl
theorem oneL_all : ∀ {xs : List LV} {ys : List Value}, VRs e xs ys → xs.all oneL = true → ys.all one = true
  | [], l, h, _ => by simp only [VRs] at h; subst h; rfl
  | x :: xs, l, h, k => by
    simp only [VRs] at h; obtain ⟨y, ys, rfl, h1, h2⟩ := h
    simp only [List.all_cons, Bool.and_eq_true] at k ⊢
    exact ⟨oneL_one h1 k.1, oneL_all h2 k.2⟩
theorem cellsV_of {y : Value} (h : y.cells.toList.all one = true) : cellsV y = some y.cells.toList := by
  cases y <;> simp only [cellsV, Value.cells] at h ⊢
  case agg cs => rw [if_pos h]
  case tuple => simp [one] at h
theorem store_sound {T : TypeId} {x y : Operand} (hop : o.op = .store T x y) (hd : o.dst = none) (hw : wantedS ol σ o = some true) (hO : OR e ρ σ) {s : KS} {r : HR} (h : storeL X.P T (ρ x) (ρ y) s = some r) (hR : Rel X e M I H)
    (hfp : ∀ id ∈ r.fp, ∀ ob, s.L.get id = some ob → M id = some ob) : Good X ol o σ e M I H s r := by
  unfold storeL at h
  split at h
  · rename_i id off v hx hy
    split at h
    · rename_i c ty gr hg
      split at h
      · rename_i hc
        obtain ⟨c1, c2, c3⟩ := hc
        obtain ⟨z, h1, h2⟩ := hO _ _ hx
        obtain ⟨z', h3, h4⟩ := hO _ _ hy
        obtain ⟨s1, s2, s3, s4, s5⟩ := setO_some h
        have hMi := hfp id (by rw [s3]; exact .head _) _ hg
        have hob := hR.ob id _ hMi
        obtain ⟨b, x', cs, post, e1, e2, e3, e4, e5, e6⟩ := hob
        simp only [VR] at h2; obtain ⟨b2, x2, h5, rfl⟩ := h2
        rw [e1] at h5; cases h5
        have hcv := cellsL_VR h4
        have hone := oneL_all hcv c3
        obtain ⟨k1, k2⟩ := spec_store (σ := σ) (P := X.P) hop h1 h3 e3 (cellsV_of hone) (by rw [hcv.length]; exact c1) (by simp only [List.size_toArray, List.length_append]; rw [hcv.length, e4.length]; omega)
        refine Good.set h ⟨_, hg⟩ (Eff.spec hw k1 (k2.mono fun sv H2 ⟨q1, q2⟩ => ?_))
        subst q2
        refine ⟨e, undef, .inr ⟨q1, hd⟩, Env.le_refl e, fun _ _ => rfl, by simp only [VR], hR.write e1 e2 hMi rfl ?_⟩
        refine ⟨b, x', setCs cs off z'.cells.toList, post, e1, e2, ?_, hcv.setL e4 off, by rw [setCs_length]; exact e5, e6⟩
        have : off + z'.cells.toList.length ≤ cs.length := by rw [hcv.length, e4.length]; omega
        simp only [PH.put, if_true, List.toList_toArray, setCs_app _ _ _ _ this]
      · cases h
    · cases h
  · cases h
end
end Go.Ke
end
section
namespace Go.Ke
open Go Go.Sx
theorem Rel.fresh2 {X : Ctx} {e : Env} {M : LM} {I H H2 : PH} (h : Rel X e M I H) {id g x : Nat} {o : LO} (he : e id = none) (hM : M id = none) (hI : I.le H2)
    (hne : ∀ j oj b' y, M j = some oj → live oj = true → e j = some (.blk b' y) → b' ≠ g ∧ H2 b' = H b') (ho : ORel X (e.up id (.blk g x)) I H2 id o) : Rel X (e.up id (.blk g x)) (M.up id o) I H2 := by
  refine ⟨hI, fun i j oi' oj' b' y z hi hj hli hlj hbi hbj => ?_, fun j o' hj => ?_⟩
  · by_cases ei : i = id
    · by_cases ej : j = id
      · rw [ei, ej]
      · exfalso
        rw [ei, Env.up_self] at hbi; cases hbi
        rw [LM.up_other ej] at hj; rw [Env.up_other ej] at hbj
        exact (hne j oj' _ z hj hlj hbj).1 rfl
    · rw [LM.up_other ei] at hi; rw [Env.up_other ei] at hbi
      by_cases ej : j = id
      · exfalso
        rw [ej, Env.up_self] at hbj; cases hbj
        exact (hne i oi' _ y hi hli hbi).1 rfl
      · rw [LM.up_other ej] at hj; rw [Env.up_other ej] at hbj
        exact h.inj i j oi' oj' b' y z hi hj hli hlj hbi hbj
  · by_cases ej : j = id
    · subst ej; rw [LM.up_self] at hj; cases hj; exact ho
    · rw [LM.up_other ej] at hj
      exact (h.ob j o' hj).keep (Env.le_up he) fun hlj b' y hb' => (hne j o' b' y hj hlj hb').2
 noncomputable def newsL (size : Nat) (y : Option LV) (s : KS) : Option (Nat × List LV × List Nat) :=
  match y with
  | some (.v (.slice none 0 0)) => some (0, [], [])
  | some (.sl id off m _ _) => if m = 0 then some (0, [], []) else match s.L.get id with
    | some (.cells c _ _) => if off + m * size ≤ c.length then some (m, (c.drop off).take (m * size), [id]) else none
    | some (.ro c) => if off + m * size ≤ c.length then some (m, (c.drop off).take (m * size), [id]) else none
    | _ => none
  | _ => none
 noncomputable def appNew (s : KS) (fp ws : List Nat) (L : Option (Tr LO)) (e : TypeId) (n : Nat) (cs : List LV) : Option HR :=
  match L with
  | some L => match L.put s.c (.cells cs e true) with
    | some L => some ⟨.sl s.c 0 n n false, ⟨L, s.c + 1⟩, fp, ws⟩
    | none => none
  | none => none
 noncomputable def slsT (P : Program) (t t' : TypeId) : Bool := match P.underlying t, P.underlying t' with | some (.slice e), some (.slice e') => e == e' | _, _ => false
theorem slsT_s {P : Program} {t t' : TypeId} (h : slsT P t t' = true) : ∃ e, P.underlying t = some (.slice e) ∧ P.underlying t' = some (.slice e) := by
  unfold slsT at h; split at h
  · rename_i e e' h1 h2; have := eq_of_beq h; subst this; exact ⟨_, h1, h2⟩
  · cases h
 noncomputable def appL (P : Program) (t t' : TypeId) (x y : Option LV) (s : KS) : Option HR :=
  match slOf P t, slsT P t t' with
  | some (e, size, bytes), true => match newsL size y s with
    | some (0, _, _) => match x with
      | some (.v (.slice none 0 0)) => some ⟨.v (.slice none 0 0), s, [], []⟩
      | some (.sl id off n cap ex) => if n ≤ cap then some ⟨.sl id off n cap ex, s, [], []⟩ else none
      | _ => none
    | some (m, news, fp) => if news.all oneL = true then match x with
      | some (.v (.slice none 0 0)) => if m * bytes ≤ 140737488355328 ∧ m ≤ maxLen then appNew s fp [] (some s.L) e m news else none
      | some (.sl id off n cap ex) => if (n + m) * bytes ≤ 140737488355328 ∧ n + m ≤ maxLen then match s.L.get id with
        | some (.cells c ty gr) =>
          if ex = true ∧ cap = n then (if off + n * size ≤ c.length then appNew s (id :: fp) [] (some s.L) e (n + m) ((c.drop off).take (n * size) ++ news) else none)
          else if off = 0 ∧ ty = e ∧ c.length = cap * size ∧ (gr = false ∨ ex = false) ∧ n ≤ cap ∧ cap ≤ maxLen ∧ id < s.c then appNew s (id :: fp) [id] (s.L.put id .dead) e (n + m) (c.take (n * size) ++ news) else none
        | _ => none else none
      | _ => none else none
    | none => none
  | _, _ => none
section
variable {X : Ctx} {ol : List Oper} {o : Oper} {σ : St} {e : Env} {M : LM} {I H : PH} {ρ : Rho}
theorem run_app_tt {P : Program} {t t' el ty : TypeId} {i : TypeInfo} (hi : P.info? el = some i) (h1 : P.underlying t = some (.slice el)) (h2 : P.underlying t' = some (.slice el)) (a b : Value) (w : World) :
    (Builtin.append_ #[t, t'] ty #[a, b]).run P w = (Builtin.append_ #[t, t] ty #[a, b]).run P w := by
  cases a <;> simp [Builtin.append_, run_underlying h1, run_underlying h2, sizeOf, typeInfo, hi]
theorem spec_tt {P : Program} {t t' el : TypeId} {i : TypeInfo} (hi : P.info? el = some i) {x y : Operand} {vx vy : Value} {Ψ : SV → PH → Prop} (hop : o.op = .call ⟨.builtin .append, #[x, y], #[t, t']⟩) (h1 : P.underlying t = some (.slice el)) (h2 : P.underlying t' = some (.slice el)) (hx : ev σ x = .v vx) (hy : ev σ y = .v vy)
    (h : ∀ o' : Oper, o'.op = .call ⟨.builtin .append, #[x, y], #[t, t]⟩ → knownS σ o'.op = true ∧ OpSpec P (execOp (cenv σ) o') H Ψ) : knownS σ o.op = true ∧ OpSpec P (execOp (cenv σ) o) H Ψ := by
  obtain ⟨k1, k2⟩ := h { o with op := .call ⟨.builtin .append, #[x, y], #[t, t]⟩ } rfl
  refine ⟨by rw [hop]; exact k1, fun w hw => ?_⟩
  have := k2 w hw
  have e : (execOp (cenv σ) { o with op := .call ⟨.builtin .append, #[x, y], #[t, t]⟩ }).run P w = (execOp (cenv σ) o).run P w := by
    simp [execOp, hop, resolve, cenv, hx, hy, invoke, builtin, run_app_tt hi h1 h2]
  rw [← e]; exact this
theorem spec_appendG {P : Program} {t el : TypeId} {size bytes : Nat} (ht : SlT P t el size bytes) {x y : Operand} {a : Option Addr} {n n2 m c xb xo : Nat} {olds news : List Value} (hop : o.op = .call ⟨.builtin .append, #[x, y], #[t, t]⟩)
    (hx : ev σ x = .v (.slice a n n2)) (hn2 : n2 < n + m) (hy : ev σ y = .v (.slice (some ⟨xb, xo, none⟩) m c)) (hold : n = 0 ∨ ∃ b off, a = some ⟨b, off, none⟩ ∧ Cells H b off olds) (hl : olds.length = n * size)
    (hc : Cells H xb xo news) (hnl : news.length = m * size) (h1 : news.all one = true) (h63 : n + m ≤ maxLen) (hb : (n + m) * bytes ≤ 140737488355328) :
    knownS σ o.op = true ∧ OpSpec P (execOp (cenv σ) o) H fun sv H2 => ∃ g cap zs, H g = none ∧ (n + m ≤ cap ∧ cap ≤ maxLen) ∧ zs.length = (cap - (n + m)) * size ∧ sv = .v (.slice (some ⟨g, 0, none⟩) (n + m) cap) ∧ H2 = H.put g (.cells (olds ++ news ++ zs).toArray el (0, 0)) := by
  constructor
  · simp [knownS, hop, noSel, Op.operands, Call.operands, hx, hy, isV]
  · intro w hw
    obtain ⟨i, z, a1, a2, a3, a4, a5, a6, a7⟩ := ht
    subst a4; subst a5
    have hfc : (Builtin.firstCells i.size n (.slice a n n2)).run P w.drew = .ok olds.toArray w.drew := by
      rcases hold with rfl | ⟨b, off, rfl, hcl⟩
      · have : olds = [] := by simpa using hl
        subst this
        cases a with
        | none => exact run_firstCells_none w.drew i.size 0 0 n2
        | some b => exact run_firstCells_some w.drew i.size 0 b 0 n2 [] (by simp) (fun j u h => by simp at h)
      · exact run_firstCells_some (P := P) (w := w.drew) i.size n ⟨b, off, none⟩ n n2 olds hl (cells_cell hcl (w := w.drew) hw)
    have hs : Src P i.size t (.slice (some ⟨xb, xo, none⟩) m c) m news w := Src.ofSlice w a1 ⟨xb, xo, none⟩ m c news hnl (cells_cell hc hw)
      (fun u hu => by have := List.all_eq_true.1 h1 u hu; cases u <;> first | rfl | cases this)
    have hsmall : n + m ≤ 9223372036854775807 := by simp only [maxLen] at h63; omega
    have hrun := run_append_grow_src (P := P) w t t o.type el i z a1 a2 a3 a n n2 olds hfc _ m news hs hn2 (by omega) (growslice_fits hn2 hb)
    rw [exec_append hop hx hy hrun]
    obtain ⟨n1, n2'⟩ := Step.newD hw (.cells ((olds ++ news).toArray ++ Builtin.zeroCells z.cells (grownCap w (n + m) n2 el - (n + m))) el (0, 0))
    refine ⟨_, n2', w.heap.size, grownCap w (n + m) n2 el, (Builtin.zeroCells z.cells (grownCap w (n + m) n2 el - (n + m))).toList, n1, ⟨grownCap_ge w (n + m) n2 el, grownCap_le_maxLen w (n + m) n2 el h63⟩, ?_, rfl, ?_⟩
    · rw [Array.length_toList, size_zeroCells, a6]
    · congr 2
      rw [← Array.toList_inj]; simp
theorem newsL_sound {size : Nat} {y : Operand} (hO : OR e ρ σ) {s : KS} {m : Nat} {news : List LV} {fp : List Nat} (h : newsL size (ρ y) s = some (m, news, fp)) (hR : Rel X e M I H) (hfp : ∀ id ∈ fp, ∀ ob, s.L.get id = some ob → M id = some ob) :
    (m = 0 ∧ ∃ ya c, ev σ y = .v (.slice ya 0 c)) ∨ (0 < m ∧ ∃ xb xo c news', ev σ y = .v (.slice (some ⟨xb, xo, none⟩) m c) ∧ Cells H xb xo news' ∧ VRs e news news' ∧ news'.length = m * size) := by
  unfold newsL at h
  have main : ∀ {id off len cap : Nat} {ex : Bool} {c : List LV} {b x' : Nat} {cs post : List Value} {ty : TypeId} {fz : Nat × Nat}, ρ y = some (.sl id off len cap ex) → len ≠ 0 → off + len * size ≤ c.length → some (len, (c.drop off).take (len * size), [id]) = some (m, news, fp) → e id = some (.blk b x') → H b = some (.cells (cs ++ post).toArray ty fz) → VRs e c cs →
      (m = 0 ∧ ∃ ya c, ev σ y = .v (.slice ya 0 c)) ∨ (0 < m ∧ ∃ xb xo c news', ev σ y = .v (.slice (some ⟨xb, xo, none⟩) m c) ∧ Cells H xb xo news' ∧ VRs e news news' ∧ news'.length = m * size) := by
    intro id off len cap ex c b x' cs post ty fz hy h0 hle heq hb hH hc
    cases heq
    obtain ⟨z, h1, h2⟩ := hO _ _ hy
    simp only [VR] at h2; obtain ⟨b2, x2, h3, rfl⟩ := h2
    rw [hb] at h3; cases h3
    have hlen := hc.length
    refine .inr ⟨by omega, b, off, _, (cs.drop off).take (m * size), h1, ⟨_, _, _, hH, ?_, ?_⟩, (hc.drop off).take _, ?_⟩
    · simp; omega
    · have : ((cs.drop off).take (m * size)).length = m * size := by simp; omega
      rw [this, List.drop_append_of_le_length (by omega), List.take_append_of_le_length (by simp; omega)]
    · simp; omega
  split at h
  · rename_i hy
    cases h
    obtain ⟨z, h1, h2⟩ := hO _ _ hy
    simp only [VR] at h2; subst h2
    exact .inl ⟨rfl, none, 0, h1⟩
  · rename_i id off len cap ex hy
    split at h
    · rename_i h0
      cases h
      obtain ⟨z, h1, h2⟩ := hO _ _ hy
      simp only [VR] at h2; obtain ⟨b2, x2, h3, rfl⟩ := h2
      rw [h0] at h1
      exact .inl ⟨rfl, _, _, h1⟩
    · rename_i h0
      split at h
      · rename_i c ty gr hg
        split at h
        · rename_i hle
          have hh := h
          cases h
          obtain ⟨b, x', cs, post, e1, _, e2, e3, _⟩ := hR.ob id _ (hfp id (.head _) _ hg)
          exact main hy h0 hle hh e1 e2 e3
        · cases h
      · rename_i c hg
        split at h
        · rename_i hle
          have hh := h
          cases h
          obtain ⟨b, x', cs, post, ty, fz, e1, e2, e3⟩ := hR.ob id _ (hfp id (.head _) _ hg)
          exact main hy h0 hle hh e1 e2 e3
        · cases h
      · cases h
  · cases h
end
end Go.Ke
end
section
namespace Go.Ke
open Go Go.Sx
theorem appNew_some {s : KS} {fp ws : List Nat} {L : Option (Tr LO)} {e : TypeId} {n : Nat} {cs : List LV} {r : HR} (h : appNew s fp ws L e n cs = some r) :
    ∃ L0, L = some L0 ∧ r.res = .sl s.c 0 n n false ∧ r.s.c = s.c + 1 ∧ r.fp = fp ∧ r.ws = ws ∧ ∀ m, r.s.L.get m = if m = s.c then some (.cells cs e true) else L0.get m := by
  unfold appNew at h
  split at h
  · rename_i L0
    split at h
    · rename_i L1 h1; cases h; exact ⟨L0, rfl, rfl, rfl, rfl, rfl, fun m => Tr.get_put h1 m⟩
    · cases h
  · cases h
section
variable {X : Ctx} {ol : List Oper} {o : Oper} {σ : St} {e : Env} {M : LM} {I H : PH} {ρ : Rho}
theorem good_app {s : KS} {r : HR} {fp : List Nat} {el size : Nat} {n : Nat} {cs : List LV} {cs' : List Value} (h : appNew s fp [] (some s.L) el n cs = some r) (hw : wantedS ol σ o = some true) (hk : knownS σ o.op = true) (hR : Rel X e M I H) (hfr : M s.c = none ∧ e s.c = none)
    (hc : VRs e cs cs') (hlen : cs'.length = n * size) (hs : szOf X.P el = some size)
    (hrun : OpSpec X.P (execOp (cenv σ) o) H fun sv H2 => ∃ g cap zs, H g = none ∧ (n ≤ cap ∧ cap ≤ maxLen) ∧ zs.length = (cap - n) * size ∧ sv = .v (.slice (some ⟨g, 0, none⟩) n cap) ∧ H2 = H.put g (.cells (cs' ++ zs).toArray el (0, 0))) : Good X ol o σ e M I H s r := by
  obtain ⟨L0, h0, h1, h2, h3, h4, h5⟩ := appNew_some h
  cases h0
  refine ⟨by omega, fun id _ hid => by rw [h5, if_neg (by omega)], fun id hid => (by rw [h4] at hid; cases hid), ?_⟩
  rw [h1, h2, h4, ovl_new (by rw [h5, if_pos rfl])]
  refine Eff.spec hw hk (hrun.mono fun sv H2 ⟨g, cap, zs, q1, q2, q3, q4, q5⟩ => ?_)
  subst q5
  refine ⟨e.up s.c (.blk g (cap - n)), _, .inl q4, Env.le_up hfr.2, fun id hid => Env.up_other (by omega), ?_, hR.fresh hfr.2 hfr.1 q1 ?_⟩
  · simp only [VR]; exact ⟨g, _, Env.up_self _ _ _, by simp; omega⟩
  · refine ⟨g, cap - n, cs', zs, Env.up_self _ _ _, PH.le_none hR.le q1, by simp [PH.put], hc.mono (Env.le_up hfr.2), ⟨size, hs, q3, fun _ => ?_⟩, fun h => by cases h⟩
    rw [hlen, ← Nat.add_mul]
    exact Nat.mul_le_mul_right _ (by omega)
theorem szOf_SlT {P : Program} {t el : TypeId} {size bytes : Nat} (h : SlT P t el size bytes) : szOf P el = some size := by
  obtain ⟨i, z, _, hi, _, h4, _⟩ := h
  simp [szOf, hi, h4]
theorem newsL_zero {size : Nat} {y : Option LV} {s : KS} {news : List LV} {fp : List Nat} (hn : newsL size y s = some (0, news, fp)) : fp = [] := by
  unfold newsL at hn
  split at hn
  · cases hn; rfl
  · split at hn
    · cases hn; rfl
    · rename_i h0
      split at hn
      · split at hn
        · simp only [Option.some.injEq, Prod.mk.injEq] at hn; exact absurd hn.1 h0
        · cases hn
      · split at hn
        · simp only [Option.some.injEq, Prod.mk.injEq] at hn; exact absurd hn.1 h0
        · cases hn
      · cases hn
  · cases hn
theorem good_own {t t' el size bytes : Nat} {i : TypeInfo} {x y : Operand} (hi : X.P.info? el = some i) (hu1 : X.P.underlying t = some (.slice el)) (hu2 : X.P.underlying t' = some (.slice el)) (hop : o.op = .call ⟨.builtin .append, #[x, y], #[t, t']⟩) (hw : wantedS ol σ o = some true) (ht : SlT X.P t el size bytes) {s : KS} {r : HR} {fp : List Nat} {id n m cap : Nat} {ex gr : Bool} {c news : List LV} {news' : List Value} {xb xo yc : Nat} {v : Value}
    (h : appNew s fp [id] (s.L.put id .dead) el (n + m) (c.take (n * size) ++ news) = some r) (hidfp : id ∈ fp) (hx : ev σ x = .v v) (hv : VR e (.sl id 0 n cap ex) v) (hy : ev σ y = .v (.slice (some ⟨xb, xo, none⟩) m yc))
    (hg : s.L.get id = some (.cells c el gr)) (hM : M id = some (.cells c el gr)) (hc : c.length = cap * size) (hgx : gr = false ∨ ex = false) (hn : n ≤ cap) (hcap : cap ≤ maxLen) (hid : id < s.c) (hR : Rel X e M I H) (hfr : M s.c = none ∧ e s.c = none)
    (hn1 : Cells H xb xo news') (hn2 : VRs e news news') (hn3 : news'.length = m * size) (hn4 : news'.all one = true) (hm : 0 < m) (hb : (n + m) * bytes ≤ 140737488355328) (h63 : n + m ≤ maxLen) : Good X ol o σ e M I H s r := by
  obtain ⟨L0, h0, h1, h2, h3, h4, h5⟩ := appNew_some h
  have hsz := szOf_SlT ht
  have hpos : 0 < size := by obtain ⟨_, _, _, _, _, _, _, _, h⟩ := ht; exact h
  have hL0 := fun k => Tr.get_put h0 k
  have hne : id ≠ s.c := by omega
  refine ⟨by omega, fun j hj hj2 => by rw [h5, if_neg (by omega), hL0, if_neg (by rw [h4] at hj; simpa using hj)], fun j hj => by rw [h4] at hj; rw [h3]; rw [List.mem_singleton] at hj; subst hj; exact ⟨hidfp, _, hg⟩, ?_⟩
  rw [h1, h2, h4, ovl_two hne (by rw [h5, if_pos rfl]) (o' := .dead) (by rw [h5, if_neg hne, hL0, if_pos rfl])]
  obtain ⟨b, x', cs, post, e1, e2, e3, e4, ⟨sz, e5, e6, e7⟩, e8⟩ := hR.ob id _ hM
  rw [hsz] at e5; cases e5
  simp only [VR] at hv; obtain ⟨b2, x2, h6, rfl⟩ := hv
  rw [e1] at h6; cases h6
  have hcs := e4.length
  generalize hcap' : (if ex = true then cap else cap + x') = cap' at hx
  have hx0 : (ex = true → x' = 0) := by
    intro hex
    rcases hgx with h | h
    · exact e8 h
    · rw [hex] at h; cases h
  have hcapx : cap' = cap + x' := by
    rw [← hcap']; split
    · rename_i hex; rw [hx0 hex]; rfl
    · rfl
  have hcapm : cap' ≤ maxLen := by
    rw [hcapx]
    cases hgr : gr with
    | false => rw [e8 hgr]; exact hcap
    | true =>
      have := e7 hgr
      rw [hcs, hc, ← Nat.add_mul] at this
      exact Nat.le_of_mul_le_mul_right this hpos
  have hown : OwnsP H el size (.slice (some ⟨b, 0, none⟩) n cap') n (cs.take (n * size)) := by
    have hle : n * size ≤ cs.length := by rw [hcs, hc]; exact Nat.mul_le_mul_right _ hn
    refine ⟨by simp; omega, .inr ⟨b, cap', _, rfl, e3, by omega, hcapm, ?_, ?_⟩⟩
    · simp only [List.size_toArray, List.length_append]; rw [hcs, hc, e6, hcapx, Nat.add_mul]
    · simp only []; rw [List.take_append_of_le_length hle]
  obtain ⟨k1, k2⟩ := spec_tt hi hop hu1 hu2 hx hy fun o' hop' => spec_append (o := o') (σ := σ) (P := X.P) ht hop' hx hy hown hn1 hn3 hn4 hb h63
  refine Eff.spec hw k1 (k2.mono fun sv H2 ⟨v', q1, q2, q3, q4⟩ => ?_)
  obtain ⟨r1, r2⟩ := q2
  rcases r2 with ⟨_, r2⟩ | ⟨g, cap2, cur, rfl, r3, r4, r5, r6, r7⟩
  · omega
  have hcur : cur.toList = (cs.take (n * size) ++ news') ++ cur.toList.drop ((n + m) * size) := by rw [← r7, List.take_append_drop]
  have hgI : I g = none := by
    rcases q4 with h | h
    · simp only [Value.ownBlock] at h; cases h; exact e2
    · exact PH.le_none hR.le (h g rfl)
  have hI2 : I.le H2 := fun b' o' hb' => q3 b' o' (by simp only [Value.ownBlock]; intro h; cases h; rw [e2] at hb'; cases hb') (hR.le _ _ hb')
  refine ⟨e.up s.c (.blk g (cap2 - (n + m))), _, .inl q1, Env.le_up hfr.2, fun id hid => Env.up_other (by omega), ?_, (hR.kill id).fresh2 hfr.2 (by rw [LM.up_other (Ne.symm hne)]; exact hfr.1) hI2 (fun j oj b' y' hMj hlj hbj => ?_) ?_⟩
  · simp only [VR]; exact ⟨g, _, Env.up_self _ _ _, by simp; omega⟩
  · have hj : j ≠ id := by intro h; subst h; rw [LM.up_self] at hMj; cases hMj; cases hlj
    rw [LM.up_other hj] at hMj
    have hbne : b' ≠ b := by intro h; subst h; exact hj (hR.inj j id _ _ _ _ _ hMj hM hlj rfl hbj e1)
    obtain ⟨b3, x3, s1, s2⟩ := (hR.ob j oj hMj).blk hlj hR.le
    rw [hbj] at s1; cases s1
    refine ⟨?_, ?_⟩
    · intro h; subst h
      rcases q4 with h | h
      · simp only [Value.ownBlock] at h; cases h; exact hbne rfl
      · exact s2 (h _ rfl)
    · cases hHb : H b' with
      | none => exact absurd hHb s2
      | some ob => exact q3 b' ob (by simp only [Value.ownBlock]; intro h; cases h; exact hbne rfl) hHb
  · have hlen1 : (cs.take (n * size) ++ news').length = (n + m) * size := r1
    refine ⟨g, cap2 - (n + m), cs.take (n * size) ++ news', cur.toList.drop ((n + m) * size), Env.up_self _ _ _, hgI, by rw [← hcur]; simpa using r3, ((e4.take _).append hn2).mono (Env.le_up hfr.2), ⟨size, hsz, ?_, fun _ => ?_⟩, fun h => by cases h⟩
    · rw [List.length_drop, Array.length_toList, r6, Nat.sub_mul]
    · rw [hlen1, ← Nat.add_mul]; exact Nat.mul_le_mul_right _ (by omega)
end
end Go.Ke
end
section
namespace Go.Ke
open Go Go.Sx
section
variable {X : Ctx} {ol : List Oper} {o : Oper} {σ : St} {e : Env} {M : LM} {I H : PH} {ρ : Rho}
theorem news_one {news : List LV} {news' : List Value} (h : VRs e news news') (k : news.all oneL = true) : news'.all one = true := oneL_all h k
theorem app_sound {t t' : TypeId} {x y : Operand} (hop : o.op = .call ⟨.builtin .append, #[x, y], #[t, t']⟩) (hw : wantedS ol σ o = some true) (hO : OR e ρ σ) {s : KS} {r : HR} (h : appL X.P t t' (ρ x) (ρ y) s = some r) (hR : Rel X e M I H)
    (hfp : ∀ id ∈ r.fp, ∀ ob, s.L.get id = some ob → M id = some ob) (hfr : ∀ id, s.c ≤ id → id < r.s.c → M id = none ∧ e id = none) : Good X ol o σ e M I H s r := by
  unfold appL at h
  split at h
  case h_2 => cases h
  rename_i el size bytes hsl htt
  obtain ⟨e0, hu1, hu2⟩ := slsT_s htt
  have ht := slOf_SlT hsl
  obtain ⟨i0, _, hu3, hi, _⟩ := id ht
  cases hu1.symm.trans hu3
  split at h
  ·
    rename_i news fp hn
    have hfp0 := newsL_zero hn
    subst hfp0
    have hy : ∃ ya c, ev σ y = .v (.slice ya 0 c) := by
      rcases newsL_sound hO hn hR (fun id hid => by cases hid) with ⟨_, h⟩ | ⟨h0, _⟩
      · exact h
      · omega
    obtain ⟨ya, c, hy⟩ := hy
    split at h
    · rename_i hx
      cases h
      obtain ⟨z, h1, h2⟩ := hO _ _ hx
      simp only [VR] at h2; subst h2
      obtain ⟨k1, k2⟩ := spec_tt hi hop hu1 hu2 h1 hy fun o' hop' => spec_appendN (o := o') (H := H) ht hop' h1 (Nat.le_refl 0) hy
      refine Good.look rfl rfl (Eff.spec hw k1 (k2.mono fun sv H2 ⟨q1, q2⟩ => ?_))
      subst q2
      exact ⟨e, _, .inl q1, Env.le_refl e, fun _ _ => rfl, by simp only [VR], hR⟩
    · rename_i id off n cap ex hx
      split at h
      · rename_i hle
        cases h
        obtain ⟨z, h1, h2⟩ := hO _ _ hx
        have h2' := h2
        simp only [VR] at h2; obtain ⟨b, x', e1, rfl⟩ := h2
        obtain ⟨k1, k2⟩ := spec_tt hi hop hu1 hu2 h1 hy fun o' hop' => spec_appendN (o := o') (H := H) ht hop' h1 (by split <;> omega) hy
        refine Good.look rfl rfl (Eff.spec hw k1 (k2.mono fun sv H2 ⟨q1, q2⟩ => ?_))
        subst q2
        exact ⟨e, _, .inl q1, Env.le_refl e, fun _ _ => rfl, h2', hR⟩
      · cases h
    · cases h
  · rename_i m news fp hm0 hn
    split at h
    case isFalse => cases h
    rename_i hone
    have hsz := szOf_SlT ht
    have hm : 0 < m := by
      rcases Nat.eq_zero_or_pos m with h0 | h0
      · subst h0; exact (hm0 rfl).elim
      · exact h0
    split at h
    · rename_i hx
      split at h
      · rename_i hc
        obtain ⟨c1, c2⟩ := hc
        obtain ⟨z, h1, h2⟩ := hO _ _ hx
        simp only [VR] at h2; subst h2
        obtain ⟨_, _, _, _, q3, _, _⟩ := appNew_some h
        rcases newsL_sound hO hn hR (fun id hid => hfp id (by rw [q3]; exact hid)) with ⟨h0, _⟩ | ⟨_, xb, xo, c, news', hy, g1, g2, g3⟩
        · omega
        obtain ⟨k1, k2⟩ := spec_tt hi hop hu1 hu2 h1 hy fun o' hop' => spec_appendG (o := o') (H := H) ht hop' h1 (by omega) hy (.inl rfl) (olds := []) (by simp) g1 g3 (news_one g2 hone) (by omega) (by simpa using c1)
        simp only [Nat.zero_add, List.nil_append] at k2
        obtain ⟨_, _, _, q2, _, _⟩ := appNew_some h
        exact good_app h hw k1 hR (hfr s.c (Nat.le_refl _) (by omega)) g2 g3 hsz k2
      · cases h
    · rename_i id off n cap ex hx
      split at h
      case isFalse => cases h
      rename_i hc
      obtain ⟨c1, c2⟩ := hc
      split at h
      case h_2 => cases h
      rename_i c ty gr hg
      obtain ⟨z, h1, h2⟩ := hO _ _ hx
      split at h
      · rename_i hex
        obtain ⟨rfl, rfl⟩ := hex
        split at h
        · rename_i hle
          obtain ⟨_, _, _, q2, q3, _, _⟩ := appNew_some h
          have hM := hfp id (by rw [q3]; exact .head _) _ hg
          rcases newsL_sound hO hn hR (fun id hid => hfp id (by rw [q3]; exact .tail _ hid)) with ⟨h0, _⟩ | ⟨_, xb, xo, yc, news', hy, g1, g2, g3⟩
          · omega
          obtain ⟨b, x', cs, post, e1, e2, e3, e4, _⟩ := hR.ob id _ hM
          simp only [VR] at h2; obtain ⟨b2, x2, h6, rfl⟩ := h2
          rw [e1] at h6; cases h6
          simp only [if_true] at h1
          have hlen := e4.length
          have hol : ((cs.drop off).take (cap * size)).length = cap * size := by simp; omega
          have hcell : Cells H b off ((cs.drop off).take (cap * size)) := ⟨_, _, _, e3, by simp; omega, by
            rw [hol]
            simp only []
            rw [List.drop_append_of_le_length (by omega), List.take_append_of_le_length (by simp; omega)]⟩
          obtain ⟨k1, k2⟩ := spec_tt hi hop hu1 hu2 h1 hy fun o' hop' => spec_appendG (o := o') (H := H) ht hop' h1 (by omega) hy (.inr ⟨b, off, rfl, hcell⟩) hol g1 g3 (news_one g2 hone) c2 c1
          exact good_app h hw k1 hR (hfr s.c (Nat.le_refl _) (by omega)) (((e4.drop off).take _).append g2) (by rw [List.length_append, hol, g3, Nat.add_mul]) hsz k2
        · cases h
      · split at h
        · rename_i hcc
          obtain ⟨rfl, rfl, d3, d4, d5, d6, d7⟩ := hcc
          obtain ⟨_, _, _, q2, q3, _, _⟩ := appNew_some h
          have hM := hfp id (by rw [q3]; exact .head _) _ hg
          rcases newsL_sound hO hn hR (fun id hid => hfp id (by rw [q3]; exact .tail _ hid)) with ⟨h0, _⟩ | ⟨_, xb, xo, yc, news', hy, g1, g2, g3⟩
          · omega
          exact good_own hi hu1 hu2 hop hw ht h (.head _) h1 h2 hy hg hM d3 d4 d5 d6 d7 hR (hfr s.c (Nat.le_refl _) (by omega)) g1 g2 g3 (news_one g2 hone) hm c1 c2
        · cases h
    · cases h
  · cases h
end
end Go.Ke
end
