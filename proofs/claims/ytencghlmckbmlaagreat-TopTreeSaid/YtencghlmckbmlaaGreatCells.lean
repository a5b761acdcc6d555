/- Rows of records as lists of cells; further rules: comparing with nil, library functions without a body, an append of zeros, clearing. Conditions: those of the rules. -/
import Derived.Test.YtencghlmckbmlaaGreatMesh
import Derived.Lib.Overlaps
import Derived.Lib.AppendZerosOnto
import Derived.Lib.Bytealg
import Derived.Laws.Cover3
namespace Go.Sx
open Go Go.RowKit Go.Mesh

/-! rows of records -/
section
variable {α : Type} {f : α → List Value} {s : Nat}
theorem fm_length (hf : ∀ x, (f x).length = s) : ∀ l : List α, (l.flatMap f).length = l.length * s
  | [] => by simp
  | x :: l => by rw [List.flatMap_cons, List.length_append, hf, fm_length hf l, List.length_cons, Nat.succ_mul]; omega
theorem fm_split (l : List α) (k : Nat) (h : k < l.length) : l.flatMap f = (l.take k).flatMap f ++ (f l[k] ++ (l.drop (k + 1)).flatMap f) := by
  have e : l = l.take k ++ l[k] :: l.drop (k + 1) := by rw [List.getElem_cons_drop, List.take_append_drop]
  conv => lhs; rw [e]
  rw [List.flatMap_append, List.flatMap_cons]
theorem fm_take_len (hf : ∀ x, (f x).length = s) (l : List α) (k : Nat) (h : k ≤ l.length) : ((l.take k).flatMap f).length = k * s := by
  rw [fm_length hf, List.length_take, Nat.min_eq_left h]
theorem seg_mid {A B C : List Value} : Seg (A ++ (B ++ C)) A.length B.length B := by
  induction A with
  | nil =>
    induction B with
    | nil => exact .nil
    | cons b B ih => exact .here ih
  | cons a A ih => exact .skip ih
theorem fm_seg (hf : ∀ x, (f x).length = s) (l : List α) (k : Nat) (h : k < l.length) : Seg (l.flatMap f) (k * s) s (f l[k]) := by
  rw [fm_split l k h, ← fm_take_len hf l k (Nat.le_of_lt h)]
  have := seg_mid (A := (l.take k).flatMap f) (B := f l[k]) (C := (l.drop (k + 1)).flatMap f)
  rwa [hf] at this
theorem Seg.of : ∀ (C : List Value) (q : Nat) (A : List Value), C ≠ [] → (∀ m u, C[m]? = some u → A[q + m]? = some u) → Seg A q C.length C
  | [], _, _, h, _ => absurd rfl h
  | c :: C, 0, [], _, hA => by have := hA 0 c rfl; simp at this
  | [c], 0, a :: A, _, hA => by
    have h0 := hA 0 c rfl
    simp at h0
    subst h0
    exact .here .nil
  | c :: d :: C, 0, a :: A, _, hA => by
    have h0 := hA 0 c rfl
    simp at h0
    subst h0
    refine .here (Seg.of (d :: C) 0 A (by simp) fun m u hm => ?_)
    have := hA (m + 1) u (by simpa using hm)
    simpa using this
  | c :: C, q + 1, [], _, hA => by have := hA 0 c rfl; simp at this
  | c :: C, q + 1, a :: A, h, hA => by
    refine .skip (Seg.of (c :: C) q A h fun m u hm => ?_)
    have := hA m u hm
    rw [show q + 1 + m = (q + m) + 1 by omega] at this
    simpa using this
theorem Seg.trans {A B C : List Value} {i j s k : Nat} (h : Seg A i s B) (h2 : Seg B j k C) (hk : 0 < k) : Seg A (i + j) k C := by
  obtain ⟨_, f1⟩ := h.spec
  obtain ⟨e2, f2⟩ := h2.spec
  rw [← e2]
  refine Seg.of C (i + j) A (fun e => by subst e; simp at e2; omega) fun m u hm => ?_
  have h4 := f1 (j + m) u (f2 m u hm)
  rwa [← Nat.add_assoc] at h4
theorem fm_sub (hf : ∀ x, (f x).length = s) (l : List α) (k : Nat) (h : k < l.length) {o q : Nat} {ys : List Value} (hs : Seg (f l[k]) o q ys) (hq : 0 < q := by decide) : Seg (l.flatMap f) (k * s + o) q ys := (fm_seg hf l k h).trans hs hq
theorem fm_get (hf : ∀ x, (f x).length = s) (l : List α) (k : Nat) (h : k < l.length) (j : Nat) (v : Value) (hj : (f l[k])[j]? = some v) : (l.flatMap f)[k * s + j]? = some v :=
  (fm_seg hf l k h).spec.2 j v hj
theorem Put.front {D xs : List Value} : xs.length ≤ D.length → Put D 0 xs (xs ++ D.drop xs.length) := by
  induction xs generalizing D with
  | nil => intro _; simpa using Put.nil
  | cons x xs ih =>
    intro h
    cases D with
    | nil => simp at h
    | cons d D =>
      simp only [List.length_cons, List.cons_append, List.drop_succ_cons] at h ⊢
      exact .here (ih (by omega))
theorem put_mid {A C C' ys : List Value} {o : Nat} (h : Put C o ys C') : Put (A ++ C) (A.length + o) ys (A ++ C') := by
  induction A with
  | nil => simpa using h
  | cons a A ih =>
    have e : (a :: A).length + o = (A.length + o) + 1 := by simp; omega
    rw [e]
    exact .skip ih
theorem Put.appR {C C' xs : List Value} {o : Nat} (h : Put C o xs C') (D : List Value) : Put (C ++ D) o xs (C' ++ D) := h.app
theorem put_over {A B ys : List Value} (h : A.length = ys.length) : Put (A ++ B) 0 ys (ys ++ B) := by
  have := Put.front (D := A ++ B) (xs := ys) (by rw [List.length_append]; omega)
  rwa [← h, List.drop_left] at this
theorem fm_put (hf : ∀ x, (f x).length = s) (l : List α) (k : Nat) (h : k < l.length) (y : α) : Put (l.flatMap f) (k * s) (f y) ((l.set k y).flatMap f) := by
  have e1 := fm_split (f := f) l k h
  have hk : k < (l.set k y).length := by simpa using h
  have e2 := fm_split (f := f) (l.set k y) k hk
  have e3 : (l.set k y).take k = l.take k := by rw [List.take_set_of_le (Nat.le_refl _)]
  have e4 : (l.set k y).drop (k + 1) = l.drop (k + 1) := by rw [List.drop_set_of_lt (by omega)]
  have e5 : (l.set k y)[k] = y := by simp
  rw [e3, e4, e5] at e2
  rw [e1, e2]
  have := put_mid (A := (l.take k).flatMap f) (put_over (A := f l[k]) (B := (l.drop (k + 1)).flatMap f) (ys := f y) (by rw [hf, hf]))
  rwa [Nat.add_zero, fm_take_len hf l k (Nat.le_of_lt h)] at this
theorem fm_putsub (hf : ∀ x, (f x).length = s) (l : List α) (k : Nat) (h : k < l.length) (y : α) {o : Nat} {ys : List Value} (hp : Put (f l[k]) o ys (f y)) : Put (l.flatMap f) (k * s + o) ys ((l.set k y).flatMap f) := by
  have e1 := fm_split (f := f) l k h
  have hk : k < (l.set k y).length := by simpa using h
  have e2 := fm_split (f := f) (l.set k y) k hk
  have e3 : (l.set k y).take k = l.take k := by rw [List.take_set_of_le (Nat.le_refl _)]
  have e4 : (l.set k y).drop (k + 1) = l.drop (k + 1) := by rw [List.drop_set_of_lt (by omega)]
  have e5 : (l.set k y)[k] = y := by simp
  rw [e3, e4, e5] at e2
  rw [e1, e2]
  have := put_mid (A := (l.take k).flatMap f) (Put.appR hp ((l.drop (k + 1)).flatMap f))
  rwa [fm_take_len hf l k (Nat.le_of_lt h)] at this
theorem fm_snoc (l : List α) (x : α) : (l ++ [x]).flatMap f = l.flatMap f ++ f x := by simp
theorem fm_one (hf : ∀ x, (f x).all one = true) : ∀ l : List α, (l.flatMap f).all one = true
  | [] => rfl
  | x :: l => by rw [List.flatMap_cons, List.all_append, hf, fm_one hf l]; rfl
end

/-! the records -/
def nodeC (i : Nat) : List Value := [.int .u8 2, .int .u8 0, .int .u8 0, .int .u8 0, .int .u8 2, .int .u8 (i : Int)]
def treeC (p : Nat × TreeV) : List Value := [.int .u8 2, .int .u8 0, .int .u8 0, .int .u8 0, .int .u8 2, .int .u8 (p.1 : Int), .int .u8 2, .int .u8 0, .int .u8 0, .int .u8 0, .int .u8 2, .int .u8 (p.2.parent : Int), .int .i64 (p.2.seq : Int), .int .i64 (p.2.hops : Int), .int .i64 (p.2.cost : Int), .bool (decide (p.1 = 0)), .int .i64 (p.2.till : Int)]
def hopC (p : Nat × Nat) : List Value := [.int .u8 2, .int .u8 0, .int .u8 0, .int .u8 0, .int .u8 2, .int .u8 (p.1 : Int), .int .u8 2, .int .u8 0, .int .u8 0, .int .u8 0, .int .u8 2, .int .u8 (p.2 : Int)]
def markC (p : Nat × Nat) : List Value := [.int .u8 2, .int .u8 0, .int .u8 0, .int .u8 0, .int .u8 2, .int .u8 (p.1 : Int), .int .i64 (p.2 : Int)]
theorem treeC_len (p : Nat × TreeV) : (treeC p).length = 17 := rfl
theorem hopC_len (p : Nat × Nat) : (hopC p).length = 12 := rfl
theorem markC_len (p : Nat × Nat) : (markC p).length = 7 := rfl
theorem treeC_one (p : Nat × TreeV) : (treeC p).all one = true := rfl
theorem hopC_one (p : Nat × Nat) : (hopC p).all one = true := rfl
theorem markC_one (p : Nat × Nat) : (markC p).all one = true := rfl
def cmpN (a b : Nat) : Int := if a < b then -1 else if b < a then 1 else 0

/-! searching in sorted rows -/
def Srt {α : Type} (l : List (Nat × α)) : Prop := ∀ i j, i < j → ∀ (hi : i < l.length) (hj : j < l.length), l[i].1 < l[j].1
structure BSI {α : Type} (l : List (Nat × α)) (r : Nat) (x : Nat × Nat) : Prop where
  le : x.1 ≤ x.2
  len : x.2 ≤ l.length
  lo : ∀ k, k < x.1 → ∀ h : k < l.length, l[k].1 < r
  hi : ∀ k, x.2 ≤ k → ∀ h : k < l.length, r ≤ l[k].1
structure BS {α : Type} (l : List (Nat × α)) (r : Nat) (x : Nat × Bool) : Prop where
  len : x.1 ≤ l.length
  lo : ∀ k, k < x.1 → ∀ h : k < l.length, l[k].1 < r
  hi : ∀ k, x.1 ≤ k → ∀ h : k < l.length, r ≤ l[k].1
  is : x.2 = true → ∃ h : x.1 < l.length, l[x.1].1 = r
  no : x.2 = false → ∀ h : x.1 < l.length, l[x.1].1 ≠ r
theorem BSI.start {α : Type} {l : List (Nat × α)} {r n : Nat} (hn : l.length = n) : BSI l r (0, n) := ⟨Nat.zero_le _, by simp [hn], fun k h => by simp at h, fun k h h2 => by dsimp only at h; omega⟩
theorem BSI.up {α : Type} {l : List (Nat × α)} {r i j m : Nat} (h : BSI l r (i, j)) (hs : Srt l) (hij : i < j) (hm : m = (i + j) / 2) (hl : m < l.length) (hk : l[m].1 < r) : BSI l r (m + 1, j) :=
  ⟨by show m + 1 ≤ j; omega, h.len, fun k hk2 hl2 => by
    have hk2 : k < m + 1 := hk2
    by_cases e : k = m
    · subst e; exact hk
    · exact Nat.lt_trans (hs k m (by omega) hl2 hl) hk, h.hi⟩
theorem BSI.down {α : Type} {l : List (Nat × α)} {r i j m : Nat} (h : BSI l r (i, j)) (hs : Srt l) (hij : i < j) (hm : m = (i + j) / 2) (hl : m < l.length) (hk : ¬ l[m].1 < r) : BSI l r (i, m) :=
  ⟨by show i ≤ m; omega, by show m ≤ l.length; omega, h.lo, fun k hk2 hl2 => by
    have hk2 : m ≤ k := hk2
    by_cases e : k = m
    · subst e; omega
    · have := hs m k (by omega) hl hl2
      omega⟩
theorem BSI.is {α : Type} {l : List (Nat × α)} {r i j : Nat} {b : Bool} (h : BSI l r (i, j)) (he : ¬ i < j) (h1 : b = true → ∃ h : i < l.length, l[i].1 = r) (h0 : b = false → ∀ h : i < l.length, l[i].1 ≠ r) : BS l r (i, b) := by
  have h3 : i ≤ j := h.le
  have h4 : j ≤ l.length := h.len
  have e : i = j := by omega
  subst e
  exact ⟨h4, h.lo, h.hi, h1, h0⟩

/-- What IndexFunc finds. -/
def IXF {α : Type} (l : List α) (pr : α → Bool) (x : Int) : Prop := (x = -1 ∧ ∀ k (h : k < l.length), pr l[k] = false) ∨ ∃ (i : Nat) (h : i < l.length), x = i ∧ pr l[i] = true ∧ ∀ k (hk : k < l.length), k < i → pr l[k] = false
def IXB {α : Type} (l : List α) (pr : α → Bool) (k : Nat) : Prop := k ≤ l.length ∧ ∀ j (h : j < l.length), j < k → pr l[j] = false
theorem IXB.zero {α : Type} {l : List α} {pr : α → Bool} : IXB l pr 0 := ⟨Nat.zero_le _, fun j _ h => by omega⟩
theorem IXB.next {α : Type} {l : List α} {pr : α → Bool} {k : Nat} (h : IXB l pr k) (hk : k < l.length) (hp : pr l[k] = false) : IXB l pr (k + 1) :=
  ⟨hk, fun j hj hlt => by
    by_cases e : j = k
    · subst e; exact hp
    · exact h.2 j hj (by omega)⟩
theorem IXB.none {α : Type} {l : List α} {pr : α → Bool} {k : Nat} (h : IXB l pr k) (hk : ¬ k < l.length) : IXF l pr (-1) := .inl ⟨rfl, fun j hj => h.2 j hj (by omega)⟩
theorem IXB.some {α : Type} {l : List α} {pr : α → Bool} {k : Nat} (h : IXB l pr k) (hk : k < l.length) (hp : pr l[k] = true) : IXF l pr (k : Int) := .inr ⟨k, hk, rfl, hp, fun j hj hlt => h.2 j hj hlt⟩
theorem IXF.no {α : Type} {l : List α} {pr : α → Bool} {x : Int} (h : IXF l pr x) (hn : ∀ q ∈ l, pr q = false) : x = -1 := by
  rcases h with ⟨h, _⟩ | ⟨i, hi, _, hp, _⟩
  · exact h
  · rw [hn _ (List.getElem_mem hi)] at hp
    cases hp
theorem ixf_mem {l : List (Nat × Nat)} {q : Nat × Nat} {x : Int} (h : IXF l (fun m => decide (q = m)) x) : decide (0 ≤ x) = true ↔ q ∈ l := by
  rcases h with ⟨rfl, hn⟩ | ⟨i, hi, rfl, hp, _⟩
  · refine ⟨fun h => absurd h (by decide), fun hm => ?_⟩
    obtain ⟨k, hk, e⟩ := List.mem_iff_getElem.1 hm
    have := hn k hk
    simp [e] at this
  · refine ⟨fun _ => ?_, fun _ => by simp⟩
    have e : q = l[i] := of_decide_eq_true hp
    rw [e]
    exact List.getElem_mem hi
theorem cmpN_lt {a b : Nat} : decide (cmpN a b < 0) = decide (a < b) := by
  unfold cmpN
  split
  · simp; assumption
  · split <;> simp <;> omega
theorem cmpN_eq {a b : Nat} : (cmpN a b == 0) = (a == b) := by
  unfold cmpN
  split
  · have : a ≠ b := by omega
    simp [this]
  · split
    · have : a ≠ b := by omega
      simp [this]
    · have : a = b := by omega
      simp [this]
theorem cmpN_ge {a b : Nat} (h : a < b) : decide (0 ≤ cmpN a b) = false := by
  unfold cmpN
  rw [if_pos h]
  rfl
theorem cmpN_bd (a b : Nat) : -1 ≤ cmpN a b ∧ cmpN a b ≤ 1 := by
  unfold cmpN
  split
  · decide
  · split <;> decide

/-! the least of a row -/
def cmpZ (a b : Int) : Int := if a < b then -1 else if b < a then 1 else 0
def or3 (x y z : Int) : Int := if x ≠ 0 then x else if y ≠ 0 then y else z
def cmpT (p q : Nat × TreeV) : Int := or3 (cmpZ p.2.cost q.2.cost) (cmpZ p.2.hops q.2.hops) (cmpN p.1 q.1)
theorem cmpT_cases (p q : Nat × TreeV) : (cmpT p q < 0 → p.2.cost ≤ q.2.cost) ∧ (¬ cmpT p q < 0 → q.2.cost ≤ p.2.cost) := by
  have h1 : (p.2.cost : Int) < q.2.cost → cmpT p q < 0 := fun h => by
    simp [cmpT, or3, cmpZ, h]
  have h2 : (q.2.cost : Int) < p.2.cost → ¬ cmpT p q < 0 := fun h => by
    have h' : ¬ ((p.2.cost : Int) < q.2.cost) := by omega
    simp [cmpT, or3, cmpZ, h, h']
  constructor
  · intro h
    by_cases e : q.2.cost < p.2.cost
    · exact absurd h (h2 (by omega))
    · omega
  · intro h
    by_cases e : p.2.cost < q.2.cost
    · exact absurd (h1 (by omega)) h
    · omega
theorem cmpZ_bd (a b : Int) : -1 ≤ cmpZ a b ∧ cmpZ a b ≤ 1 := by
  unfold cmpZ
  split
  · decide
  · split <;> decide
structure MinI (l : List (Nat × TreeV)) (x : Nat × (Nat × TreeV)) : Prop where
  pos : 1 ≤ x.1
  le : x.1 ≤ l.length
  mem : x.2 ∈ l
  min : ∀ k, k < x.1 → ∀ h : k < l.length, x.2.2.cost ≤ l[k].2.cost
theorem MinI.start {l : List (Nat × TreeV)} (h : 0 < l.length) : MinI l (1, l[0]) := ⟨Nat.le_refl _, h, List.getElem_mem h, fun k hk h => by
  have : k = 0 := by show k = 0; have : k < 1 := hk; omega
  subst this
  exact Nat.le_refl _⟩
theorem MinI.take {l : List (Nat × TreeV)} {k : Nat} {t : Nat × TreeV} (h : MinI l (k, t)) (hk : k < l.length) (hc : cmpT l[k] t < 0) : MinI l (k + 1, l[k]) := ⟨Nat.le_add_left _ _, hk, List.getElem_mem hk, fun j hj hl => by
  have h1 := (cmpT_cases _ _).1 hc
  by_cases e : j = k
  · subst e; exact Nat.le_refl _
  · have hj : j < k + 1 := hj
    exact Nat.le_trans h1 (h.min j (by show j < k; omega) hl)⟩
theorem MinI.pass {l : List (Nat × TreeV)} {k : Nat} {t : Nat × TreeV} (h : MinI l (k, t)) (hk : k < l.length) (hc : ¬ cmpT l[k] t < 0) : MinI l (k + 1, t) := ⟨Nat.le_add_left _ _, hk, h.mem, fun j hj hl => by
  have h1 := (cmpT_cases _ _).2 hc
  by_cases e : j = k
  · subst e; exact h1
  · have hj : j < k + 1 := hj
    exact h.min j (by show j < k; omega) hl⟩
theorem MinI.done {l : List (Nat × TreeV)} {k : Nat} {t : Nat × TreeV} (h : MinI l (k, t)) (hk : ¬ k < l.length) : t ∈ l ∧ ∀ y ∈ l, t.2.cost ≤ y.2.cost := ⟨h.mem, fun y hy => by
  obtain ⟨j, hj, rfl⟩ := List.mem_iff_getElem.1 hy
  exact h.min j (by show j < k; omega) hj⟩

/-! what a node may know -/
structure TOk (o : Nat) (p : Nat × TreeV) : Prop where
  root : p.1 < 2
  own : p.1 ≠ o
  par : p.2.parent < 6
  parn : p.2.parent ≠ o
  seq1 : 1 ≤ p.2.seq
  seq2 : p.2.seq ≤ 2147483647
  hop1 : 1 ≤ p.2.hops
  hop2 : p.2.hops ≤ 16
  cost1 : 1 ≤ p.2.cost
  cost2 : p.2.cost ≤ 1099511627776
  till : p.2.till ≤ 1099516627776
structure TsOk (o : Nat) (l : List (Nat × TreeV)) : Prop where
  own : o < 6
  len : l.length ≤ 2
  el : ∀ p ∈ l, TOk o p
  srt : Srt l
theorem TsOk.key {o : Nat} {l : List (Nat × TreeV)} (h : TsOk o l) : ∀ q ∈ l, q.1 ≤ 255 := fun q hq => by
  have := (h.el q hq).root
  omega
/-- A key that is not there has its place at the end, or ahead of the only other one. -/
theorem place2 {α : Type} {l : List (Nat × α)} (hlen : l.length ≤ 2) (hs : Srt l) (hk : ∀ p ∈ l, p.1 < 2) {r i : Nat} (hr : r < 2) (hb : BS l r (i, false)) : (i = l.length ∧ l.length ≤ 1) ∨ ∃ u, l = [u] ∧ i = 0 := by
  have hno := hb.no rfl
  have hhi := hb.hi
  have hlo := hb.lo
  have hil : i ≤ l.length := hb.len
  match l, hlen with
  | [], _ => exact .inl ⟨by simpa using hil, by simp⟩
  | [u], _ =>
    by_cases e : i = 0
    · exact .inr ⟨u, rfl, e⟩
    · exact .inl ⟨by simp at hil ⊢; omega, by simp⟩
  | [u, v], _ =>
    exfalso
    have h0 := hk u (by simp)
    have h1 := hk v (by simp)
    have h2 : u.1 < v.1 := hs 0 1 (by omega) (by simp) (by simp)
    simp only [List.length_cons, List.length_nil] at hil
    rcases Nat.lt_or_ge i 1 with hi | hi
    · have : i = 0 := by omega
      subst this
      have a : u.1 ≠ r := hno (by simp)
      have b : r ≤ u.1 := hhi 0 (Nat.le_refl _) (by simp)
      omega
    · have c : u.1 < r := hlo 0 (by show 0 < i; omega) (by simp)
      rcases Nat.lt_or_ge i 2 with hi2 | hi2
      · have : i = 1 := by omega
        subst this
        have a : v.1 ≠ r := hno (by simp)
        have b : r ≤ v.1 := hhi 1 (Nat.le_refl _) (by simp)
        omega
      · have d : v.1 < r := hlo 1 (by show 1 < i; omega) (by simp)
        omega
theorem TsOk.place {o : Nat} {l : List (Nat × TreeV)} (h : TsOk o l) {r i : Nat} (hr : r < 2) (hb : BS l r (i, false)) : (i = l.length ∧ l.length ≤ 1) ∨ ∃ u, l = [u] ∧ i = 0 :=
  place2 h.len h.srt (fun p hp => (h.el p hp).root) hr hb
def newL {α : Type} (l : List (Nat × α)) (i : Nat) (kn : Bool) (x : Nat × α) : List (Nat × α) := bif kn then l.set i x else l.take i ++ x :: l.drop i
theorem newL_end {α : Type} {f : Nat × α → List Value} (l : List (Nat × α)) (x : Nat × α) : (newL l l.length false x).flatMap f = l.flatMap f ++ f x := by simp [newL]
theorem good1 {t : TreeV} {s c : Nat} (h : decide ((s : Int) < (t.seq : Int)) = true) : (true = true ↔ good t s c = true) := by
  simp only [good_iff, true_iff]
  have := of_decide_eq_true h
  omega
theorem good2 {t : TreeV} {s c : Nat} (h : decide ((s : Int) < (t.seq : Int)) = false) (h2 : ((s : Int) == (t.seq : Int)) = true) : (decide ((t.cost : Int) ≤ (c : Int)) = true ↔ good t s c = true) := by
  simp only [good_iff, decide_eq_true_eq]
  have := of_decide_eq_false h
  have := eq_of_beq h2
  omega
theorem good3 {t : TreeV} {s c : Nat} (h : decide ((s : Int) < (t.seq : Int)) = false) (h2 : ((s : Int) == (t.seq : Int)) = false) : (false = true ↔ good t s c = true) := by
  simp only [good_iff]
  have h3 := of_decide_eq_false h
  have h4 : (s : Int) ≠ (t.seq : Int) := fun e => by simp [e] at h2
  constructor
  · intro h; cases h
  · intro h; omega
/-- What Handle finds: the place, whether the root is known, whether the announcement is stale; the new row, the block of what is sent on. -/
structure HR where
  i : Nat
  kn : Bool
  st : Bool
  p : Option Addr
  c : Nat
  g : Nat
structure HOk (o r sq c : Nat) (l : List (Nat × TreeV)) (x : HR) : Prop where
  bs : BS l r (x.i, x.kn)
  st : x.st = true ↔ (r = o ∨ (x.kn = true ∧ ∃ h : x.i < l.length, good l[x.i].2 sq c = true))

section
variable {P : Program} {W0 : World} {gs : List Nat} {n : Nat} {E E' : List (Nat × Value)} {L L' : List Rs} {K : Act → World → Prop}
  {ops : Array Oper} {Q : Exit → Act → World → Prop} {rest : List Oper} {a : Act} {W : World}

theorem Rd.sg {b o i k : Nat} {xs ys : List Value} (h : Rd W (some ⟨b, o, none⟩) xs) (hs : Seg xs i k ys) (j : Nat) (u : Value) (hj : ys[j]? = some u) : W.cell? ⟨b, o + i + j, none⟩ = some u := by
  have := Rd.at h (hs.spec.2 j u hj)
  rwa [← Nat.add_assoc] at this
theorem Rd.sg2 {b o i m k : Nat} {xs ys : List Value} (h : Rd W (some ⟨b, o, none⟩) xs) (hs : Seg xs (i + m) k ys) (j : Nat) (u : Value) (hj : ys[j]? = some u) : W.cell? ⟨b, o + i + m + j, none⟩ = some u := by
  have := Rd.sg h hs j u hj
  rwa [← Nat.add_assoc] at this
theorem Rd.cell {b o i m : Nat} {xs : List Value} {v : Value} (h : Rd W (some ⟨b, o, none⟩) xs) (hv : xs[i + m]? = some v) : W.cell? ⟨b, o + i + m, none⟩ = some v := by
  have := Rd.at h hv
  rwa [← Nat.add_assoc] at this
theorem Rd.pos {p : Option Addr} {xs : List Value} (h : Rd W p xs) (h0 : 0 < xs.length) : ∃ b o, p = some ⟨b, o, none⟩ := by
  obtain ⟨b, o, hp, _⟩ := h 0 _ (List.getElem?_eq_getElem h0)
  exact ⟨b, o, hp⟩

theorem Rd.ofSeg {b o i k : Nat} {xs ys : List Value} (h : Rd W (some ⟨b, o, none⟩) xs) (hs : Seg xs i k ys) : Rd W (some ⟨b, o + i, none⟩) ys := fun j u hj => ⟨b, o + i, rfl, Rd.sg h hs j u hj⟩
/-- What is owned is handed in, or new. -/
theorem VK.freshR {r : Rs} (hm : r ∈ L) (h : (∀ k ∈ r.ids, k ∈ gs ∨ W0.heap.size ≤ k) → VK W0 gs n K E L) : VK W0 gs n K E L := fun a W st =>
  h (fun k hk => st.fresh k (List.mem_flatMap.2 ⟨r, hm, hk⟩)) a W st
theorem Rd.lt {b o : Nat} {xs : List Value} (h : Rd W (some ⟨b, o, none⟩) xs) (h0 : 0 < xs.length) : b < W.heap.size := by
  have := Rd.at (j := 0) h (List.getElem?_eq_getElem h0)
  unfold World.cell? at this
  by_cases hb : b < W.heap.size
  · exact hb
  · rw [Array.getElem?_eq_none (by show W.heap.size ≤ b; omega)] at this
    cases this
theorem VK.picks {Lin L2 : List Rs} (h : Picks L Lin L2) (k : VK W0 gs n K E Lin) : VK W0 gs n K E L := VK.perm h.perm (VK.sub (List.sublist_append_left _ _) k)
theorem zR : ∀ {R : List Rs}, Picks R R []
  | [] => .nil
  | _ :: _ => .cons .here zR

theorem VA.tk (i : Nat) {Ls : List Rs} {Cs : List (Addr × Value)} {op : Op} {v : Value} {d : Nat} {t : TypeId} {pos : String} {after : Array Edge} {f : Nat} {listed : Array Bool}
    (hi : ops[i]? = some ⟨some d, op, t, pos, after, none⟩) (hS : Still Q) (hs : Ls.Sublist L) (hc : Cells L Cs) (hq : QuietC P W0 gs E Ls Cs op v)
    (h : VK W0 gs n (Any P ops Q (Stay W0 gs Ls Cs) f (listed.setIfInBounds i true)) ((d, v) :: E) L) (hns : Region.noSelect ops = true := by kernel_rfl) (hf : Region.free .any ops listed i = true := by kernel_rfl) (hr : (Region.ready .any ops listed).contains i = true := by kernel_rfl) (hd : d < n := by decide) :
    VK W0 gs n (Any P ops Q (Stay W0 gs Ls Cs) (f + 1) listed) E L := VA.take i hi hns hf hr hS hs hc hd hq h
theorem Quiet.to {op : Op} {v v' : Value} (h : Quiet P W0 gs E L op v) (e : v = v') : Quiet P W0 gs E L op v' := e ▸ h
/-- Compared with nil. -/
theorem Q.eqNil {t t' : TypeId} {x y : Operand} {p : Option Addr} {m c : Nat} {b : Bool} {e : TypeId × Nat × Nat} (ht : tySlice P t = some e) (hx : ev E x = some (.slice p m c)) (hy : ev E y = some (.slice none 0 0)) (hb : p.isNone = b) :
    Quiet P W0 gs E L (.binOp .eql t x y t') (.bool b) := by
  obtain ⟨e', s', b'⟩ := e
  obtain ⟨i, hu, _⟩ := tySlice_spec ht
  subst hb
  exact Q.bin hx hy (fun _ => by rw [eqGuard_at_slice]; rfl) fun W => by simp [binOp, run_equal_slice_nil W t e' p m c hu]

/-- A call of a function for which the model stands in. -/
theorem Q.ext {f : Operand} {xs : List Operand} {tys : Array TypeId} {k : FuncId} {vs : List Value} {v : Value} (hf : ev E f = some (.func (.func k) #[] #[])) (hxs : evs E xs = some vs)
    (h : ∀ W, Only gs W0 W → Own W L → (callFunc k vs.toArray).run P W = .ok (.value v) W) : Quiet P W0 gs E L (.call ⟨.value f, xs.toArray, tys⟩) v := by
  intro a W dst ty pos after g he ho hw
  have key : ∀ (xs : List Operand) (vs : List Value), evs E xs = some vs → xs.map a.eval = vs := by
    intro xs
    induction xs with
    | nil => intro vs h; simpa [evs] using h
    | cons x xs ih =>
      intro vs h
      simp only [evs] at h
      split at h
      · rename_i v us hv hu
        simp only [Option.some.injEq] at h
        simp [he x v hv, ih us hu, h]
      · cases h
  simp [execOp, resolve, he f _ hf, Deferred.ofValue, invoke, key xs vs hxs, h W ho hw]

theorem run_loadBytes : ∀ (l : List UInt8) (b o : Nat) (acc : ByteArray), Rd W (some ⟨b, o, none⟩) (bs l) → (Extern.Bytes.loadBytes ⟨b, o, none⟩ l.length acc).run P W = .ok ⟨(acc.data.toList ++ l).toArray⟩ W
  | [], b, o, acc, _ => by
    simp [Extern.Bytes.loadBytes]
  | c :: l, b, o, acc, h => by
    have h0 : W.cell? ⟨b, o, none⟩ = some (.int .u8 (c.toNat : Int)) := by
      have := Rd.at (j := 0) (v := .int .u8 (c.toNat : Int)) h rfl
      simpa using this
    have h1 : Rd W (some ⟨b, o + 1, none⟩) (bs l) := by
      have := Rd.drop h 1
      simpa [bs] using this
    have ih := run_loadBytes l b (o + 1) (acc.push c) h1
    rw [List.length_cons, Extern.Bytes.loadBytes]
    have e2 : (load (⟨b, o, none⟩ : Addr)).run P W = .ok (.int .u8 (c.toNat : Int)) W := by rw [run_load, h0]
    have e3 : ((c.toNat : Int)).toNat.toUInt8 = c := by simp
    simp only [Sem.run_bind, e2, Result.andThen_ok, e3]
    rw [show (⟨b, o, none⟩ : Addr).add 1 = ⟨b, o + 1, none⟩ from rfl, ih]
    congr 2
    simp [ByteArray.push]
/-- Two strings of bytes are compared. -/
theorem run_compare (l l' : List UInt8) (b o b' o' c c' : Nat) (h : Rd W (some ⟨b, o, none⟩) (bs l)) (h' : Rd W (some ⟨b', o', none⟩) (bs l')) :
    (Extern.BytealgCompare.compare #[.slice (some ⟨b, o, none⟩) l.length c, .slice (some ⟨b', o', none⟩) l'.length c']).run P W = .ok (.int .i64 (Lib.compareBytes l l')) W := by
  change Sem.run P (do pure (goInt (Extern.BytealgCompare.cmp (← Extern.Bytes.bytesOf (.slice (some ⟨b, o, none⟩) l.length c)) (← Extern.Bytes.bytesOf (.slice (some ⟨b', o', none⟩) l'.length c'))))) W = _
  simp only [Extern.Bytes.bytesOf, Sem.run_bind, Sem.run_pure, run_loadBytes l b o .empty h, run_loadBytes l' b' o' .empty h', Result.andThen_ok]
  rw [Lib.cmp_eq]
  rfl
def nodeB (i : Nat) : List UInt8 := [2, 0, 0, 0, 2, UInt8.ofNat i]
theorem nodeB_bs (i : Nat) (h : i ≤ 255) : bs (nodeB i) = nodeC i := by
  simp [bs, nodeB, nodeC]
  omega
theorem compare_node (a b : Nat) (ha : a ≤ 255) (hb : b ≤ 255) : Lib.compareBytes (nodeB a) (nodeB b) = cmpN a b := by
  have h1 : (UInt8.ofNat a < UInt8.ofNat b) ↔ a < b := by
    rw [UInt8.lt_iff_toNat_lt]
    simp
    omega
  have h2 : (UInt8.ofNat b < UInt8.ofNat a) ↔ b < a := by
    rw [UInt8.lt_iff_toNat_lt]
    simp
    omega
  have hs : ∀ (x : UInt8) (l l' : List UInt8), Lib.compareBytes (x :: l) (x :: l') = Lib.compareBytes l l' := fun x l l' => by
    rw [Lib.compareBytes]
    simp
  unfold nodeB
  rw [hs, hs, hs, hs, hs, Lib.compareBytes, Lib.compareBytes]
  simp only [h1, h2]
  unfold cmpN
  rfl

/-- 'x[l:]', nil or not. -/
theorem Q.slcP {t e : TypeId} {x : Operand} {lo hi : Option Operand} {p : Option Addr} {m c l h s by_ : Nat} (ht : tySlice P t = some (e, s, by_)) (hx : ev E x = some (.slice p m c)) (hl : Bd E lo 0 l) (hh : Bd E hi m h)
    (h1 : l ≤ h) (h2 : h ≤ c) : Quiet P W0 gs E L (.slice t x lo hi none) (.slice (if c = l then p else p.map (·.add (l * s))) (h - l) (c - l)) := by
  intro a W dst ty pos after g he _ _
  obtain ⟨i, hu, hi', rfl, _⟩ := tySlice_spec ht
  have hb := run_sliceBounds (P := P) (W := W) (isS := true) he hl hh h1 h2
  simp only [execOp, he x _ hx, Instr.sliceAt, Sem.run_bind, run_underlying hu, Result.andThen_ok, Instr.slice, Option.map_none, hb, sizeOf, typeInfo, run_program, hi', Sem.run_pure]

/-- A row is opened where it stands. -/
theorem VK.openAt {g m c s : Nat} {e : TypeId} {xs : List Value} {F : Rs → List Rs} (hF : At L (.row (.slice (some ⟨g, 0, none⟩) m c) e s m xs) F)
    (h : ∀ D : List Value, m * s + D.length = c * s → xs.length = m * s → m ≤ c → c ≤ maxLen → VK W0 gs n K E (F (.blk g (xs ++ D) e))) : VK W0 gs n K E L := fun a W st => by
  have hm : Rs.row (.slice (some ⟨g, 0, none⟩) m c) e s m xs ∈ L := (hF.upd (.row (.slice (some ⟨g, 0, none⟩) m c) e s m xs)).mem
  have hr : W.ownsRow 0 e s (.slice (some ⟨g, 0, none⟩) m c) m xs := st.own.all _ hm
  rcases hr.2 with ⟨hv, _⟩ | ⟨g', cap, cur, hv, _, hg, h1, h2, h3, h4⟩
  · cases hv
  · simp only [Value.slice.injEq, Option.some.injEq, Addr.mk.injEq] at hv
    obtain ⟨⟨rfl, _, _⟩, _, rfl⟩ := hv
    have hcur : cur.toList = xs ++ cur.toList.drop (m * s) := by
      rw [← h4]
      exact (List.take_append_drop _ _).symm
    have hu := hF.upd (.blk g (xs ++ cur.toList.drop (m * s)) e)
    have hids : (F (.blk g (xs ++ cur.toList.drop (m * s)) e)).flatMap Rs.ids = L.flatMap Rs.ids := by
      obtain ⟨A, B, hA, hB⟩ := hu.split
      rw [hB, hA]
      simp [Rs.ids, Value.ownBlock]
    have hle : m * s ≤ c * s := Nat.mul_le_mul_right _ h1
    refine h (cur.toList.drop (m * s)) (by rw [List.length_drop]; simp only [Array.length_toList]; omega) hr.1 h1 h2 a W (st.world st.only (own_upd st.own hu ?_ (.inl ?_) fun _ _ _ => rfl) (by rw [hids]; exact st.fresh))
    · show W.heap[g]? = _
      rw [hg, ← hcur, Array.toArray_toList]
    · simp [Rs.ids, Value.ownBlock]
theorem seg_front {A B : List Value} {s : Nat} (h : A.length = s) : Seg (A ++ B) 0 s A := by
  have := seg_mid (A := []) (B := A) (C := B)
  rw [h] at this
  simpa using this
theorem put_back {A B ys : List Value} {s : Nat} (h : A.length = s) (hl : ys.length ≤ B.length) : Put (A ++ B) s ys (A ++ (ys ++ B.drop ys.length)) := by
  have := put_mid (A := A) (Put.front hl)
  rwa [Nat.add_zero, h] at this
theorem take_two {A B D : List Value} {s : Nat} (h1 : A.length = s) (h2 : B.length = s) : (A ++ (B ++ D)).take (2 * s) = A ++ B := by
  rw [← List.append_assoc, List.take_append_of_le_length (by rw [List.length_append]; omega), List.take_of_length_le (by rw [List.length_append]; omega)]

theorem beqN (a b : Nat) : ((a : Int) == (b : Int)) = decide (a = b) := by
  by_cases h : a = b
  · subst h; simp
  · have h2 : (a : Int) ≠ b := by omega
    simp [h, h2]
theorem node_eq (a b : Nat) : vsEq (nodeC a) (nodeC b) = decide (a = b) := by
  simp [vsEq, vEq, nodeC, beqN]
theorem mark_eq (x q : Nat × Nat) : vsEq (markC x) (markC q) = decide (x = q) := by
  obtain ⟨a, b⟩ := x
  obtain ⟨c, d⟩ := q
  simp [vsEq, vEq, markC, beqN]
theorem zeroCells_one (z : Array Value) (n : Nat) (h : z.toList.all one = true) (h0 : 0 < z.size) : (Builtin.zeroCells z n).toList.all one = true := by
  rw [List.all_eq_true] at h ⊢
  intro v hv
  simp only [Builtin.zeroCells, Array.toList_map, List.mem_map] at hv
  obtain ⟨i, _, rfl⟩ := hv
  have hlt : i % z.size < z.size := Nat.mod_lt _ h0
  refine h _ ?_
  rw [getElem!_pos z (i % z.size) hlt]
  exact Array.getElem_mem_toList hlt
/-- The last record of a row is cleared. -/
theorem put_last {α : Type} {f : α → List Value} {s : Nat} (hf : ∀ x, (f x).length = s) (l : List α) (i : Nat) (hi : i < l.length) (hl : i + 1 = l.length) (D zs : List Value) (hz : zs.length = s) :
    Put (l.flatMap f ++ D) (i * s) zs ((l.take i).flatMap f ++ (zs ++ D)) := by
  have e1 := fm_split (f := f) l i hi
  have e2 : l.drop (i + 1) = [] := List.drop_of_length_le (by omega)
  rw [e2] at e1
  rw [e1]
  simp only [List.flatMap_nil, List.append_nil, List.append_assoc]
  have := put_mid (A := (l.take i).flatMap f) (put_over (A := f l[i]) (B := D) (ys := zs) (by rw [hf, hz]))
  rwa [Nat.add_zero, fm_take_len hf l i (by omega)] at this
/-- Two slices in two own blocks do not overlap. -/
theorem own_overlaps {t e : TypeId} {s by_ : Nat} {g g' o o' m c m' c' : Nat} {C C' : List Value} {tc tc' : TypeId} {tR : TypeId} (ht : tySlice P t = some (e, s, by_)) (hw : Own W L) (hm : Rs.blk g C tc ∈ L) (hm' : Rs.blk g' C' tc' ∈ L) (hne : g ≠ g') (hC : 0 < C'.length) :
    (Extern.SlicesOverlaps.overlaps #[t, t] #[tR] #[.slice (some ⟨g, o, none⟩) m c, .slice (some ⟨g', o', none⟩) m' c']).run P W = .ok (.bool false) W := by
  obtain ⟨i, hu, hi, rfl, _⟩ := tySlice_spec ht
  have h1 : W.heap[g]? = some (.cells C.toArray tc (0, 0)) := hw.all _ hm
  have h2 : W.heap[g']? = some (.cells C'.toArray tc' (0, 0)) := hw.all _ hm'
  refine Lib.run_overlaps_apart W t tR e hu i.size (fun w => by simp [sizeOf, typeInfo, hi]) ⟨g, o, none⟩ ⟨g', o', none⟩ m c m' c' hne tc tc' C.length C'.length ?_ ?_ (by omega) ?_ ?_
  · simp [World.shape?, h1]
  · simp [World.shape?, h2]
  · simp [World.frozen?, h1]
  · simp [World.frozen?, h1]

/-- 'append(x[:0], make([]T, 2)...)' that does not fit. -/
theorem O.appendMake {t ti e : TypeId} {s by_ : Nat} {z : Value} {x y : Operand} {p : Option Addr} {c m : Nat} {d : Nat} {t' : TypeId} {pos : String} {after : Array Edge} {gd : Option (Nat × Bool)}
    (ht : tySlice P t = some (e, s, by_)) (hti : tyInt P ti = some .i64) (hz : (P.info? e).bind (·.zero) = some z) (hzs : z.cells.size = s) (hs : 0 < s)
    (hx : ev E x = some (.slice p 0 c)) (hy : ev E y = some (.int .i64 (m : Int))) (hm : c < m) (hm2 : m ≤ 1000) (hby : by_ ≤ 1000000) (hd : d < n)
    (h : ∀ g C c', m ≤ c' → c' ≤ maxLen → C.length = c' * s → VK W0 gs n K ((d, .slice (some ⟨g, 0, none⟩) m c') :: E) (.blk g C e :: L)) :
    VO P W0 gs n Q ⟨some d, .call ⟨.builtin .append, #[x, y], #[t, ti]⟩, t', pos, after, gd⟩ K E L := by
  intro a W st
  obtain ⟨i, hut, hi', rfl, rfl⟩ := tySlice_spec ht
  have hzi : i.zero = some z := by simpa [hi'] using hz
  have hui : P.underlying ti = some (.int .i64) := by
    unfold tyInt at hti
    split at hti
    · simp only [Option.some.injEq] at hti
      subst hti
      assumption
    · cases hti
  have hcap : Builtin.nextslicecap (0 + m) c * i.bytes ≤ 281474976710656 := growslice_fits (by omega) (by
    have : (0 + m) * i.bytes ≤ 1000 * 1000000 := Nat.mul_le_mul (by omega) hby
    omega)
  have hmb : m * i.bytes ≤ 281474976710656 := by
    have : m * i.bytes ≤ 1000 * 1000000 := Nat.mul_le_mul hm2 hby
    omega
  have hr := Lib.run_append_grow_zeros (P := P) W t ti t' e i z .i64 .i64 hut hui hi' hzi p 0 c [] (by
    cases p with
    | none => simp [Builtin.firstCells]
    | some p =>
      have := run_loadCells_list (P := P) W.drew p [] (fun j v hv => by simp at hv)
      simpa [Builtin.firstCells] using this) m (by omega) hs (by omega) (by omega) hmb hcap
  simp only [Nat.zero_add] at hr
  have hge := grownCap_ge W m c e
  have hle := grownCap_le_maxLen W m c e (by unfold maxLen; omega)
  generalize hcc : grownCap W m c e = c' at *
  generalize hC : (([] : List Value).toArray ++ Builtin.zeroCells z.cells m ++ Builtin.zeroCells z.cells (c' - m)) = C at *
  have hlen : C.toList.length = c' * i.size := by
    rw [← hC]
    simp only [Array.length_toList, Array.size_append, size_zeroCells, hzs, List.size_toArray, List.length_nil, Nat.zero_add]
    rw [← Nat.add_mul]
    congr 1
    omega
  have hexec : (execOp a.eval ⟨some d, .call ⟨.builtin .append, #[x, y], #[t, ti]⟩, t', pos, after, gd⟩).run P W = .ok (.value (.slice (some ⟨W.heap.size, 0, none⟩) m c')) (W.drew.alloc (.cells C e)) := by
    simp [execOp, resolve, invoke, builtin, st.eval hx, st.eval hy, hr]
  unfold Oper.wp
  rw [hexec, Oper.upon_value]
  have sd : St W0 gs n E L a W.drew := ⟨st.defers, st.size, st.env, ⟨st.only.os, st.only.tape, st.only.output, st.only.size, st.only.block⟩, ⟨st.own.nodup, fun r hr => Rs.stable (st.own.all r hr) fun _ _ => rfl⟩, st.fresh⟩
  have sa := sd.alloc C.toList e
  rw [Array.toArray_toList] at sa
  exact h W.heap.size C.toList c' (by omega) hle hlen _ _ (sa.put hd _)

/-- 'clear' of a piece of an own block. -/
theorem O.clear {t e : TypeId} {s by_ : Nat} {z : Value} {x : Operand} {g o m c : Nat} {C C' : List Value} {t' tb : TypeId} {pos : String} {after : Array Edge} {gd : Option (Nat × Bool)}
    (ht : tySlice P t = some (e, s, by_)) (hz : (P.info? e).bind (·.zero) = some z) (hx : ev E x = some (.slice (some ⟨g, o, none⟩) m c)) (hm : 0 < m)
    (hu : Upd L (.blk g C tb) (.blk g C' tb) L') (hp : Put C o (Builtin.zeroCells z.cells m).toList C') (h1 : (Builtin.zeroCells z.cells m).toList.all one = true) (h : VK W0 gs n K E L') :
    VO P W0 gs n Q ⟨none, .call ⟨.builtin .clear, #[x], #[t]⟩, t', pos, after, gd⟩ K E L := by
  intro a W st
  obtain ⟨i, hut, hi', rfl, _⟩ := tySlice_spec ht
  have hzi : i.zero = some z := by simpa [hi'] using hz
  have hb : W.heap[g]? = some (.cells C.toArray tb (0, 0)) := st.own.all _ hu.mem
  obtain ⟨hle, hC⟩ := hp.spec
  have hsc : (storeCells ⟨g, o, none⟩ (Builtin.zeroCells z.cells m).toList).run P W = .ok () (W.setRow g C'.toArray) := by
    have := run_storeCells_at P g o tb (Builtin.zeroCells z.cells m).toList 0 C.toArray W hb (by simpa using hle) (fun u hu => one_oneCell (List.all_eq_true.1 h1 u hu))
    simp only [Nat.add_zero] at this
    rw [this, hC]
  obtain ⟨m, rfl⟩ : ∃ k, m = k + 1 := ⟨m - 1, by omega⟩
  have hexec : (execOp a.eval ⟨none, .call ⟨.builtin .clear, #[x], #[t]⟩, t', pos, after, gd⟩).run P W = .ok (.value (.tuple #[])) (W.setRow g C'.toArray) := by
    simp [execOp, resolve, invoke, builtin, st.eval hx, Builtin.clear_, run_underlying hut, zeroValue, typeInfo, hi', hzi, hsc]
  unfold Oper.wp
  rw [hexec, Oper.upon_value]
  exact h _ _ (st.setRow hu)
end
end Go.Sx
