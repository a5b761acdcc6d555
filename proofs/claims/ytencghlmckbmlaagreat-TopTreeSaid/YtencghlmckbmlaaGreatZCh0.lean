/- What the check of the cheapest ways needs. Conditions: those that each bears. -/
import Derived.Test.YtencghlmckbmlaaGreatRows
import Derived.Test.YtencghlmckbmlaaGreatZUp
import Derived.Test.YtencghlmckbmlaaGreatZRise
namespace Go.Proofs.YtencghlmckbmlaaGreat
open Go Go.RowKit Go.Sx
set_option maxRecDepth 100000



open Go.Mesh
section
variable {P : Program} {Q : Exit → Act → World → Prop} {N N2 : Act → World → Prop} {i j : Nat}
theorem ze {fn : Func} {R : Ending → World → Prop} : Still (bodyPost P fn R) := Still.body
theorem zt (h : Still Q) : Still (Exit.then N Q) := h.then
theorem zb (h : Still Q) : Still (Exit.inBlock i Q) := h.block
theorem ztt (h : Still Q) : Still (Exit.then N (Exit.then N2 Q)) := h.then.then
theorem zttb (h : Still Q) : Still (Exit.then N (Exit.then N2 (Exit.inBlock i Q))) := h.block.then.then
theorem zttbb (h : Still Q) : Still (Exit.then N (Exit.then N2 (Exit.inBlock i (Exit.inBlock j Q)))) := h.block.block.then.then
end
theorem mannounce2_c (g : Nat) (M : Core) (F : Fwd) (Y : Lay) (R : List Rs) (k : Nat) (hI : Inv k M) (hk : k ≤ 1000) (hH : Held M F Y R) (hml : Y.mail.length ≤ 1000000) (r : Nat) (hr : r < 2) : Does Tryz.prog 9 [.pointer (some ⟨g, 0, none⟩), .int .i64 (r : Int)] (mBlk g M F Y :: mRow Y :: R) (fun _ => True) (X := Lay × List Rs) (fun x => Held (ann M r) F x.1 x.2 ∧ x.1.mail.length ≤ Y.mail.length + 6) (fun _ => .bool true) (fun x => mBlk g (ann M r) F x.1 :: mRow x.1 :: x.2) := by
  refine (mannounce_c g M F Y R k hI hk hH hml r hr).mono (fun _ h => h) ?_
  rintro ⟨q, b, mv⟩ _
  exact ⟨(annY M Y r q b mv, _), ⟨held_ann hH q b mv, spY_len _ _ _ _ _ _⟩, rfl, List.Sublist.refl _⟩
theorem marrive2_c (g : Nat) (M : Core) (F : Fwd) (Y : Lay) (R : List Rs) (k : Nat) (hI : Inv k M) (hk : k ≤ 1000) (hH : Held M F Y R) (hml : Y.mail.length ≤ 1000000) (q : Nat) (x : Word × (Option Addr × Nat)) (hq : q < Y.mail.length) (hx : Y.mail[q] = x) : Does Tryz.prog 10 [.pointer (some ⟨g, 0, none⟩), .int .i64 (q : Int)] (mBlk g M F Y :: mRow Y :: R) (fun _ => True) (X := Lay × List Rs) (fun z => Held (arr M x.1) F z.1 z.2 ∧ z.1.mail.length ≤ Y.mail.length + 6 ∧ (∃ l, z.1.mail = Y.mail ++ l)) (fun _ => .bool true) (fun z => mBlk g (arr M x.1) F z.1 :: mRow z.1 :: z.2) := by
  refine (marrive_c g M F Y R k hI hk hH hml q x hq hx).mono (fun _ h => h) ?_
  intro z hz
  cases z with
  | none =>
    have hs : stale M x.1 = true := hz.symm
    have e : arr M x.1 = M := by unfold arr; rw [if_pos hs]
    rw [e]
    exact ⟨(Y, R), ⟨hH, Nat.le_add_right _ _, [], by simp⟩, rfl, List.Sublist.refl _⟩
  | some y =>
    obtain ⟨q1, b, mv⟩ := y
    have hs : stale M x.1 = false := hz.symm
    have e : arr M x.1 = acc M x.1 := by unfold arr; rw [if_neg (by rw [hs]; decide)]
    rw [e]
    exact ⟨(accY M Y x.1 q1 b mv, _), ⟨held_acc hH x.1 q1 b mv, spY_len _ _ _ _ _ _, _, rfl⟩, rfl, List.Sublist.refl _⟩

/-- the least cost of the first roots -/
def leastF (M : Core) (i : Nat) : Nat → Nat
  | 0 => far
  | k + 1 => match M.tree i k with | some t => min (leastF M i k) t.cost | none => leastF M i k
theorem least_le (M : Core) (i : Nat) : ∀ k, leastF M i k ≤ far
  | 0 => Nat.le_refl _
  | k + 1 => by
    have := least_le M i k
    unfold leastF
    cases M.tree i k with
    | none => exact this
    | some t => dsimp only; omega
theorem least_of {M : Core} {i r : Nat} {t : TreeV} (hr : r < 2) (h : M.tree i r = some t) : leastF M i 2 ≤ t.cost := by
  have h2 : r = 0 ∨ r = 1 := by omega
  rcases h2 with rfl | rfl
  · have e : leastF M i 1 ≤ t.cost := by unfold leastF; rw [h]; dsimp only; omega
    unfold leastF
    cases M.tree i 1 with
    | none => exact e
    | some u => dsimp only; omega
  · unfold leastF
    rw [h]
    dsimp only
    omega
theorem least_is {M : Core} {i c : Nat} (hc : c ≤ far) (h : ∀ r, r < 2 → ∀ t, M.tree i r = some t → c ≤ t.cost) : c ≤ leastF M i 2 := by
  have h0 := h 0 (by omega)
  have h1 := h 1 (by omega)
  unfold leastF leastF leastF
  cases e0 : M.tree i 0 with
  | none =>
    cases e1 : M.tree i 1 with
    | none => exact hc
    | some u => have := h1 u e1; dsimp only; omega
  | some t =>
    have := h0 t e0
    cases e1 : M.tree i 1 with
    | none => dsimp only; omega
    | some u => have := h1 u e1; dsimp only; omega
theorem best1_c {k : Nat} {M : Core} (hI : Inv k M) (hk : k ≤ 1000) (o sq : Nat) (p : Option Addr) (c : Nat) (ho : o < 6) (ft : Nat → Option TreeV) (hft : M.tree o = ft) (hsq : sq ≤ 2147483647) :
    Does Tryz.prog 51 [.agg #[.int .u8 2, .int .u8 0, .int .u8 0, .int .u8 0, .int .u8 2, .int .u8 (o : Int), .bool (decide (o < 2)), .bool (decide (o = 0)), .int .i64 (sq : Int), .slice p (lst ft).length c, .slice none 0 0], .bool false] [] (fun W => Rd W p ((lst ft).flatMap treeC)) (X := Option (Nat × TreeV)) (fun x => match x with | none => leastF M o 2 = far | some q => q.2.cost = leastF M o 2 ∧ leastF M o 2 < far) (fun x => match x with | none => .tuple #[.agg #[.int .u8 0, .int .u8 0, .int .u8 0, .int .u8 0, .int .u8 0, .int .u8 0, .int .u8 0, .int .u8 0, .int .u8 0, .int .u8 0, .int .u8 0, .int .u8 0, .int .i64 0, .int .i64 0, .int .i64 0, .bool false, .int .i64 0], .bool false] | some q => .tuple #[.agg #[.int .u8 2, .int .u8 0, .int .u8 0, .int .u8 0, .int .u8 2, .int .u8 (q.1 : Int), .int .u8 2, .int .u8 0, .int .u8 0, .int .u8 0, .int .u8 2, .int .u8 (q.2.parent : Int), .int .i64 (q.2.seq : Int), .int .i64 (q.2.hops : Int), .int .i64 (q.2.cost : Int), .bool (decide (q.1 = 0)), .int .i64 (q.2.till : Int)], .bool true]) (fun _ => []) := by
  subst hft
  refine (best_c o sq p (lst (M.tree o)).length c (lst (M.tree o)) rfl (inv_tsok hI hk ho) hsq false).mono (fun _ h => h) ?_
  intro x hx
  refine ⟨x, ?_, rfl, List.Sublist.refl _⟩
  cases x with
  | none =>
    have hn := hx.no rfl
    have hnil : ∀ r, r < 2 → M.tree o r = none := fun r hr => by
      cases h : M.tree o r with
      | none => rfl
      | some t => have := hn (r, t) (mem_lst.2 ⟨hr, h⟩); cases this
    show leastF M o 2 = far
    unfold leastF leastF leastF
    rw [hnil 0 (by omega), hnil 1 (by omega)]
  | some q =>
    obtain ⟨h1, _, h3⟩ := hx.is q rfl
    obtain ⟨hr, ht⟩ := mem_lst.1 h1
    have hc := (hI.cost_lt ho hr ht).1
    have e5 : 5 * CM < far := by decide
    have hle := least_of hr ht
    have hge := least_is (M := M) (i := o) (c := q.2.cost) (by omega) fun r hr t ht => h3 (r, t) (mem_lst.2 ⟨hr, ht⟩) rfl
    exact ⟨by omega, by omega⟩
theorem best0_c {k : Nat} {M : Core} (hI : Inv k M) (hk : k ≤ 1000) (o sq : Nat) (p : Option Addr) (c : Nat) (ho : o < 6) (ft : Nat → Option TreeV) (hft : M.tree o = ft) (hsq : sq ≤ 2147483647) :
    Does Tryz.prog 51 [.agg #[.int .u8 2, .int .u8 0, .int .u8 0, .int .u8 0, .int .u8 2, .int .u8 (o : Int), .bool (decide (o < 2)), .bool (decide (o = 0)), .int .i64 (sq : Int), .slice p (lst ft).length c, .slice none 0 0], .bool true] [] (fun W => Rd W p ((lst ft).flatMap treeC)) (X := Option TreeV) (fun x => M.tree o 0 = x) (fun x => match x with | none => .tuple #[.agg #[.int .u8 0, .int .u8 0, .int .u8 0, .int .u8 0, .int .u8 0, .int .u8 0, .int .u8 0, .int .u8 0, .int .u8 0, .int .u8 0, .int .u8 0, .int .u8 0, .int .i64 0, .int .i64 0, .int .i64 0, .bool false, .int .i64 0], .bool false] | some t => .tuple #[.agg #[.int .u8 2, .int .u8 0, .int .u8 0, .int .u8 0, .int .u8 2, .int .u8 (((0, t) : Nat × TreeV).1 : Int), .int .u8 2, .int .u8 0, .int .u8 0, .int .u8 0, .int .u8 2, .int .u8 (((0, t) : Nat × TreeV).2.parent : Int), .int .i64 (((0, t) : Nat × TreeV).2.seq : Int), .int .i64 (((0, t) : Nat × TreeV).2.hops : Int), .int .i64 (((0, t) : Nat × TreeV).2.cost : Int), .bool (decide (((0, t) : Nat × TreeV).1 = 0)), .int .i64 (((0, t) : Nat × TreeV).2.till : Int)], .bool true]) (fun _ => []) := by
  subst hft
  refine (best_c o sq p (lst (M.tree o)).length c (lst (M.tree o)) rfl (inv_tsok hI hk ho) hsq true).mono (fun _ h => h) ?_
  intro x hx
  cases x with
  | none =>
    have hn := hx.no rfl
    refine ⟨none, ?_, rfl, List.Sublist.refl _⟩
    cases h : M.tree o 0 with
    | none => rfl
    | some t => have := hn (0, t) (mem_lst.2 ⟨by show 0 < 2; omega, h⟩); simp at this
  | some q =>
    obtain ⟨r, t⟩ := q
    obtain ⟨h1, h2, _⟩ := hx.is (r, t) rfl
    obtain ⟨hr, ht⟩ := mem_lst.1 h1
    have h0 : r = 0 := by simpa using h2
    subst h0
    exact ⟨some t, ht, rfl, List.Sublist.refl _⟩

/-! the cheapest ways in memory -/
def wayR (w : Mesh.Way) (i : Nat) : List Value := (List.range 6).map fun j => .int .i64 (w i j : Int)
def wayC (w : Mesh.Way) : List Value := (List.range 6).flatMap (wayR w)
theorem wayR_len (w : Mesh.Way) (i : Nat) : (wayR w i).length = 6 := by simp [wayR]
theorem way_get (w : Mesh.Way) {i j : Nat} (hi : i < 6) (hj : j < 6) : (wayC w)[0 + i * 6 + j]? = some (.int .i64 (w i j : Int)) := by
  have h := fm_seg (wayR_len w) (List.range 6) i (by simpa using hi)
  rw [range_get] at h
  rw [Nat.zero_add]
  exact h.spec.2 j (.int .i64 (w i j : Int)) (by simp [wayR, hj])
theorem way_put (w : Mesh.Way) {a b : Nat} (ha : a < 6) (hb : b < 6) (v : Nat) : Put (wayC w) (0 + a * 6 + b) [.int .i64 (v : Int)] (wayC (upd2 w a b v)) := by
  have hp : Put (wayR w a) b [.int .i64 (v : Int)] (wayR (upd2 w a b v) a) := by
    have e : wayR (upd2 w a b v) a = (wayR w a).set b (.int .i64 (v : Int)) := by
      apply List.ext_getElem?
      intro k
      rw [List.getElem?_set]
      by_cases hk : k < 6
      · by_cases e : b = k
        · subst e
          simp [wayR, hb, upd2]
        · have e2 : k ≠ b := fun h => e h.symm
          simp [wayR, hk, e, e2, upd2]
      · have h1 : (wayR (upd2 w a b v) a)[k]? = none := List.getElem?_eq_none (by rw [wayR_len]; omega)
        have h2 : (wayR w a)[k]? = none := List.getElem?_eq_none (by rw [wayR_len]; omega)
        rw [h1, h2]
        have : b ≠ k := by omega
        simp [this]
    rw [e]
    exact Put.set (by rw [wayR_len]; exact hb)
  have h := put_fn (wayR_len w) (f' := wayR (upd2 w a b v)) (n := 6) ha (fun j hj => by
    unfold wayR upd2
    simp [hj]) hp
  rw [Nat.zero_add]
  exact h
theorem wayC_congr {w w' : Mesh.Way} (h : ∀ i j, i < 6 → j < 6 → w i j = w' i j) : wayC w = wayC w' := by
  unfold wayC
  refine flat_congr fun i hi => ?_
  unfold wayR
  refine List.map_congr_left fun j hj => ?_
  rw [h i j (by simpa using hi) (by simpa using hj)]
theorem wayC_zero : wayC (fun _ _ => 0) = List.replicate 36 (.int .i64 0) := rfl
def initW (M : Core) (n : Nat) : Mesh.Way := fun a b => if a * 6 + b < n then way0 M a b else 0
theorem initW_step (M : Core) {i j : Nat} (hi : i < 6) (hj : j < 6) : wayC (upd2 (initW M (i * 6 + j)) i j (way0 M i j)) = wayC (initW M (i * 6 + (j + 1))) := wayC_congr fun a b ha hb => by
  unfold upd2 initW
  by_cases e : a = i ∧ b = j
  · obtain ⟨rfl, rfl⟩ := e
    rw [if_pos ⟨rfl, rfl⟩, if_pos (by omega)]
  · rw [if_neg e]
    have : (a * 6 + b < i * 6 + j) ↔ (a * 6 + b < i * 6 + (j + 1)) := by omega
    simp only [this]
theorem initW_zero (M : Core) : wayC (initW M 0) = List.replicate 36 (.int .i64 0) := by
  rw [← wayC_zero]
  exact wayC_congr fun a b _ _ => by simp [initW]
theorem initW_last (M : Core) : wayC (initW M 36) = wayC (way0 M) := wayC_congr fun a b ha hb => by
  unfold initW
  rw [if_pos (by omega)]
theorem upd2_upd2 {w : Mesh.Way} {a b x y : Nat} : upd2 (upd2 w a b x) a b y = upd2 w a b y := by
  funext i j
  unfold upd2
  split <;> rfl
theorem fw_step (w : Mesh.Way) {k i j : Nat} (hi : i < 6) (hj : j < 6) : upd2 (fw w ((k * 6 + i) * 6 + j)) i j (min (fw w ((k * 6 + i) * 6 + j) i j) (fw w ((k * 6 + i) * 6 + j) i k + fw w ((k * 6 + i) * 6 + j) k j)) = fw w ((k * 6 + i) * 6 + (j + 1)) := by
  have e1 : ((k * 6 + i) * 6 + j) / 36 = k := by omega
  have e2 : ((k * 6 + i) * 6 + j) / 6 % 6 = i := by omega
  have e3 : ((k * 6 + i) * 6 + j) % 6 = j := by omega
  show _ = relax (((k * 6 + i) * 6 + j) / 36) (((k * 6 + i) * 6 + j) / 6 % 6) (((k * 6 + i) * 6 + j) % 6) (fw w ((k * 6 + i) * 6 + j))
  rw [e1, e2, e3]
  rfl

/-! the announcements at last -/
def annS (M : Core) : Nat → Core
  | 0 => M
  | k + 1 => ann (annS M k) k
theorem annS_inv {k : Nat} {M : Core} (h : Inv k M) : ∀ j, j ≤ 2 → Inv (k + j) (annS M j)
  | 0, _ => h
  | j + 1, hj => (annS_inv h j (by omega)).ann (by omega)
theorem annS_fwd {n : Nat} {M : Core} {F : Fwd} (h : FInv n M F) : ∀ j, FInv n (annS M j) F
  | 0 => h
  | j + 1 => (annS_fwd h j).core fun _ _ h => h
theorem annS_pos (M : Core) : ∀ r, r < 2 → 0 < (annS M 2).rseq r := fun r hr => by
  have h2 : r = 0 ∨ r = 1 := by omega
  rcases h2 with rfl | rfl
  · simp [annS, ann, upd]
  · simp [annS, ann, upd]
theorem arr_some {M : Core} {w : Word} (i r : Nat) (h : (M.tree i r).isSome = true) : ((arr M w).tree i r).isSome = true := by
  unfold arr
  split
  · exact h
  · show (upd2 M.tree w.dst w.root (some (newT M w)) i r).isSome = true
    unfold upd2
    split
    · rfl
    · exact h
theorem arr_rseq (M : Core) (w : Word) : (arr M w).rseq = M.rseq := by
  unfold arr
  split <;> rfl
structure CS where
  k : Nat
  M : Core
  Y : Lay
  R : List Rs
structure CI (K n B : Nat) (F : Fwd) (x : CS) : Prop where
  inv : Inv K x.M
  held : Held x.M F x.Y x.R
  len : x.Y.mail.length ≤ B + 6 * x.k
  kl : x.k ≤ x.Y.mail.length
  kb : x.k ≤ 20001
  done : ∀ j, j < x.k → ∀ h : j < x.Y.mail.length, stale x.M x.Y.mail[j].1 = true
  pos : ∀ r, r < 2 → 0 < x.M.rseq r
  fwd : FInv n x.M F
theorem CI.next {K n B : Nat} {F : Fwd} {x : CS} (h : CI K n B F x) (hK : K ≤ 1000000) (hk : x.k < x.Y.mail.length) (hb : x.k ≤ 20000) {Y' : Lay} {R' : List Rs} (hH : Held (arr x.M x.Y.mail[x.k].1) F Y' R') (hl : Y'.mail.length ≤ x.Y.mail.length + 6) (hp : ∃ l, Y'.mail = x.Y.mail ++ l) : CI K n B F ⟨x.k + 1, arr x.M x.Y.mail[x.k].1, Y', R'⟩ := by
  have hmem : x.Y.mail[x.k].1 ∈ x.M.mail := by rw [h.held.ml]; exact List.mem_map.2 ⟨_, List.getElem_mem hk, rfl⟩
  have hlen := h.len
  obtain ⟨l, hl2⟩ := hp
  refine ⟨h.inv.arr hmem hK, hH, by show Y'.mail.length ≤ B + 6 * (x.k + 1); omega, ?_, by show x.k + 1 ≤ 20001; omega, fun j hj hjl => ?_, fun r hr => by rw [arr_rseq]; exact h.pos r hr, h.fwd.core fun i r => arr_some i r⟩
  · show x.k + 1 ≤ Y'.mail.length
    rw [hl2, List.length_append]
    omega
  · have hj : j < x.k + 1 := hj
    have hjx : j < x.Y.mail.length := by omega
    have e : Y'.mail[j] = x.Y.mail[j] := by
      have : Y'.mail[j]? = x.Y.mail[j]? := by rw [hl2, List.getElem?_append_left hjx]
      rw [List.getElem?_eq_getElem hjl, List.getElem?_eq_getElem hjx] at this
      exact Option.some.inj this
    show stale (arr x.M x.Y.mail[x.k].1) Y'.mail[j].1 = true
    rw [e]
    by_cases ek : j = x.k
    · subst ek
      exact arr_done _ _
    · exact (arr_imp _ _).stale (h.done j (by omega) hjx)
theorem CI.ready {K n B : Nat} {F : Fwd} {x : CS} (h : CI K n B F x) (hk : ¬ x.k < x.Y.mail.length) : Ready K x.M := ⟨h.inv, fun w hw => by
  rw [h.held.ml] at hw
  obtain ⟨y, hy, rfl⟩ := List.mem_map.1 hw
  obtain ⟨j, hj, rfl⟩ := List.mem_iff_getElem.1 hy
  exact h.done j (by omega) hj, h.pos⟩

end Go.Proofs.YtencghlmckbmlaaGreat
