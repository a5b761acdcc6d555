/- The contracts of package radio: levels. Conditions: those that each bears. -/
import Derived.Test.YtencghlmckbmlaaGreatRows
import Derived.Test.YtencghlmckbmlaaGreatCRadio
import Derived.Test.YtencghlmckbmlaaGreatLen
namespace Go.Proofs.YtencghlmckbmlaaGreat
open Go Go.RowKit Go.Sx
set_option maxRecDepth 100000

theorem mixed : Tryz.prog.follows .mixedOrders = true := by kernel_rfl
theorem ok150 : okFunc Tryz.prog 150 = true := by kernel_rfl
theorem ok151 : okFunc Tryz.prog 151 = true := by kernel_rfl
theorem ok152 : okFunc Tryz.prog 152 = true := by kernel_rfl
theorem ok17 : okFunc Tryz.prog 17 = true := by kernel_rfl
theorem ok200 : okFunc Tryz.prog 200 = true := by kernel_rfl
theorem ok201 : okFunc Tryz.prog 201 = true := by kernel_rfl
theorem ok202 : okFunc Tryz.prog 202 = true := by kernel_rfl
theorem ok218 : okFunc Tryz.prog 218 = true := by kernel_rfl
theorem ok68 : okFunc Tryz.prog 68 = true := by kernel_rfl
theorem ok69 : okFunc Tryz.prog 69 = true := by kernel_rfl
theorem ok87 : okFunc Tryz.prog 87 = true := by kernel_rfl
theorem ti108 : tyInt Tryz.prog 108 = some .u64 := by kernel_rfl
theorem ti191 : tyInt Tryz.prog 191 = some .u64 := by kernel_rfl
theorem ti3 : tyInt Tryz.prog 3 = some .i64 := by kernel_rfl
theorem ty68 : tySz Tryz.prog 68 = some (true, 2) := by kernel_rfl
theorem ze3 : (Tryz.prog.info? 3).bind (·.zero) = some (.int .i64 0) := by kernel_rfl
theorem ze91 : (Tryz.prog.info? 91).bind (·.zero) = some (.agg #[.int .i64 0, .int .i64 0, .int .i64 0, .int .i64 0]) := by kernel_rfl
theorem zo91 : tyZero Tryz.prog 91 = some [.int .i64 0, .int .i64 0, .int .i64 0, .int .i64 0] := by kernel_rfl

def bitLen (x : Nat) : Nat := Lib.bitLen x
theorem len64_c (x : Int) (h0 : 0 ≤ x) (h1 : x ≤ 18446744073709551615) : Does Tryz.prog 202 [.int .u64 x] [] (fun _ => True) (X := Unit) (fun _ => True) (fun _ => .int .i64 (bitLen x.toNat : Int)) (fun _ => []) := by
  intro W _ _
  refine (len64_calls x W h0 h1).mono ?_
  rintro e W' ⟨rfl, rfl⟩
  exact ⟨(), trivial, rfl, Only.refl _ _, ⟨List.nodup_nil, fun r hr => by cases hr⟩, fun j hj => by cases hj⟩
theorem bitLen_bd (x : Int) (h0 : 0 ≤ x) (h1 : x ≤ 1000000000000000000) : bitLen x.toNat ≤ 60 := Lib.bitLen_le _ 60 (by omega) (by omega)
/-- a search by halves -/
def bsr (pr : Nat → Bool) : Nat → Nat → Nat → Nat
  | 0, i, _ => i
  | f + 1, i, j => if i < j then (if pr ((i + j) / 2) then bsr pr f i ((i + j) / 2) else bsr pr f ((i + j) / 2 + 1) j) else i
theorem bsr_fuel (pr : Nat → Bool) : ∀ (f g i j : Nat), j - i ≤ f → j - i ≤ g → bsr pr f i j = bsr pr g i j
  | 0, 0, i, j, _, _ => rfl
  | 0, g + 1, i, j, h, _ => by simp only [bsr]; rw [if_neg (by omega)]
  | f + 1, 0, i, j, _, h => by simp only [bsr]; rw [if_neg (by omega)]
  | f + 1, g + 1, i, j, hf, hg => by
    simp only [bsr]
    by_cases h : i < j
    · rw [if_pos h, if_pos h, bsr_fuel pr f g i ((i + j) / 2) (by omega) (by omega), bsr_fuel pr f g ((i + j) / 2 + 1) j (by omega) (by omega)]
    · rw [if_neg h, if_neg h]
theorem bsr_le (pr : Nat → Bool) : ∀ (f i j : Nat), i ≤ j → bsr pr f i j ≤ j
  | 0, i, j, h => h
  | f + 1, i, j, h => by
    simp only [bsr]
    split
    · split
      · have := bsr_le pr f i ((i + j) / 2) (by omega)
        omega
      · exact bsr_le pr f _ j (by omega)
    · exact h
/-- where a search by halves stands -/
structure Half (pr : Nat → Bool) (n : Nat) (x : Nat × Nat) : Prop where
  le : x.1 ≤ x.2
  len : x.2 ≤ n
  eq : bsr pr n x.1 x.2 = bsr pr n 0 n
theorem Half.start {pr : Nat → Bool} {n : Nat} : Half pr n (0, n) := ⟨Nat.zero_le _, Nat.le_refl _, rfl⟩
theorem Half.up {pr : Nat → Bool} {n i j m : Nat} (h : Half pr n (i, j)) (hij : i < j) (hm : m = (i + j) / 2) (hp : pr m = false) : Half pr n (m + 1, j) := ⟨by show m + 1 ≤ j; omega, h.len, by
  have h1 := h.len
  have h2 := h.eq
  dsimp only at h1 h2 ⊢
  rw [← h2, bsr_fuel pr n (n + 1) i j (by omega) (by omega)]
  simp only [bsr]
  rw [if_pos hij, ← hm, if_neg (by simp [hp])]⟩
theorem Half.down {pr : Nat → Bool} {n i j m : Nat} (h : Half pr n (i, j)) (hij : i < j) (hm : m = (i + j) / 2) (hp : pr m = true) : Half pr n (i, m) := ⟨by show i ≤ m; omega, by have := h.len; dsimp only at this ⊢; omega, by
  have h1 := h.len
  have h2 := h.eq
  dsimp only at h1 h2 ⊢
  rw [← h2, bsr_fuel pr n (n + 1) i j (by omega) (by omega)]
  simp only [bsr]
  rw [if_pos hij, ← hm, if_pos hp]⟩
theorem Half.done {pr : Nat → Bool} {n i j : Nat} (h : Half pr n (i, j)) (hij : ¬ i < j) : i = bsr pr n 0 n := by
  have h2 := h.eq
  dsimp only at h2
  rw [← h2]
  cases n with
  | zero => rfl
  | succ n => simp only [bsr]; rw [if_neg hij]
theorem sq_bd (a : Int) (h : -20000 ≤ a ∧ a ≤ 20000) : 0 ≤ a * a ∧ a * a ≤ 400000000 := by
  have key : ∀ b : Nat, b ≤ 20000 → 0 ≤ (b : Int) * b ∧ (b : Int) * b ≤ 400000000 := fun b hb => by
    have h1 : b * b ≤ 20000 * 20000 := Nat.mul_le_mul hb hb
    have h2 : ((b * b : Nat) : Int) = (b : Int) * b := by push_cast; rfl
    omega
  rcases Int.natAbs_eq a with h1 | h1
  · rw [h1]; exact key _ (by omega)
  · rw [h1, Int.neg_mul_neg]; exact key _ (by omega)
theorem up_bd (d : Nat) (h : d < 30000) : 0 ≤ ((d : Int) + 1) * ((d : Int) + 1) ∧ ((d : Int) + 1) * ((d : Int) + 1) ≤ 900000000 := by
  have h1 : (d + 1) * (d + 1) ≤ 30000 * 30000 := Nat.mul_le_mul (by omega) (by omega)
  have h2 : (((d + 1) * (d + 1) : Nat) : Int) = ((d : Int) + 1) * ((d : Int) + 1) := by push_cast; rfl
  omega
def rootN (s : Int) : Nat := bsr (fun d => decide (s < ((d : Int) + 1) * ((d : Int) + 1))) 30000 0 30000
theorem rootN_le (s : Int) : rootN s ≤ 30000 := bsr_le _ _ _ _ (by decide)
def distN (x1 y1 x2 y2 : Int) : Nat := rootN ((x1 - x2) * (x1 - x2) + (y1 - y2) * (y1 - y2))
def eOf (d : Int) : Int := if d < 1 then 1 else d
def lossOf (d : Int) : Int := 400 + 15 * ((bitLen (eOf d * eOf d * eOf d * eOf d).toNat : Int) - 1)
structure PowBd (e : Int) : Prop where
  e1 : 1 ≤ e ∧ e ≤ 30000
  e2 : 0 ≤ e * e ∧ e * e ≤ 900000000
  e3 : 0 ≤ e * e * e ∧ e * e * e ≤ 27000000000000
  e4 : 0 ≤ e * e * e * e ∧ e * e * e * e ≤ 810000000000000000
theorem pow_bd (e : Int) (h : 1 ≤ e ∧ e ≤ 30000) : PowBd e := by
  obtain ⟨b, rfl⟩ := Int.eq_ofNat_of_zero_le (by omega : 0 ≤ e)
  have hb : b ≤ 30000 := by omega
  have h2 : b * b ≤ 30000 * 30000 := Nat.mul_le_mul hb hb
  have h3 : b * b * b ≤ 30000 * 30000 * 30000 := Nat.mul_le_mul h2 hb
  have h4 : b * b * b * b ≤ 30000 * 30000 * 30000 * 30000 := Nat.mul_le_mul h3 hb
  have c2 : ((b * b : Nat) : Int) = (b : Int) * b := by push_cast; rfl
  have c3 : ((b * b * b : Nat) : Int) = (b : Int) * b * b := by push_cast; rfl
  have c4 : ((b * b * b * b : Nat) : Int) = (b : Int) * b * b * b := by push_cast; rfl
  exact ⟨h, by omega, by omega, by omega⟩
theorem eOf_bd (d : Int) (h : 0 ≤ d ∧ d ≤ 30000) : 1 ≤ eOf d ∧ eOf d ≤ 30000 := by unfold eOf; split <;> omega
theorem lossOf_bd (d : Int) (h : 0 ≤ d ∧ d ≤ 30000) : 385 ≤ lossOf d ∧ lossOf d ≤ 1285 := by
  have hp := pow_bd _ (eOf_bd d h)
  have := bitLen_bd _ hp.e4.1 (by have := hp.e4.2; omega)
  unfold lossOf
  omega
def raAt (rs : List Ra) (i : Nat) : Ra := rs.getD i ⟨0, 0, 0, 1⟩
theorem raAt_get {rs : List Ra} {i : Nat} (h : i < rs.length) : rs[i] = raAt rs i := by simp [raAt, List.getD, h]
/-- the level of node i at node j -/
def lev (rs : List Ra) (sd : List (List Int)) (i j : Nat) : Int :=
  (raAt rs i).p - (lossOf (distN (raAt rs i).x (raAt rs i).y (raAt rs j).x (raAt rs j).y : Int) + shAt sd i j)
def hearsB (rs : List Ra) (sd : List (List Int)) (j i : Nat) : Bool := decide (i ≠ j) && (decide ((raAt rs i).c = (raAt rs j).c) && decide (-820 ≤ lev rs sd i j))
theorem lev_bd {rs : List Ra} {sd : List (List Int)} (h : AirOk rs sd) {i j : Nat} (hi : i < rs.length) (hj : j < rs.length) : -2000 ≤ lev rs sd i j ∧ lev rs sd i j ≤ 300 := by
  have h1 := (h.ra _ (List.getElem_mem hi)).p
  rw [raAt_get hi] at h1
  have h2 := shAt_bd h i j
  have h3 := lossOf_bd (distN (raAt rs i).x (raAt rs i).y (raAt rs j).x (raAt rs j).y : Int) ⟨by omega, by have := rootN_le (((raAt rs i).x - (raAt rs j).x) * ((raAt rs i).x - (raAt rs j).x) + ((raAt rs i).y - (raAt rs j).y) * ((raAt rs i).y - (raAt rs j).y)); unfold distN; omega⟩
  unfold lev
  omega
theorem dist_sym (x1 y1 x2 y2 : Int) : distN x1 y1 x2 y2 = distN x2 y2 x1 y1 := by
  unfold distN
  rw [show x1 - x2 = -(x2 - x1) by omega, show y1 - y2 = -(y2 - y1) by omega, Int.neg_mul_neg, Int.neg_mul_neg]
def tuneR (rs : List Ra) (i : Nat) (ch : Int) : List Ra := rs.set i ⟨(raAt rs i).x, (raAt rs i).y, (raAt rs i).p, ch⟩
theorem tuneR_len (rs : List Ra) (i : Nat) (ch : Int) : (tuneR rs i ch).length = rs.length := by simp [tuneR]
theorem tuneR_at (rs : List Ra) (i : Nat) (ch : Int) (j : Nat) : (raAt (tuneR rs i ch) j).x = (raAt rs j).x ∧ (raAt (tuneR rs i ch) j).y = (raAt rs j).y ∧ (raAt (tuneR rs i ch) j).p = (raAt rs j).p ∧ (i ≠ j → (raAt (tuneR rs i ch) j).c = (raAt rs j).c) ∧ (i = j → i < rs.length → (raAt (tuneR rs i ch) j).c = ch) := by
  unfold tuneR raAt List.getD
  by_cases h : i = j
  · subst h
    by_cases hi : i < rs.length
    · simp [hi]
    · simp [hi]
  · simp [h]
theorem lev_tune (rs : List Ra) (sd : List (List Int)) (k : Nat) (ch : Int) (i j : Nat) : lev (tuneR rs k ch) sd i j = lev rs sd i j := by
  obtain ⟨h1, h2, h3, _⟩ := tuneR_at rs k ch i
  obtain ⟨g1, g2, g3, _⟩ := tuneR_at rs k ch j
  unfold lev
  rw [h1, h2, h3, g1, g2]
theorem AirOk.tune {rs : List Ra} {sd : List (List Int)} (h : AirOk rs sd) (i : Nat) (hi : i < rs.length) (ch : Int) (hc : 1 ≤ ch ∧ ch ≤ 64) : AirOk (tuneR rs i ch) sd where
  n0 := by rw [tuneR_len]; exact h.n0
  n9 := by rw [tuneR_len]; exact h.n9
  ra := by
    intro r hr
    rcases List.mem_or_eq_of_mem_set hr with hr | rfl
    · exact h.ra r hr
    · have := h.ra _ (List.getElem_mem hi)
      rw [raAt_get hi] at this
      exact ⟨this.x, this.y, this.p, hc⟩
  len := by rw [tuneR_len]; exact h.len
  row := by rw [tuneR_len]; exact h.row
  bd := h.bd
  dia := h.dia
  sym := h.sym
/-- what a changed world is -/
structure Wx where
  pr : Option Addr
  cr : Nat
  ps : Option Addr
  cs : Nat
  sh : List Row
  ids : List Nat

theorem clone_int (p : Option Addr) (n c : Nat) (xs : List Value) (hl : xs.length = n * 1) (h1 : xs.all one = true) (hn : n ≤ 100000) :
  Does Tryz.prog 139 [.slice p n c] [] (fun W => Rd W p xs) (X := Option Addr × Nat) (fun x => n ≤ x.2) (fun x => .slice x.1 n x.2) (fun x => [.row (.slice x.1 n x.2) 3 1 n xs]) := by
 refine Does.enter Tryz.func139 rfl (m := 8) rfl (by simp) ?_
 intro W0 hro
 refine VC.seq ?_
 refine VC.region ?_
 refine VL.q (Q.assign rfl) ?_
 refine VL.nil ?_
 refine VE.seq ?_
 rcases p with _ | q
 ·
  have hx : xs = [] := by
   cases xs with
   | nil => rfl
   | cons u us =>
    obtain ⟨_, _, e, _⟩ := hro 0 u rfl
    cases e
  subst hx
  have hn0 : n = 0 := by simp at hl; omega
  subst hn0
  refine VK.addNil 3 1 ?_
  refine VC.seq ?_
  refine VC.seq ?_
  refine VC.region ?_
  refine VL.q (Q.move rfl) ?_
  refine VL.quietE (v' := .bool true) (by decide) (Q.eqNil sl78 rfl rfl rfl) (by rfl) ?_
  refine VL.nil ?_
  refine VE.seq ?_
  refine VC.condT rfl ?_
  refine VC.seq ?_
  refine VC.region ?_
  refine VL.q (Q.assign rfl) ?_
  refine VL.nil ?_
  refine VE.seq ?_
  refine VC.ret ?_
  refine VE.then_ret ?_
  exact VE.ret rfl (.tmp rfl .nil) (none, 0) (Nat.le_refl _) rfl zB
 ·
  refine VC.seq ?_
  refine VC.seq ?_
  refine VC.region ?_
  refine VL.q (Q.move rfl) ?_
  refine VL.quietE (v' := .bool false) (by decide) (Q.eqNil sl78 rfl rfl rfl) (by rfl) ?_
  refine VL.nil ?_
  refine VE.seq ?_
  refine VC.condF rfl ?_
  refine VC.skip ?_
  refine VE.seq ?_
  refine VC.seq ?_
  refine VC.region ?_
  refine VL.eff (O.buildSlice0 sl78 (by decide) ?_)
  intro g5
  refine VK.toRow (g := g5) (s := 1) (m := 0) (c := 0) zU rfl (by omega) (by unfold maxLen; omega) ?_
  refine VL.q (Q.move rfl) ?_
  refine VL.eff (O.append sl78 ze3 rfl (by decide) rfl rfl hl h1 (by decide) (by unfold maxLen; omega) (by rw [Nat.zero_add]; omega) zA (fun _ ho _ => hro.only0 ho) ?_)
  intro p7 c7 hc7
  rw [Nat.zero_add]
  refine VL.q (Q.assign rfl) ?_
  refine VL.nil ?_
  refine VE.seq ?_
  refine VC.ret ?_
  exact VE.ret rfl (.tmp rfl .nil) (p7, c7) (by simpa using hc7) rfl zB

theorem clone_radio (p : Option Addr) (n c : Nat) (xs : List Value) (hl : xs.length = n * 4) (h1 : xs.all one = true) (hn : n ≤ 100000) :
  Does Tryz.prog 138 [.slice p n c] [] (fun W => Rd W p xs) (X := Option Addr × Nat) (fun x => n ≤ x.2) (fun x => .slice x.1 n x.2) (fun x => [.row (.slice x.1 n x.2) 91 4 n xs]) := by
 refine Does.enter Tryz.func138 rfl (m := 8) rfl (by simp) ?_
 intro W0 hro
 refine VC.seq ?_
 refine VC.region ?_
 refine VL.q (Q.assign rfl) ?_
 refine VL.nil ?_
 refine VE.seq ?_
 rcases p with _ | q
 ·
  have hx : xs = [] := by
   cases xs with
   | nil => rfl
   | cons u us =>
    obtain ⟨_, _, e, _⟩ := hro 0 u rfl
    cases e
  subst hx
  have hn0 : n = 0 := by simp at hl; omega
  subst hn0
  refine VK.addNil 91 4 ?_
  refine VC.seq ?_
  refine VC.seq ?_
  refine VC.region ?_
  refine VL.q (Q.move rfl) ?_
  refine VL.quietE (v' := .bool true) (by decide) (Q.eqNil sl65 rfl rfl rfl) (by rfl) ?_
  refine VL.nil ?_
  refine VE.seq ?_
  refine VC.condT rfl ?_
  refine VC.seq ?_
  refine VC.region ?_
  refine VL.q (Q.assign rfl) ?_
  refine VL.nil ?_
  refine VE.seq ?_
  refine VC.ret ?_
  refine VE.then_ret ?_
  exact VE.ret rfl (.tmp rfl .nil) (none, 0) (Nat.le_refl _) rfl zB
 ·
  refine VC.seq ?_
  refine VC.seq ?_
  refine VC.region ?_
  refine VL.q (Q.move rfl) ?_
  refine VL.quietE (v' := .bool false) (by decide) (Q.eqNil sl65 rfl rfl rfl) (by rfl) ?_
  refine VL.nil ?_
  refine VE.seq ?_
  refine VC.condF rfl ?_
  refine VC.skip ?_
  refine VE.seq ?_
  refine VC.seq ?_
  refine VC.region ?_
  refine VL.eff (O.buildSlice0 sl65 (by decide) ?_)
  intro g5
  refine VK.toRow (g := g5) (s := 4) (m := 0) (c := 0) zU rfl (by omega) (by unfold maxLen; omega) ?_
  refine VL.q (Q.move rfl) ?_
  refine VL.eff (O.append sl65 ze91 rfl (by decide) rfl rfl hl h1 (by decide) (by unfold maxLen; omega) (by rw [Nat.zero_add]; omega) zA (fun _ ho _ => hro.only0 ho) ?_)
  intro p7 c7 hc7
  rw [Nat.zero_add]
  refine VL.q (Q.assign rfl) ?_
  refine VL.nil ?_
  refine VE.seq ?_
  refine VC.ret ?_
  exact VE.ret rfl (.tmp rfl .nil) (p7, c7) (by simpa using hc7) rfl zB

theorem nodes1_c (gq : Nat) (pr : Option Addr) (n cr : Nat) (z : Int) (hz : 0 ≤ z ∧ z < n) (hn : n ≤ 100) :
  Does Tryz.prog 200 [.int .i64 z, .pointer (some ⟨gq, 0, none⟩)] [] (fun W => W.cell? ⟨gq, 0, none⟩ = some (.slice pr n cr)) (X := Unit) (fun _ => True) (fun _ => .bool false) (fun _ => []) := by
 refine Does.enter Tryz.func200 rfl (m := 11) rfl (by simp) ?_
 intro W0 hro
 refine VC.seq ?_
 refine VC.region ?_
 refine VL.q (Q.assign rfl) ?_
 refine VL.nil ?_
 refine VE.seq ?_
 refine VC.seq ?_
 refine VC.region ?_
 refine VL.q (Q.move rfl) ?_
 refine VL.q (Q.fieldAddr fa68_0 rfl) ?_
 refine VL.q (Q.load0 (v := .slice pr n cr) ty65 rfl hro (by simp)) ?_
 refine VL.q (Q.len sl65 rfl) ?_
 refine VL.q ((by first | exact Q.subI rfl rfl (by omega) (by omega) | exact Q.sub rfl rfl)) ?_
 refine VL.eff (O.call0 ok60 rfl rfl (by decide) (within_c _ _ _ (by omega)) (fun _ _ _ => trivial) ?_)
 intro x9 y9
 refine VL.quietE (v' := .bool false) (by decide) (Q.not rfl) (by rfl) ?_
 refine VL.q (Q.assign rfl) ?_
 refine VL.nil ?_
 refine VE.seq ?_
 refine VC.ret ?_
 refine VE.ret rfl (.tmp rfl .nil) () ?_ ?_ (List.nil_sublist _)
 ·
  trivial
 ·
  first | rfl | (exfalso; simp at *; omega)

theorem nodes_c (pr : Option Addr) (cr : Nat) (rs : List Ra) (ps : Option Addr) (cs : Nat) (sh : List Row) (hw : AirOk rs (sdOf sh)) (p : Option Addr) (n c : Nat) (l : List Int) (hl : l.length = n) (hn : n ≤ 100) (hz : ∀ z ∈ l, 0 ≤ z ∧ z < (rs.length : Int)) :
  Does Tryz.prog 150 [.agg #[.slice pr rs.length cr, .slice ps sh.length cs], .slice p n c] [] (fun W => Rd W p (l.flatMap intC)) (X := Unit) (fun _ => True) (fun _ => .bool true) (fun _ => []) := by
 have hn0 := hw.n0
 have hn9 := hw.n9
 refine Does.enter Tryz.func150 rfl (m := 9) rfl (by simp) ?_
 intro W0 hro
 refine VC.seq ?_
 refine VC.region ?_
 refine VL.eff (O.box rfl rfl (by decide) ?_)
 intro g2
 refine VL.q (Q.assign rfl) ?_
 refine VL.nil ?_
 refine VE.seq ?_
 refine VC.seq ?_
 refine VC.region ?_
 refine VL.q (Q.move rfl) ?_
 refine VL.q (Q.makeFunc rfl rfl) ?_
 refine VL.eff (O.call0 ok55 rfl rfl (by decide) (has_int p n c l hl (by omega) 200 ok200 [.pointer (some ⟨g2, 0, none⟩)] (fun _ => false) (fun W => W.cell? ⟨g2, 0, none⟩ = some (.slice pr rs.length cr)) (fun _ _ h ho => only_cell ho h (by simp)) (fun q hq => nodes1_c g2 pr rs.length cr q (hz q hq) (by omega))) (fun _ ho hW => ⟨hro.only0 ho, by rw [own_cell hW zM]; rfl⟩) ?_)
 intro x7 y7
 rw [any_no fun _ _ => rfl]
 refine VL.quietE (v' := .bool true) (by decide) (Q.not rfl) (by rfl) ?_
 refine VL.q (Q.assign rfl) ?_
 refine VL.nil ?_
 refine VE.seq ?_
 refine VC.ret ?_
 refine VE.ret rfl (.tmp rfl .nil) () ?_ ?_ (List.nil_sublist _)
 ·
  trivial
 ·
  first | rfl | (exfalso; simp at *; omega)

theorem rasked_c (pr : Option Addr) (cr : Nat) (rs : List Ra) (ps : Option Addr) (cs : Nat) (sh : List Row) (hw : AirOk rs (sdOf sh)) (p : Option Addr) (n c : Nat) (l : List Int) (hl : l.length = n) (hn : n ≤ 100) (hz : ∀ z ∈ l, 0 ≤ z ∧ z < (rs.length : Int)) :
  Does Tryz.prog 68 [.agg #[.slice pr rs.length cr, .slice ps sh.length cs], .slice p n c] [] (fun W => RdW W pr rs ps sh ∧ Rd W p (l.flatMap intC)) (X := Unit) (fun _ => True) (fun _ => .int .i64 0) (fun _ => []) := by
 refine Does.enter Tryz.func68 rfl (m := 15) rfl (by simp) ?_
 intro W0 hro
 refine VC.seq ?_
 refine VC.region ?_
 refine VL.eff (O.box rfl rfl (by decide) ?_)
 intro g2
 refine VL.q (Q.assign rfl) ?_
 refine VL.nil ?_
 refine VE.seq ?_
 refine VC.seq ?_
 refine VC.seq ?_
 refine VC.region ?_
 refine VL.q (Q.loadA ty68 rfl zM zS) ?_
 refine VL.eff (O.call0 ok17 rfl rfl (by decide) (rcheck_c pr cr rs ps cs sh hw) (fun _ ho _ => hro.1.only0 ho) ?_)
 intro x7 y7
 refine VL.q (Q.assign rfl) ?_
 refine VL.nil ?_
 refine VE.seq ?_
 refine VC.seq ?_
 refine VC.region ?_
 refine VL.q (Q.move rfl) ?_
 refine VL.quietE (v' := .bool false) (by decide) (Q.ne rfl rfl) (by rfl) ?_
 refine VL.nil ?_
 refine VE.seq ?_
 refine VC.condF rfl ?_
 refine VC.skip ?_
 refine VE.seq ?_
 refine VC.seq ?_
 refine VC.seq ?_
 refine VC.region ?_
 refine VL.q (Q.loadA ty68 rfl zM zS) ?_
 refine VL.q (Q.move rfl) ?_
 refine VL.eff (O.call0 ok150 rfl rfl (by decide) (nodes_c pr cr rs ps cs sh hw p n c l hl hn hz) (fun _ ho _ => hro.2.only0 ho) ?_)
 intro x13 y13
 refine VL.quietE (v' := .bool false) (by decide) (Q.not rfl) (by rfl) ?_
 refine VL.nil ?_
 refine VE.seq ?_
 refine VC.condF rfl ?_
 refine VC.skip ?_
 refine VE.seq ?_
 refine VC.seq ?_
 refine VC.region ?_
 refine VL.q (Q.assign rfl) ?_
 refine VL.nil ?_
 refine VE.seq ?_
 refine VC.ret ?_
 refine VE.ret rfl (.tmp rfl .nil) () ?_ ?_ (List.nil_sublist _)
 ·
  trivial
 ·
  first | rfl | (exfalso; simp at *; omega)

theorem search_c (n : Nat) (hn : n ≤ 1000000) (fk : FuncId) (hok : okFunc Tryz.prog fk = true) (capt : List Value) (pr : Nat → Bool) (RO1 : World → Prop) (hst : ∀ W W', RO1 W → Only [] W W' → RO1 W') (hc : ∀ q, q < n → Does Tryz.prog fk ([.int .i64 (q : Int)] ++ capt) [] RO1 (X := Unit) (fun _ => True) (fun _ => .bool (pr q)) (fun _ => [])) :
  Does Tryz.prog 87 [.int .i64 (n : Int), .func (.func fk) #[] capt.toArray] [] (RO1) (X := Unit) (fun _ => True) (fun _ => .int .i64 (bsr pr n 0 n : Int)) (fun _ => []) := by
 refine Does.enter Tryz.func87 rfl (m := 26) rfl (by simp) ?_
 intro W0 hro
 refine VC.seq ?_
 refine VC.region ?_
 refine VL.q (Q.assign rfl) ?_
 refine VL.nil ?_
 refine VE.seq ?_
 refine VC.seq ?_
 refine VC.region ?_
 refine VL.q (Q.move rfl) ?_
 refine VL.q (Q.assign rfl) ?_
 refine VL.q (Q.assign rfl) ?_
 refine VL.nil ?_
 refine VE.seq ?_
 refine VC.seq ?_
 refine VC.block ?_
 refine VC.loop (X := Nat × Nat) (fun x => [(1, .func (.func fk) #[] capt.toArray), (5, .int .i64 (x.1 : Int)), (6, .int .i64 (x.2 : Int))]) (fun x => []) (fun x => Half pr n x) (fun x => x.2 - x.1) (0, n) Half.start ?_ ?_
 ·
  exact VS.mk zE (List.Sublist.refl _)
 ·
  rintro ⟨i, j⟩ hx
  have hxle := hx.le
  have hxln := hx.len
  dsimp only at hxle hxln
  refine VC.seq ?_
  refine VC.seq ?_
  refine VC.region ?_
  refine VL.q (Q.move rfl) ?_
  refine VL.q (Q.move rfl) ?_
  refine VL.q (Q.lt rfl rfl) ?_
  refine VL.nil ?_
  refine VE.seq ?_
  refine VC.cond rfl ?_ ?_
  ·
   intro h11
   have hlt : i < j := by have := of_decide_eq_true h11; omega
   obtain ⟨m, hmd⟩ : ∃ m, m = (i + j) / 2 := ⟨_, rfl⟩
   refine VC.skip ?_
   refine VE.seq ?_
   refine VC.block ?_
   refine VC.seq ?_
   refine VC.region ?_
   refine VL.q (Q.move rfl) ?_
   refine VL.q (Q.move rfl) ?_
   refine VL.q ((by first | exact Q.addI rfl rfl (by omega) (by omega) | exact Q.add rfl rfl)) ?_
   refine VL.q ((by first | exact Q.convF ti3 ti191 rfl (by simp only [klo]; omega) (by simp only [khi]; omega) | exact Q.convM (M := 18446744073709551616) ti3 ti191 rfl rfl rfl | exact Q.conv ti3 ti191 rfl)) ?_
   refine VL.quietE (v' := .int .u64 (m : Int)) (by decide) (Q.shrC (s := 1) (m := 2) rfl rfl (by decide) (by decide)) (congrArg (Value.int .u64) (by omega)) ?_
   refine VL.quietE (v' := .int .i64 (m : Int)) (by decide) ((by first | exact Q.convF ti191 ti3 rfl (by simp only [klo]; omega) (by simp only [khi]; omega) | exact Q.convM (M := 0) ti191 ti3 rfl rfl rfl | exact Q.conv ti191 ti3 rfl)) (by rfl) ?_
   refine VL.q (Q.assign rfl) ?_
   refine VL.nil ?_
   refine VE.seq ?_
   refine VC.seq ?_
   refine VC.region ?_
   refine VL.q (Q.move rfl) ?_
   refine VL.q (Q.move rfl) ?_
   refine VL.eff (O.callV (first := []) hok rfl rfl (by decide) (hc m (by omega)) (fun _ ho _ => hst _ _ hro ho) ?_)
   intro x20 y20
   refine VL.q (Q.not rfl) ?_
   refine VL.nil ?_
   refine VE.seq ?_
   refine VC.cond rfl ?_ ?_
   ·
    intro h21
    refine VC.region ?_
    refine VL.q (Q.move rfl) ?_
    refine VL.q ((by first | exact Q.addI rfl rfl (by omega) (by omega) | exact Q.add rfl rfl)) ?_
    refine VL.q (Q.assign rfl) ?_
    refine VL.nil ?_
    refine VE.block_normal ?_
    refine VE.then_normal ?_
    exact VE.round (m + 1, j) (hx.up hlt hmd (by simpa using h21)) (by dsimp only; omega) zE (List.Sublist.refl _)
   ·
    intro h21
    refine VC.region ?_
    refine VL.q (Q.move rfl) ?_
    refine VL.q (Q.assign rfl) ?_
    refine VL.nil ?_
    refine VE.block_normal ?_
    refine VE.then_normal ?_
    exact VE.round (i, m) (hx.down hlt hmd (by simpa using h21)) (by dsimp only; omega) zE (List.Sublist.refl _)
  ·
   intro h11
   have hge : ¬ i < j := by have := of_decide_eq_false h11; omega
   refine VC.exit ?_
   refine VE.then_exit ?_
   refine VE.then_exit ?_
   refine VE.block_here ?_
   refine VE.seq ?_
   refine VC.seq ?_
   refine VC.region ?_
   refine VL.q (Q.move rfl) ?_
   refine VL.q (Q.assign rfl) ?_
   refine VL.nil ?_
   refine VE.seq ?_
   refine VC.ret ?_
   exact VE.ret rfl (.tmp rfl .nil) () trivial (by rw [hx.done hge]; rfl) (List.nil_sublist _)

theorem root1_c (gq : Nat) (sv : Int) (d : Nat) (hd : d < 30000) :
  Does Tryz.prog 218 [.int .i64 (d : Int), .pointer (some ⟨gq, 0, none⟩)] [] (fun W => W.cell? ⟨gq, 0, none⟩ = some (.int .i64 sv)) (X := Unit) (fun _ => True) (fun _ => .bool (decide (sv < ((d : Int) + 1) * ((d : Int) + 1)))) (fun _ => []) := by
 have hu := up_bd d hd
 refine Does.enter Tryz.func218 rfl (m := 11) rfl (by simp) ?_
 intro W0 hro
 refine VC.seq ?_
 refine VC.region ?_
 refine VL.q (Q.assign rfl) ?_
 refine VL.nil ?_
 refine VE.seq ?_
 refine VC.seq ?_
 refine VC.region ?_
 refine VL.q (Q.move rfl) ?_
 refine VL.q ((by first | exact Q.addI rfl rfl (by omega) (by omega) | exact Q.add rfl rfl)) ?_
 refine VL.q (Q.move rfl) ?_
 refine VL.q ((by first | exact Q.addI rfl rfl (by omega) (by omega) | exact Q.add rfl rfl)) ?_
 refine VL.q ((by first | exact Q.mulI rfl rfl (by omega) (by omega) | exact Q.mul rfl rfl)) ?_
 refine VL.q (Q.load0 (v := .int .i64 sv) ty3 rfl hro (by simp)) ?_
 refine VL.q (Q.gt rfl rfl) ?_
 refine VL.q (Q.assign rfl) ?_
 refine VL.nil ?_
 refine VE.seq ?_
 refine VC.ret ?_
 refine VE.ret rfl (.tmp rfl .nil) () ?_ ?_ (List.nil_sublist _)
 ·
  trivial
 ·
  first | rfl | (exfalso; simp at *; omega)

theorem root_c (sv : Int) :
  Does Tryz.prog 201 [.int .i64 sv] [] (fun _ => True) (X := Unit) (fun _ => True) (fun _ => .int .i64 (rootN sv : Int)) (fun _ => []) := by
 refine Does.enter Tryz.func201 rfl (m := 5) rfl (by simp) ?_
 intro W0 hro
 refine VC.seq ?_
 refine VC.region ?_
 refine VL.eff (O.box rfl rfl (by decide) ?_)
 intro g1
 refine VL.q (Q.assign rfl) ?_
 refine VL.nil ?_
 refine VE.seq ?_
 refine VC.seq ?_
 refine VC.region ?_
 refine VL.q (Q.makeFunc rfl rfl) ?_
 refine VL.eff (O.call0 ok87 rfl rfl (by decide) (search_c 30000 (by decide) 218 ok218 [.pointer (some ⟨g1, 0, none⟩)] (fun d => decide (sv < ((d : Int) + 1) * ((d : Int) + 1))) (fun W => W.cell? ⟨g1, 0, none⟩ = some (.int .i64 sv)) (fun _ _ h ho => only_cell ho h (by simp)) (fun q hq => root1_c g1 sv q hq)) (fun _ _ hW => by rw [own_cell hW zM]; rfl) ?_)
 intro x4 y4
 refine VL.q (Q.assign rfl) ?_
 refine VL.nil ?_
 refine VE.seq ?_
 refine VC.ret ?_
 refine VE.ret rfl (.tmp rfl .nil) () ?_ ?_ (List.nil_sublist _)
 ·
  trivial
 ·
  first | rfl | (exfalso; simp at *; omega)

theorem distance_c (x1 y1 x2 y2 : Int) (h1 : -10000 ≤ x1 ∧ x1 ≤ 10000) (h2 : -10000 ≤ y1 ∧ y1 ≤ 10000) (h3 : -10000 ≤ x2 ∧ x2 ≤ 10000) (h4 : -10000 ≤ y2 ∧ y2 ≤ 10000) :
  Does Tryz.prog 151 [.int .i64 x1, .int .i64 y1, .int .i64 x2, .int .i64 y2] [] (fun _ => True) (X := Unit) (fun _ => True) (fun _ => .tuple #[.int .i64 (distN x1 y1 x2 y2 : Int), .int .i64 0]) (fun _ => []) := by
 have q1 := sq_bd (x1 - x2) (by omega)
 have q2 := sq_bd (y1 - y2) (by omega)
 refine Does.enter Tryz.func151 rfl (m := 42) rfl (by simp) ?_
 intro W0 hro
 refine VC.seq ?_
 refine VC.region ?_
 refine VL.q (Q.assign rfl) ?_
 refine VL.q (Q.assign rfl) ?_
 refine VL.nil ?_
 refine VE.seq ?_
 refine VC.seq ?_
 refine VC.seq ?_
 refine VC.region ?_
 refine VL.q (Q.move rfl) ?_
 refine VL.q (Q.move rfl) ?_
 refine VL.q (Q.move rfl) ?_
 refine VL.q (Q.move rfl) ?_
 refine VL.eff (O.buildSlice sl78 ze3 (by decide) zF (by decide) ?_)
 intro g16
 refine VL.q (Q.len sl78 rfl) ?_
 refine VL.q (Q.move rfl) ?_
 refine VL.nil ?_
 refine VE.seq ?_
 refine VC.block ?_
 refine VC.rounds 6 ?_
 refine VC.rnd (m := 5) ?_
 refine VC.seq ?_
 refine VC.region ?_
 refine VL.q (Q.lt rfl rfl) ?_
 refine VL.nil ?_
 refine VE.seq ?_
 refine VC.seq ?_
 refine VC.condT rfl ?_
 refine VC.skip ?_
 refine VE.seq ?_
 refine VC.seq ?_
 refine VC.block ?_
 refine VC.seq ?_
 refine VC.region ?_
 refine VL.q (Q.indexAddr sl78 (j := 0) rfl rfl rfl (by omega)) ?_
 refine VL.q (Q.load1 ty3 rfl zM rfl) ?_
 refine VL.q (Q.assign rfl) ?_
 refine VL.nil ?_
 refine VE.seq ?_
 refine VC.seq ?_
 refine VC.region ?_
 refine VL.q (Q.move rfl) ?_
 refine VL.eff (O.call0 ok60 rfl rfl (by decide) (within_c _ _ _ h1) (fun _ _ _ => trivial) ?_)
 intro x23 y23
 refine VL.quietE (v' := .bool false) (by decide) (Q.not rfl) (by rfl) ?_
 refine VL.nil ?_
 refine VE.seq ?_
 refine VC.condF rfl ?_
 refine VC.skip ?_
 refine VE.block_normal ?_
 refine VE.seq ?_
 refine VC.region ?_
 refine VL.quietE (v' := .int .i64 1) (by decide) ((by first | exact Q.addI rfl rfl (by omega) (by omega) | exact Q.add rfl rfl)) (by rfl) ?_
 refine VL.q (Q.move rfl) ?_
 refine VL.nil ?_
 refine VE.then_normal ?_
 refine VC.rnd (m := 4) ?_
 refine VC.seq ?_
 refine VC.region ?_
 refine VL.q (Q.lt rfl rfl) ?_
 refine VL.nil ?_
 refine VE.seq ?_
 refine VC.seq ?_
 refine VC.condT rfl ?_
 refine VC.skip ?_
 refine VE.seq ?_
 refine VC.seq ?_
 refine VC.block ?_
 refine VC.seq ?_
 refine VC.region ?_
 refine VL.q (Q.indexAddr sl78 (j := 1) rfl rfl rfl (by omega)) ?_
 refine VL.q (Q.load1 ty3 rfl zM rfl) ?_
 refine VL.q (Q.assign rfl) ?_
 refine VL.nil ?_
 refine VE.seq ?_
 refine VC.seq ?_
 refine VC.region ?_
 refine VL.q (Q.move rfl) ?_
 refine VL.eff (O.call0 ok60 rfl rfl (by decide) (within_c _ _ _ h2) (fun _ _ _ => trivial) ?_)
 intro x23_1 y23_1
 refine VL.quietE (v' := .bool false) (by decide) (Q.not rfl) (by rfl) ?_
 refine VL.nil ?_
 refine VE.seq ?_
 refine VC.condF rfl ?_
 refine VC.skip ?_
 refine VE.block_normal ?_
 refine VE.seq ?_
 refine VC.region ?_
 refine VL.quietE (v' := .int .i64 2) (by decide) ((by first | exact Q.addI rfl rfl (by omega) (by omega) | exact Q.add rfl rfl)) (by rfl) ?_
 refine VL.q (Q.move rfl) ?_
 refine VL.nil ?_
 refine VE.then_normal ?_
 refine VC.rnd (m := 3) ?_
 refine VC.seq ?_
 refine VC.region ?_
 refine VL.q (Q.lt rfl rfl) ?_
 refine VL.nil ?_
 refine VE.seq ?_
 refine VC.seq ?_
 refine VC.condT rfl ?_
 refine VC.skip ?_
 refine VE.seq ?_
 refine VC.seq ?_
 refine VC.block ?_
 refine VC.seq ?_
 refine VC.region ?_
 refine VL.q (Q.indexAddr sl78 (j := 2) rfl rfl rfl (by omega)) ?_
 refine VL.q (Q.load1 ty3 rfl zM rfl) ?_
 refine VL.q (Q.assign rfl) ?_
 refine VL.nil ?_
 refine VE.seq ?_
 refine VC.seq ?_
 refine VC.region ?_
 refine VL.q (Q.move rfl) ?_
 refine VL.eff (O.call0 ok60 rfl rfl (by decide) (within_c _ _ _ h3) (fun _ _ _ => trivial) ?_)
 intro x23_2 y23_2
 refine VL.quietE (v' := .bool false) (by decide) (Q.not rfl) (by rfl) ?_
 refine VL.nil ?_
 refine VE.seq ?_
 refine VC.condF rfl ?_
 refine VC.skip ?_
 refine VE.block_normal ?_
 refine VE.seq ?_
 refine VC.region ?_
 refine VL.quietE (v' := .int .i64 3) (by decide) ((by first | exact Q.addI rfl rfl (by omega) (by omega) | exact Q.add rfl rfl)) (by rfl) ?_
 refine VL.q (Q.move rfl) ?_
 refine VL.nil ?_
 refine VE.then_normal ?_
 refine VC.rnd (m := 2) ?_
 refine VC.seq ?_
 refine VC.region ?_
 refine VL.q (Q.lt rfl rfl) ?_
 refine VL.nil ?_
 refine VE.seq ?_
 refine VC.seq ?_
 refine VC.condT rfl ?_
 refine VC.skip ?_
 refine VE.seq ?_
 refine VC.seq ?_
 refine VC.block ?_
 refine VC.seq ?_
 refine VC.region ?_
 refine VL.q (Q.indexAddr sl78 (j := 3) rfl rfl rfl (by omega)) ?_
 refine VL.q (Q.load1 ty3 rfl zM rfl) ?_
 refine VL.q (Q.assign rfl) ?_
 refine VL.nil ?_
 refine VE.seq ?_
 refine VC.seq ?_
 refine VC.region ?_
 refine VL.q (Q.move rfl) ?_
 refine VL.eff (O.call0 ok60 rfl rfl (by decide) (within_c _ _ _ h4) (fun _ _ _ => trivial) ?_)
 intro x23_3 y23_3
 refine VL.quietE (v' := .bool false) (by decide) (Q.not rfl) (by rfl) ?_
 refine VL.nil ?_
 refine VE.seq ?_
 refine VC.condF rfl ?_
 refine VC.skip ?_
 refine VE.block_normal ?_
 refine VE.seq ?_
 refine VC.region ?_
 refine VL.quietE (v' := .int .i64 4) (by decide) ((by first | exact Q.addI rfl rfl (by omega) (by omega) | exact Q.add rfl rfl)) (by rfl) ?_
 refine VL.q (Q.move rfl) ?_
 refine VL.nil ?_
 refine VE.then_normal ?_
 refine VC.rnd (m := 1) ?_
 refine VC.seq ?_
 refine VC.region ?_
 refine VL.q (Q.lt rfl rfl) ?_
 refine VL.nil ?_
 refine VE.seq ?_
 refine VC.seq ?_
 refine VC.condF rfl ?_
 refine VC.exit ?_
 refine VE.then_exit ?_
 refine VE.then_exit ?_
 refine VE.block_here ?_
 refine VE.seq ?_
 refine VC.seq ?_
 refine VC.region ?_
 refine VL.q (Q.move rfl) ?_
 refine VL.q (Q.move rfl) ?_
 refine VL.q ((by first | exact Q.subI rfl rfl (by omega) (by omega) | exact Q.sub rfl rfl)) ?_
 refine VL.q (Q.move rfl) ?_
 refine VL.q (Q.move rfl) ?_
 refine VL.q ((by first | exact Q.subI rfl rfl (by omega) (by omega) | exact Q.sub rfl rfl)) ?_
 refine VL.q ((by first | exact Q.mulI rfl rfl (by omega) (by omega) | exact Q.mul rfl rfl)) ?_
 refine VL.q (Q.move rfl) ?_
 refine VL.q (Q.move rfl) ?_
 refine VL.q ((by first | exact Q.subI rfl rfl (by omega) (by omega) | exact Q.sub rfl rfl)) ?_
 refine VL.q (Q.move rfl) ?_
 refine VL.q (Q.move rfl) ?_
 refine VL.q ((by first | exact Q.subI rfl rfl (by omega) (by omega) | exact Q.sub rfl rfl)) ?_
 refine VL.q ((by first | exact Q.mulI rfl rfl (by omega) (by omega) | exact Q.mul rfl rfl)) ?_
 refine VL.q ((by first | exact Q.addI rfl rfl (by omega) (by omega) | exact Q.add rfl rfl)) ?_
 refine VL.eff (O.call0 ok201 rfl rfl (by decide) (root_c _) (fun _ _ _ => trivial) ?_)
 intro x41 y41
 refine VL.q (Q.assign rfl) ?_
 refine VL.q (Q.assign rfl) ?_
 refine VL.nil ?_
 refine VE.seq ?_
 refine VC.ret ?_
 refine VE.ret rfl (.tmp rfl (.tmp rfl .nil)) () ?_ ?_ (List.nil_sublist _)
 ·
  trivial
 ·
  first | rfl | (exfalso; simp at *; omega)

theorem loss_c (d : Int) (hd : 0 ≤ d ∧ d ≤ 30000) :
  Does Tryz.prog 152 [.int .i64 d] [] (fun _ => True) (X := Unit) (fun _ => True) (fun _ => .tuple #[.int .i64 (lossOf d), .int .i64 0]) (fun _ => []) := by
 have hp := pow_bd _ (eOf_bd d hd)
 have p1 := hp.e1
 have p2 := hp.e2
 have p3 := hp.e3
 have p4 := hp.e4
 have p5 := bitLen_bd _ p4.1 (by omega)
 refine Does.enter Tryz.func152 rfl (m := 22) rfl (by simp) ?_
 intro W0 hro
 refine VC.seq ?_
 refine VC.region ?_
 refine VL.q (Q.assign rfl) ?_
 refine VL.q (Q.assign rfl) ?_
 refine VL.nil ?_
 refine VE.seq ?_
 refine VC.seq ?_
 refine VC.seq ?_
 refine VC.region ?_
 refine VL.q (Q.move rfl) ?_
 refine VL.eff (O.call0 ok60 rfl rfl (by decide) (within_c _ _ _ hd) (fun _ _ _ => trivial) ?_)
 intro x6 y6
 refine VL.quietE (v' := .bool false) (by decide) (Q.not rfl) (by rfl) ?_
 refine VL.nil ?_
 refine VE.seq ?_
 refine VC.condF rfl ?_
 refine VC.skip ?_
 refine VE.seq ?_
 refine VC.seq ?_
 refine VC.region ?_
 refine VL.q (Q.move rfl) ?_
 refine VL.quietE (v' := .int .i64 (eOf d)) (by decide) (Q.max2 rfl rfl) (by rfl) ?_
 refine VL.quietE (v' := .int .u64 (eOf d)) (by decide) ((by first | exact Q.convF ti3 ti108 rfl (by simp only [klo]; omega) (by simp only [khi]; omega) | exact Q.convM (M := 18446744073709551616) ti3 ti108 rfl rfl rfl | exact Q.conv ti3 ti108 rfl)) (by rfl) ?_
 refine VL.q (Q.assign rfl) ?_
 refine VL.nil ?_
 refine VE.seq ?_
 refine VC.seq ?_
 refine VC.region ?_
 refine VL.q (Q.move rfl) ?_
 refine VL.q (Q.move rfl) ?_
 refine VL.quietE (v' := .int .u64 (eOf d * eOf d)) (by decide) (Q.mul rfl rfl) (congrArg (Value.int .u64) (wrap_fit (by simp only [klo]; omega) (by simp only [khi]; omega))) ?_
 refine VL.q (Q.move rfl) ?_
 refine VL.quietE (v' := .int .u64 (eOf d * eOf d * eOf d)) (by decide) (Q.mul rfl rfl) (congrArg (Value.int .u64) (wrap_fit (by simp only [klo]; omega) (by simp only [khi]; omega))) ?_
 refine VL.q (Q.move rfl) ?_
 refine VL.quietE (v' := .int .u64 (eOf d * eOf d * eOf d * eOf d)) (by decide) (Q.mul rfl rfl) (congrArg (Value.int .u64) (wrap_fit (by simp only [klo]; omega) (by simp only [khi]; omega))) ?_
 refine VL.eff (O.call0 ok202 rfl rfl (by decide) (len64_c _ p4.1 (by omega)) (fun _ _ _ => trivial) ?_)
 intro x18 y18
 refine VL.q ((by first | exact Q.subI rfl rfl (by omega) (by omega) | exact Q.sub rfl rfl)) ?_
 refine VL.q ((by first | exact Q.mulI rfl rfl (by omega) (by omega) | exact Q.mul rfl rfl)) ?_
 refine VL.q ((by first | exact Q.addI rfl rfl (by omega) (by omega) | exact Q.add rfl rfl)) ?_
 refine VL.q (Q.assign rfl) ?_
 refine VL.q (Q.assign rfl) ?_
 refine VL.nil ?_
 refine VE.seq ?_
 refine VC.ret ?_
 refine VE.ret rfl (.tmp rfl (.tmp rfl .nil)) () ?_ ?_ (List.nil_sublist _)
 ·
  trivial
 ·
  first | rfl | (exfalso; simp at *; omega)

theorem level_c (pr : Option Addr) (cr : Nat) (rs : List Ra) (ps : Option Addr) (cs : Nat) (sh : List Row) (hw : AirOk rs (sdOf sh)) (i j : Nat) (hi : i < rs.length) (hj : j < rs.length) :
  Does Tryz.prog 69 [.agg #[.slice pr rs.length cr, .slice ps sh.length cs], .int .i64 (i : Int), .int .i64 (j : Int)] [] (fun W => RdW W pr rs ps sh) (X := Unit) (fun _ => True) (fun _ => .int .i64 (lev rs (sdOf sh) i j)) (fun _ => []) := by
 have hn0 := hw.n0
 have hn9 := hw.n9
 have hlen := hw.len'
 have ri := hw.ra _ (List.getElem_mem hi)
 have rj := hw.ra _ (List.getElem_mem hj)
 rw [raAt_get hi] at ri
 rw [raAt_get hj] at rj
 refine Does.enter Tryz.func69 rfl (m := 58) rfl (by simp) ?_
 intro W0 hro
 obtain ⟨b0, o0, rfl⟩ := hro.1.pos (by rw [fm_length raC_len]; have := hw.n0; omega)
 have hdl : distN (raAt rs i).x (raAt rs i).y (raAt rs j).x (raAt rs j).y ≤ 30000 := rootN_le _
 have hlo := lossOf_bd (distN (raAt rs i).x (raAt rs i).y (raAt rs j).x (raAt rs j).y : Int) (by omega)
 have hsb := shAt_bd hw i j
 have rip := ri.p
 refine VC.seq ?_
 refine VC.region ?_
 refine VL.eff (O.box rfl rfl (by decide) ?_)
 intro g3
 refine VL.q (Q.assign rfl) ?_
 refine VL.nil ?_
 refine VE.seq ?_
 refine VC.seqJ (X := Nat × Nat) (fun z => [(1, .int .i64 (i : Int)), (2, .int .i64 (j : Int)), (3, .pointer (some ⟨g3, 0, none⟩)), (7, .pointer (some ⟨z.1, 0, none⟩)), (8, .pointer (some ⟨z.2, 0, none⟩))]) (fun z => [.blk z.1 [.int .i64 (raAt rs i).x, .int .i64 (raAt rs i).y, .int .i64 (raAt rs i).p, .int .i64 (raAt rs i).c] 91, .blk z.2 [.int .i64 (raAt rs j).x, .int .i64 (raAt rs j).y, .int .i64 (raAt rs j).p, .int .i64 (raAt rs j).c] 91, .blk g3 [.slice (some ⟨b0, o0, none⟩) rs.length cr, .slice ps sh.length cs] 68]) (fun z => True) ?_ ?_
 ·
  refine VA.start (Ls := [.blk g3 [.slice (some ⟨b0, o0, none⟩) rs.length cr, .slice ps sh.length cs] 68]) (Cs := []) mixed ?_
  refine VA.tk 0 rfl (zt ze) (List.singleton_sublist.2 zM) Cells.nil (Quiet.c (Q.fieldAddr fa68_0 rfl)) ?_
  refine VA.tk 1 rfl (zt ze) (List.singleton_sublist.2 zM) Cells.nil (Quiet.c (Q.load1 ty65 rfl zM rfl)) ?_
  refine VA.tk 2 rfl (zt ze) (List.singleton_sublist.2 zM) Cells.nil (Quiet.c (Q.move rfl)) ?_
  refine VA.tk 3 rfl (zt ze) (List.singleton_sublist.2 zM) Cells.nil (Quiet.c (Q.indexAddr sl65 (j := i) rfl rfl rfl hi)) ?_
  refine VA.tk 4 rfl (zt ze) (List.singleton_sublist.2 zM) Cells.nil (Quiet.c (Q.load0A (xs := [.int .i64 (raAt rs i).x, .int .i64 (raAt rs i).y, .int .i64 (raAt rs i).p, .int .i64 (raAt rs i).c]) ty91 rfl (Rd.sg hro.1 (by have := fm_seg raC_len rs i hi; rw [raAt_get hi] at this; exact this)) (by simp))) ?_
  refine VA.tk 5 rfl (zt ze) (List.singleton_sublist.2 zM) Cells.nil (Quiet.c (Q.fieldAddr fa68_0 rfl)) ?_
  refine VA.tk 6 rfl (zt ze) (List.singleton_sublist.2 zM) Cells.nil (Quiet.c (Q.load1 ty65 rfl zM rfl)) ?_
  refine VA.tk 7 rfl (zt ze) (List.singleton_sublist.2 zM) Cells.nil (Quiet.c (Q.move rfl)) ?_
  refine VA.tk 8 rfl (zt ze) (List.singleton_sublist.2 zM) Cells.nil (Quiet.c (Q.indexAddr sl65 (j := j) rfl rfl rfl hj)) ?_
  refine VA.tk 9 rfl (zt ze) (List.singleton_sublist.2 zM) Cells.nil (Quiet.c (Q.load0A (xs := [.int .i64 (raAt rs j).x, .int .i64 (raAt rs j).y, .int .i64 (raAt rs j).p, .int .i64 (raAt rs j).c]) ty91 rfl (Rd.sg hro.1 (by have := fm_seg raC_len rs j hj; rw [raAt_get hj] at this; exact this)) (by simp))) ?_
  refine VA.all (rs := [10, 11]) (by kernel_rfl) (by simp) ?_
  refine VA.forall2 ?_ ?_
  ·
   refine VA.eff rfl ?_
   refine id (O.alloc zo91 (by decide) ?_)
   intro g7
   refine VA.next (List.singleton_sublist.2 zM) Cells.nil ?_
   refine VA.all (rs := [11]) (by kernel_rfl) (by simp) ?_
   refine VA.forall1 ?_
   ·
    refine VA.eff rfl ?_
    refine id (O.alloc zo91 (by decide) ?_)
    intro g8
    refine VA.next (List.singleton_sublist.2 zM) Cells.nil ?_
    refine VA.all (rs := [12]) (by kernel_rfl) (by simp) ?_
    refine VA.forall1 ?_
    ·
     refine VA.eff rfl ?_
     refine id (O.store ty91 rfl rfl rfl rfl zU zP ?_)
     refine VA.next (List.singleton_sublist.2 zM) Cells.nil ?_
     refine VA.all (rs := [13]) (by kernel_rfl) (by simp) ?_
     refine VA.forall1 ?_
     ·
      refine VA.eff rfl ?_
      refine id (O.store ty91 rfl rfl rfl rfl zU zP ?_)
      refine VA.next (List.singleton_sublist.2 zM) Cells.nil ?_
      refine VA.done (by kernel_rfl) ?_
      refine VE.then_normal ?_
      exact VE.meetP (g7, g8) trivial zE zM2
  ·
   refine VA.eff rfl ?_
   refine id (O.alloc zo91 (by decide) ?_)
   intro g8_1
   refine VA.next (List.singleton_sublist.2 zM) Cells.nil ?_
   refine VA.all (rs := [10]) (by kernel_rfl) (by simp) ?_
   refine VA.forall1 ?_
   ·
    refine VA.eff rfl ?_
    refine id (O.alloc zo91 (by decide) ?_)
    intro g7_1
    refine VA.next (List.singleton_sublist.2 zM) Cells.nil ?_
    refine VA.all (rs := [12]) (by kernel_rfl) (by simp) ?_
    refine VA.forall1 ?_
    ·
     refine VA.eff rfl ?_
     refine id (O.store ty91 rfl rfl rfl rfl zU zP ?_)
     refine VA.next (List.singleton_sublist.2 zM) Cells.nil ?_
     refine VA.all (rs := [13]) (by kernel_rfl) (by simp) ?_
     refine VA.forall1 ?_
     ·
      refine VA.eff rfl ?_
      refine id (O.store ty91 rfl rfl rfl rfl zU zP ?_)
      refine VA.next (List.singleton_sublist.2 zM) Cells.nil ?_
      refine VA.done (by kernel_rfl) ?_
      refine VE.then_normal ?_
      exact VE.meetP (g7_1, g8_1) trivial zE zM2
 ·
  intro z _
  obtain ⟨ga, gb⟩ := z
  dsimp only
  refine VC.seq ?_
  refine VC.region ?_
  refine VL.q (Q.fieldAddr fa91_0 rfl) ?_
  refine VL.q (Q.load1 ty3 rfl zM rfl) ?_
  refine VL.q (Q.fieldAddr fa91_1 rfl) ?_
  refine VL.q (Q.load1 ty3 rfl zM rfl) ?_
  refine VL.q (Q.fieldAddr fa91_0 rfl) ?_
  refine VL.q (Q.load1 ty3 rfl zM rfl) ?_
  refine VL.q (Q.fieldAddr fa91_1 rfl) ?_
  refine VL.q (Q.load1 ty3 rfl zM rfl) ?_
  refine VL.eff (O.call0 ok151 rfl rfl (by decide) (distance_c _ _ _ _ ri.x ri.y rj.x rj.y) (fun _ _ _ => trivial) ?_)
  intro x32 y32
  refine VL.q (Q.move rfl) ?_
  refine VL.q (Q.extract rfl rfl) ?_
  refine VL.q (Q.extract rfl rfl) ?_
  refine VL.q (Q.assign rfl) ?_
  refine VL.q (Q.assign rfl) ?_
  refine VL.nil ?_
  refine VE.seq ?_
  refine VC.seq ?_
  refine VC.region ?_
  refine VL.q (Q.move rfl) ?_
  refine VL.eff (O.call0 ok152 rfl rfl (by decide) (loss_c _ (by omega)) (fun _ _ _ => trivial) ?_)
  intro x37 y37
  refine VL.q (Q.move rfl) ?_
  refine VL.q (Q.extract rfl rfl) ?_
  refine VL.q (Q.extract rfl rfl) ?_
  refine VL.q (Q.assign rfl) ?_
  refine VL.q (Q.assign rfl) ?_
  refine VL.nil ?_
  refine VE.seq ?_
  refine VC.seq ?_
  refine VC.seq ?_
  refine VC.region ?_
  refine VL.q (Q.fieldAddr fa68_1 rfl) ?_
  refine VL.q (Q.load1 ty66 rfl zM rfl) ?_
  refine VL.q (Q.len sl66 rfl) ?_
  refine VL.q (Q.gt rfl rfl) ?_
  refine VL.nil ?_
  refine VE.seq ?_
  refine VC.cond rfl ?_ ?_
  ·
   intro h43
   have hs0 : 0 < sh.length := by have := of_decide_eq_true h43; omega
   have hil : i < sh.length := by omega
   have hrl := hw.row' hil
   have hrr := hro.2.2 _ (List.getElem_mem hil)
   obtain ⟨b1, o1, rfl⟩ := hro.2.1.pos (by rw [fm_length rowC_len]; omega)
   obtain ⟨b2, o2, hrp⟩ := hrr.pos (by rw [fm_length intC_len]; omega)
   rw [hrp] at hrr
   refine VC.region ?_
   refine VL.q (Q.move rfl) ?_
   refine VL.q (Q.fieldAddr fa68_1 rfl) ?_
   refine VL.q (Q.load1 ty66 rfl zM rfl) ?_
   refine VL.q (Q.move rfl) ?_
   refine VL.q (Q.indexAddr sl66 (j := i) rfl rfl rfl hil) ?_
   refine VL.q (Q.load0 (v := .slice (some ⟨b2, o2, none⟩) sh[i].d.length sh[i].c) ty78 rfl (Rd.at hro.2.1 (fm_at rowC_len sh i hil _ (by rw [rowC, hrp]))) (by simp)) ?_
   refine VL.q (Q.move rfl) ?_
   refine VL.q (Q.indexAddr sl78 (j := j) rfl rfl rfl (by omega)) ?_
   refine VL.q (Q.load0 (v := .int .i64 (shAt (sdOf sh) i j)) ty3 rfl (Rd.at hrr (fm_at intC_len sh[i].d j (by omega) _ (by rw [shAt_get hil (by omega)]; rfl))) (by simp)) ?_
   refine VL.q ((by first | exact Q.addI rfl rfl (by omega) (by omega) | exact Q.add rfl rfl)) ?_
   refine VL.q (Q.assign rfl) ?_
   refine VL.nil ?_
   refine VE.seq ?_
   refine VC.seq ?_
   refine VK.keep (by exact .cons (i := 7) rfl (.cons (i := 11) rfl ( .nil))) ?_
   refine VC.region ?_
   refine VL.q (Q.fieldAddr fa91_2 rfl) ?_
   refine VL.q (Q.load1 ty3 rfl zM rfl) ?_
   refine VL.q (Q.move rfl) ?_
   refine VL.q ((by first | exact Q.subI rfl rfl (by omega) (by omega) | exact Q.sub rfl rfl)) ?_
   refine VL.q (Q.assign rfl) ?_
   refine VL.nil ?_
   refine VE.seq ?_
   refine VC.ret ?_
   refine VE.ret rfl (.tmp rfl .nil) () ?_ ?_ (List.nil_sublist _)
   ·
    trivial
   ·
    first | rfl | exact congrArg (Value.int .i64) (by unfold lev; simp [shAt])
  ·
   intro h43
   have hs0 : sh = [] := List.eq_nil_of_length_eq_zero (by have := of_decide_eq_false h43; omega)
   subst hs0
   refine VC.skip ?_
   refine VE.seq ?_
   refine VC.seq ?_
   refine VC.region ?_
   refine VL.q (Q.fieldAddr fa91_2 rfl) ?_
   refine VL.q (Q.load1 ty3 rfl zM rfl) ?_
   refine VL.q (Q.move rfl) ?_
   refine VL.q ((by first | exact Q.subI rfl rfl (by omega) (by omega) | exact Q.sub rfl rfl)) ?_
   refine VL.q (Q.assign rfl) ?_
   refine VL.nil ?_
   refine VE.seq ?_
   refine VC.ret ?_
   refine VE.ret rfl (.tmp rfl .nil) () ?_ ?_ (List.nil_sublist _)
   ·
    trivial
   ·
    first | rfl | exact congrArg (Value.int .i64) (by unfold lev; simp [shAt])

theorem Level_c (pr : Option Addr) (cr : Nat) (rs : List Ra) (ps : Option Addr) (cs : Nat) (sh : List Row) (hw : AirOk rs (sdOf sh)) (i j : Nat) (hi : i < rs.length) (hj : j < rs.length) :
  Does Tryz.prog 23 [.agg #[.slice pr rs.length cr, .slice ps sh.length cs], .int .i64 (i : Int), .int .i64 (j : Int)] [] (fun W => RdW W pr rs ps sh) (X := Unit) (fun _ => True) (fun _ => .tuple #[.int .i64 (lev rs (sdOf sh) i j), .int .i64 0]) (fun _ => []) := by
 refine Does.enter Tryz.func23 rfl (m := 21) rfl (by simp) ?_
 intro W0 hro
 refine VC.seq ?_
 refine VC.region ?_
 refine VL.eff (O.box rfl rfl (by decide) ?_)
 intro g3
 refine VL.q (Q.assign rfl) ?_
 refine VL.q (Q.assign rfl) ?_
 refine VL.nil ?_
 refine VE.seq ?_
 refine VC.seq ?_
 refine VC.seq ?_
 refine VC.region ?_
 refine VL.q (Q.loadA ty68 rfl zM zS) ?_
 refine VL.q (Q.move rfl) ?_
 refine VL.q (Q.move rfl) ?_
 refine VL.eff (O.buildSlice sl78 ze3 (by decide) zF (by decide) ?_)
 intro g12
 refine VL.eff (O.call0 ok68 rfl rfl (by decide) (rasked_c pr cr rs ps cs sh hw (some ⟨g12, 0, none⟩) 2 2 [(i : Int), (j : Int)] rfl (by decide) (by intro z hz; simp only [List.mem_cons, List.not_mem_nil, or_false] at hz; rcases hz with rfl | rfl <;> omega)) (fun _ ho hW => ⟨hro.only0 ho, Rd.own hW zM (fun j u hj => by rw [Nat.zero_add]; exact hj)⟩) ?_)
 intro x13 y13
 refine VL.q (Q.assign rfl) ?_
 refine VL.nil ?_
 refine VE.seq ?_
 refine VC.seq ?_
 refine VC.region ?_
 refine VL.q (Q.move rfl) ?_
 refine VL.quietE (v' := .bool false) (by decide) (Q.ne rfl rfl) (by rfl) ?_
 refine VL.nil ?_
 refine VE.seq ?_
 refine VC.condF rfl ?_
 refine VC.skip ?_
 refine VE.seq ?_
 refine VC.seq ?_
 refine VC.region ?_
 refine VL.q (Q.loadA ty68 rfl zM zS) ?_
 refine VL.q (Q.move rfl) ?_
 refine VL.q (Q.move rfl) ?_
 refine VL.eff (O.call0 ok69 rfl rfl (by decide) (level_c pr cr rs ps cs sh hw i j hi hj) (fun _ ho _ => hro.only0 ho) ?_)
 intro x20 y20
 refine VL.q (Q.assign rfl) ?_
 refine VL.q (Q.assign rfl) ?_
 refine VL.nil ?_
 refine VE.seq ?_
 refine VC.ret ?_
 refine VE.ret rfl (.tmp rfl (.tmp rfl .nil)) () ?_ ?_ (List.nil_sublist _)
 ·
  trivial
 ·
  first | rfl | (exfalso; simp at *; omega)

end Go.Proofs.YtencghlmckbmlaaGreat
