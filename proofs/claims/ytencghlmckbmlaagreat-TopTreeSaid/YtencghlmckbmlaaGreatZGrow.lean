/- The contracts of a fresh mesh. Conditions: those that each bears. -/
import Derived.Test.YtencghlmckbmlaaGreatRows
import Derived.Test.YtencghlmckbmlaaGreatZCh
import Derived.Test.YtencghlmckbmlaaGreatRate
namespace Go.Proofs.YtencghlmckbmlaaGreat
open Go Go.RowKit Go.Sx
set_option maxRecDepth 100000

theorem fa28_0 : tyField Tryz.prog 28 0 = some 0 := by kernel_rfl
theorem fa28_1 : tyField Tryz.prog 28 1 = some 1 := by kernel_rfl
theorem fa28_2 : tyField Tryz.prog 28 2 = some 2 := by kernel_rfl
theorem fa28_3 : tyField Tryz.prog 28 3 = some 3 := by kernel_rfl
theorem lay59 : laysOf Tryz.prog 59 = some ([.int .i64 0, .int .i64 0, .int .i64 0, .int .i64 0, .int .i64 0, .int .i64 0, .int .i64 0, .int .i64 0, .int .i64 0, .int .i64 0, .int .i64 0, .int .i64 0, .int .i64 0, .int .i64 0, .int .i64 0, .int .i64 0, .int .i64 0, .int .i64 0, .int .i64 0, .int .i64 0, .int .i64 0, .int .i64 0, .int .i64 0, .int .i64 0, .int .i64 0, .int .i64 0, .int .i64 0, .int .i64 0, .int .i64 0, .int .i64 0, .int .i64 0, .int .i64 0, .int .i64 0, .int .i64 0, .int .i64 0, .int .i64 0, .int .u8 0, .int .u8 0, .int .u8 0, .int .u8 0, .int .u8 0, .int .u8 0, .bool false, .bool false, .int .i64 0, .slice none 0 0, .slice none 0 0, .int .u8 0, .int .u8 0, .int .u8 0, .int .u8 0, .int .u8 0, .int .u8 0, .bool false, .bool false, .int .i64 0, .slice none 0 0, .slice none 0 0, .int .u8 0, .int .u8 0, .int .u8 0, .int .u8 0, .int .u8 0, .int .u8 0, .bool false, .bool false, .int .i64 0, .slice none 0 0, .slice none 0 0, .int .u8 0, .int .u8 0, .int .u8 0, .int .u8 0, .int .u8 0, .int .u8 0, .bool false, .bool false, .int .i64 0, .slice none 0 0, .slice none 0 0, .int .u8 0, .int .u8 0, .int .u8 0, .int .u8 0, .int .u8 0, .int .u8 0, .bool false, .bool false, .int .i64 0, .slice none 0 0, .slice none 0 0, .int .u8 0, .int .u8 0, .int .u8 0, .int .u8 0, .int .u8 0, .int .u8 0, .bool false, .bool false, .int .i64 0, .slice none 0 0, .slice none 0 0, .int .u8 0, .int .u8 0, .int .u8 0, .int .u8 0, .int .u8 0, .int .u8 0, .int .i64 0, .slice none 0 0, .slice none 0 0, .int .u8 0, .int .u8 0, .int .u8 0, .int .u8 0, .int .u8 0, .int .u8 0, .int .i64 0, .slice none 0 0, .slice none 0 0, .int .u8 0, .int .u8 0, .int .u8 0, .int .u8 0, .int .u8 0, .int .u8 0, .int .i64 0, .slice none 0 0, .slice none 0 0, .int .u8 0, .int .u8 0, .int .u8 0, .int .u8 0, .int .u8 0, .int .u8 0, .int .i64 0, .slice none 0 0, .slice none 0 0, .int .u8 0, .int .u8 0, .int .u8 0, .int .u8 0, .int .u8 0, .int .u8 0, .int .i64 0, .slice none 0 0, .slice none 0 0, .int .u8 0, .int .u8 0, .int .u8 0, .int .u8 0, .int .u8 0, .int .u8 0, .int .i64 0, .slice none 0 0, .slice none 0 0, .slice none 0 0, .int .i64 0], [(0, 36), (36, 66), (102, 54), (156, 1), (157, 1)]) := by kernel_rfl
theorem ok100 : okFunc Tryz.prog 100 = true := by kernel_rfl
theorem ok166 : okFunc Tryz.prog 166 = true := by kernel_rfl
theorem ok21 : okFunc Tryz.prog 21 = true := by kernel_rfl
theorem ok34 : okFunc Tryz.prog 34 = true := by kernel_rfl
theorem ok36 : okFunc Tryz.prog 36 = true := by kernel_rfl
theorem ok37 : okFunc Tryz.prog 37 = true := by kernel_rfl
theorem sl22 : tySlice Tryz.prog 22 = some (28, 4, 6) := by kernel_rfl
theorem ti26 : tyInt Tryz.prog 26 = some .u16 := by kernel_rfl
theorem ty26 : tySz Tryz.prog 26 = some (false, 1) := by kernel_rfl

open Go.Mesh
/-- the mesh before anything has happened -/
def Y0 : Lay := ⟨fun _ => (none, 0), fun _ => (none, 0), fun _ => (none, 0), (none, 0), []⟩
def F0 : Fwd := ⟨fun _ => 0, fun _ => [], fun _ _ => none⟩
def costM (c : Nat → Nat → Nat) : Core := ⟨c, fun _ => 0, fun _ _ => none, [], 0⟩
def cost0 : Nat → Nat → Nat := fun _ _ => 0
def R0 : List Rs := [tRow (none, 0) (fun _ => none), sRow (none, 0) [], nRow (none, 0) (fun _ => none)]
def z11 : List Value := [.int .u8 0, .int .u8 0, .int .u8 0, .int .u8 0, .int .u8 0, .int .u8 0, .bool false, .bool false, .int .i64 0, .slice none 0 0, .slice none 0 0]
def z9 : List Value := [.int .u8 0, .int .u8 0, .int .u8 0, .int .u8 0, .int .u8 0, .int .u8 0, .int .i64 0, .slice none 0 0, .slice none 0 0]
def growR (k i : Nat) : List Value := if i < k then rootC (costM cost0) Y0 i else z11
def growF (k i : Nat) : List Value := if i < k then fwdC F0 Y0 i else z9
def growC (a b : Nat) : List Value := (List.range 6).flatMap (costC (costM cost0)) ++ ((List.range 6).flatMap (growR a) ++ ((List.range 6).flatMap (growF b) ++ [mailS Y0, .int .i64 ((0 : Nat) : Int)]))
theorem growR_len (k i : Nat) : (growR k i).length = 11 := by unfold growR; split <;> rfl
theorem growF_len (k i : Nat) : (growF k i).length = 9 := by unfold growF; split <;> rfl
theorem grow_all : growC 6 6 = meshC (costM cost0) F0 Y0 := by
  have e1 : (List.range 6).flatMap (growR 6) = (List.range 6).flatMap (rootC (costM cost0) Y0) := flat_congr fun j hj => by
    have := List.mem_range.1 hj
    unfold growR
    rw [if_pos this]
  have e2 : (List.range 6).flatMap (growF 6) = (List.range 6).flatMap (fwdC F0 Y0) := flat_congr fun j hj => by
    have := List.mem_range.1 hj
    unfold growF
    rw [if_pos this]
  unfold growC meshC
  rw [e1, e2]
  rfl
theorem grow_root {i b : Nat} (hi : i < 6) : Put (growC i b) (36 + i * 11) (rootC (costM cost0) Y0 i) (growC (i + 1) b) := by
  have hp : Put (growR i i) 0 (rootC (costM cost0) Y0 i) (growR (i + 1) i) := put_cells (by unfold growR; rw [if_pos (by omega)]) (growR_len i i)
  have h := put_fn (f := growR i) (f' := growR (i + 1)) (growR_len i) (n := 6) hi (fun j hj => by
    unfold growR
    by_cases h : j < i
    · rw [if_pos h, if_pos (by omega)]
    · rw [if_neg h, if_neg (by omega)]) hp
  unfold growC
  exact put_right (Put.appR h _) (cost36 (costM cost0))
theorem grow_fwd {i a : Nat} (hi : i < 6) : Put (growC a i) (102 + i * 9) (fwdC F0 Y0 i) (growC a (i + 1)) := by
  have hp : Put (growF i i) 0 (fwdC F0 Y0 i) (growF (i + 1) i) := put_cells (by unfold growF; rw [if_pos (by omega)]) (growF_len i i)
  have h := put_fn (f := growF i) (f' := growF (i + 1)) (growF_len i) (n := 6) hi (fun j hj => by
    unfold growF
    by_cases h : j < i
    · rw [if_pos h, if_pos (by omega)]
    · rw [if_neg h, if_neg (by omega)]) hp
  unfold growC
  rw [show 102 + i * 9 = 36 + (66 + (i * 9 + 0)) from by omega]
  exact put_right (put_right (Put.appR h _) (by rw [fm_length (growR_len a)]; rfl)) (cost36 (costM cost0))
/-- what the costs are worth -/
structure CostOk (c : Nat → Nat → Nat) : Prop where
  sym : ∀ i j, c i j = c j i
  diag : ∀ i, c i i = 0
  max : ∀ i j, c i j ≤ CM
theorem CostOk.zero : CostOk cost0 := ⟨fun _ _ => rfl, fun _ => rfl, fun _ _ => Nat.zero_le _⟩
theorem CostOk.both {c : Nat → Nat → Nat} (h : CostOk c) {a b v : Nat} (hab : a ≠ b) (hv : v ≤ CM) : CostOk (upd2 (upd2 c a b v) b a v) where
  sym := fun i j => by
    have := h.sym i j
    unfold upd2
    by_cases h1 : i = b ∧ j = a
    · obtain ⟨rfl, rfl⟩ := h1
      simp [hab]
    · by_cases h2 : i = a ∧ j = b
      · obtain ⟨rfl, rfl⟩ := h2
        simp
      · rw [if_neg h1, if_neg h2, if_neg (fun e => h2 ⟨e.2, e.1⟩), if_neg (fun e => h1 ⟨e.2, e.1⟩)]
        exact this
  diag := fun i => by
    unfold upd2
    rw [if_neg (by omega), if_neg (by omega)]
    exact h.diag i
  max := fun i j => by
    unfold upd2
    split
    · exact hv
    · split
      · exact hv
      · exact h.max i j
theorem grown_inv {c : Nat → Nat → Nat} (h : CostOk c) : Inv 0 (costM c) where
  csym := h.sym
  cdiag := h.diag
  cmax := h.max
  tree := fun _ _ _ _ _ e => by cases e
  mail := fun _ e => by cases e
  spr := fun _ _ _ _ _ e => by cases e
  roots := fun _ _ e => absurd e (Nat.lt_irrefl 0)
  rs := fun _ => Nat.le_refl _
  now := Nat.le_refl _
theorem grown_held (c : Nat → Nat → Nat) : Held (costM c) F0 Y0 R0 where
  tr := fun _ _ => .head _
  sn := fun _ _ => .tail _ (.head _)
  sc := fun _ _ => Nat.le_refl _
  nx := fun _ _ => .tail _ (.tail _ (.head _))
  bd := fun _ e => by cases e
  ml := rfl
theorem grown_fwd (c : Nat → Nat → Nat) : FInv 0 (costM c) F0 := ⟨fun _ => Nat.le_refl _, (fun _ _ _ e => by cases e), fun _ _ => List.nodup_nil, fun _ _ => Nat.le_refl _, (fun _ _ _ _ _ e => by cases e)⟩
/-- a link of the script -/
structure Link where
  a : Nat
  b : Nat
  rate : Nat
  loss : Nat
def linkC (l : Link) : List Value := [.int .u8 (l.a : Int), .int .u8 (l.b : Int), .int .u8 (l.rate : Int), .int .u16 (l.loss : Int)]
theorem linkC_len (l : Link) : (linkC l).length = 4 := rfl
def LinkOk (l : Link) : Prop := l.a < 256 ∧ l.b < 256 ∧ l.rate < 256 ∧ l.loss < 65536
/-- the time of a frame with its answer -/
def totOf (i : Nat) : Int := airOf (i : Int) 1024 + 16 + airOf (respOf (i : Int)) 14
theorem totOf_bd {i : Nat} (h : i < 12) : 1 ≤ totOf i ∧ totOf i ≤ 2000 := by
  have key : ∀ j : Fin 12, 1 ≤ totOf j.val ∧ totOf j.val ≤ 2000 := by decide
  exact key ⟨i, h⟩
theorem cost_bd {t l : Int} (h1 : 1 ≤ t) (h2 : t ≤ 2000) (h3 : 1 ≤ l) (h4 : l ≤ 1000) : 0 ≤ (t * 100 * 1000 + l - 1) / l ∧ (t * 100 * 1000 + l - 1) / l ≤ 1000000000 := by
  refine ⟨Int.ediv_nonneg (by omega) (by omega), ?_⟩
  rw [Int.ediv_le_iff_le_mul (by omega)]
  have : 1000000000 ≤ 1000000000 * l := by omega
  omega

theorem rnew_c (i : Nat) (b c : Bool) (h : c = true → b = true) :
  Does Tryz.prog 34 [.agg #[.int .u8 2, .int .u8 0, .int .u8 0, .int .u8 0, .int .u8 2, .int .u8 (i : Int)], .bool b, .bool c] [] (fun _ => True) (X := Unit) (fun _ => True) (fun _ => .tuple #[.agg #[.int .u8 2, .int .u8 0, .int .u8 0, .int .u8 0, .int .u8 2, .int .u8 (i : Int), .bool b, .bool c, .int .i64 0, .slice none 0 0, .slice none 0 0], .int .i64 0]) (fun _ => []) := by
 refine Does.enter Tryz.func34 rfl (m := 18) rfl (by simp) ?_
 intro W0 hro
 refine VC.seq ?_
 refine VC.region ?_
 refine VL.eff (O.box rfl rfl (by decide) ?_)
 intro g3
 refine VL.eff (O.alloc zo50 (by decide) ?_)
 intro g6
 refine VL.q (Q.assign rfl) ?_
 refine VL.nil ?_
 refine VE.seq ?_
 refine VC.seq ?_
 refine VC.seq ?_
 refine VC.region ?_
 refine VL.q (Q.move rfl) ?_
 refine VL.q (Q.move rfl) ?_
 refine VK.case 9 rfl ?_ ?_
 ·
  intro h9
  have hb := h h9
  refine VL.yes rfl rfl ?_
  refine VL.q (Q.move rfl) ?_
  refine VL.yes rfl rfl ?_
  refine VL.q (Q.not rfl) ?_
  refine VL.q (Q.pick_true rfl rfl) ?_
  refine VL.nil ?_
  refine VE.seq ?_
  refine VC.cond rfl ?_ ?_
  ·
   intro h12
   exfalso
   simp_all
  ·
   intro h12
   refine VC.skip ?_
   refine VE.seq ?_
   refine VC.seq ?_
   refine VC.region ?_
   refine VL.q (Q.loadA ty44 rfl zM zS) ?_
   refine VL.q (Q.move rfl) ?_
   refine VL.q (Q.move rfl) ?_
   refine VL.q (Q.build lay50 zF) ?_
   refine VL.eff (O.store ty50 rfl rfl rfl rfl zU zP ?_)
   refine VL.q (Q.assign rfl) ?_
   refine VL.nil ?_
   refine VE.seq ?_
   refine VC.ret ?_
   refine VE.ret rfl (.cell ty50 rfl zM rfl (.tmp rfl .nil)) () ?_ ?_ (List.nil_sublist _)
   ·
    trivial
   ·
    first | rfl | (exfalso; simp at *; omega)
 ·
  intro h9
  refine VL.no (by simp) rfl rfl (.inl rfl) ?_
  refine VL.no (by simp) rfl rfl (.inl rfl) ?_
  refine VL.quietE (v' := .bool false) (by decide) (Q.pick_false rfl rfl) (by rfl) ?_
  refine VL.nil ?_
  refine VE.seq ?_
  refine VC.condF rfl ?_
  refine VC.skip ?_
  refine VE.seq ?_
  refine VC.seq ?_
  refine VC.region ?_
  refine VL.q (Q.loadA ty44 rfl zM zS) ?_
  refine VL.q (Q.move rfl) ?_
  refine VL.q (Q.move rfl) ?_
  refine VL.q (Q.build lay50 zF) ?_
  refine VL.eff (O.store ty50 rfl rfl rfl rfl zU zP ?_)
  refine VL.q (Q.assign rfl) ?_
  refine VL.nil ?_
  refine VE.seq ?_
  refine VC.ret ?_
  refine VE.ret rfl (.cell ty50 rfl zM rfl (.tmp rfl .nil)) () ?_ ?_ (List.nil_sublist _)
  ·
   trivial
  ·
   first | rfl | (exfalso; simp at *; omega)

theorem fnew_c (i : Nat) :
  Does Tryz.prog 36 [.agg #[.int .u8 2, .int .u8 0, .int .u8 0, .int .u8 0, .int .u8 2, .int .u8 (i : Int)]] [] (fun _ => True) (X := Unit) (fun _ => True) (fun _ => .tuple #[.agg #[.int .u8 2, .int .u8 0, .int .u8 0, .int .u8 0, .int .u8 2, .int .u8 (i : Int), .int .i64 0, .slice none 0 0, .slice none 0 0], .int .i64 0]) (fun _ => []) := by
 refine Does.enter Tryz.func36 rfl (m := 9) rfl (by simp) ?_
 intro W0 hro
 refine VC.seq ?_
 refine VC.region ?_
 refine VL.eff (O.box rfl rfl (by decide) ?_)
 intro g1
 refine VL.eff (O.alloc zo55 (by decide) ?_)
 intro g2
 refine VL.q (Q.assign rfl) ?_
 refine VL.nil ?_
 refine VE.seq ?_
 refine VC.seq ?_
 refine VC.seq ?_
 refine VC.region ?_
 refine VL.q (Q.loadA ty44 rfl zM zS) ?_
 refine VL.eff (O.call0 ok99 rfl rfl (by decide) (fgroup_c i) (fun _ _ _ => trivial) ?_)
 intro x5 y5
 refine VL.nil ?_
 refine VE.seq ?_
 refine VC.condF rfl ?_
 refine VC.skip ?_
 refine VE.seq ?_
 refine VC.seq ?_
 refine VC.region ?_
 refine VL.q (Q.loadA ty44 rfl zM zS) ?_
 refine VL.q (Q.build lay55 zF) ?_
 refine VL.eff (O.store ty55 rfl rfl rfl rfl zU zP ?_)
 refine VL.q (Q.assign rfl) ?_
 refine VL.nil ?_
 refine VE.seq ?_
 refine VC.ret ?_
 refine VE.ret rfl (.cell ty55 rfl zM rfl (.tmp rfl .nil)) () ?_ ?_ (List.nil_sublist _)
 ·
  trivial
 ·
  first | rfl | (exfalso; simp at *; omega)

theorem total_c (i : Nat) (hi : i < 12) :
  Does Tryz.prog 100 [.int .i64 (i : Int), .int .i64 1024] [] (fun _ => True) (X := Unit) (fun _ => True) (fun _ => .tuple #[.int .i64 (totOf i), .int .i64 0]) (fun _ => []) := by
 have h1 := airOf_bd (i : Int) 1024 (by omega) (by omega) (by omega) (by omega)
 have h2 := airOf_bd (respOf (i : Int)) 14 (resp_bd i).1 (by have := (resp_bd i).2; omega) (by omega) (by omega)
 refine Does.enter Tryz.func100 rfl (m := 28) rfl (by simp) ?_
 intro W0 hro
 refine VC.seq ?_
 refine VC.region ?_
 refine VL.q (Q.assign rfl) ?_
 refine VL.q (Q.assign rfl) ?_
 refine VL.nil ?_
 refine VE.seq ?_
 refine VC.seq ?_
 refine VC.region ?_
 refine VL.q (Q.move rfl) ?_
 refine VL.q (Q.move rfl) ?_
 refine VL.eff (O.call0 ok21 rfl rfl (by decide) (air_c (i : Int) 1024 (by omega) (by omega) (by omega) (by omega)) (fun _ _ _ => trivial) ?_)
 intro x12 y12
 refine VL.q (Q.move rfl) ?_
 refine VL.q (Q.extract rfl rfl) ?_
 refine VL.q (Q.extract rfl rfl) ?_
 refine VL.q (Q.assign rfl) ?_
 refine VL.q (Q.assign rfl) ?_
 refine VL.nil ?_
 refine VE.seq ?_
 refine VC.seq ?_
 refine VC.seq ?_
 refine VC.region ?_
 refine VL.q (Q.move rfl) ?_
 refine VL.quietE (v' := .bool false) (by decide) (Q.ne rfl rfl) (by rfl) ?_
 refine VL.nil ?_
 refine VE.seq ?_
 refine VC.condF rfl ?_
 refine VC.skip ?_
 refine VE.seq ?_
 refine VC.seq ?_
 refine VC.region ?_
 refine VL.q (Q.move rfl) ?_
 refine VL.eff (O.call0 ok166 rfl rfl (by decide) (ackAir_c (i : Int) (by omega) (by omega)) (fun _ _ _ => trivial) ?_)
 intro x20 y20
 refine VL.q (Q.move rfl) ?_
 refine VL.q (Q.extract rfl rfl) ?_
 refine VL.q (Q.extract rfl rfl) ?_
 refine VL.q (Q.assign rfl) ?_
 refine VL.q (Q.assign rfl) ?_
 refine VL.nil ?_
 refine VE.seq ?_
 refine VC.seq ?_
 refine VC.region ?_
 refine VL.q (Q.move rfl) ?_
 refine VL.q ((by first | exact Q.addI rfl rfl (by omega) (by omega) | exact Q.add rfl rfl)) ?_
 refine VL.q (Q.move rfl) ?_
 refine VL.q ((by first | exact Q.addI rfl rfl (by omega) (by omega) | exact Q.add rfl rfl)) ?_
 refine VL.q (Q.move rfl) ?_
 refine VL.q (Q.assign rfl) ?_
 refine VL.q (Q.assign rfl) ?_
 refine VL.nil ?_
 refine VE.seq ?_
 refine VC.ret ?_
 refine VE.ret rfl (.tmp rfl (.tmp rfl .nil)) () ?_ ?_ (List.nil_sublist _)
 ·
  trivial
 ·
  first | rfl | (exfalso; simp at *; omega)

theorem cost_c (i l : Nat) (hi : i < 12) (hl : l < 1000) :
  Does Tryz.prog 37 [.int .i64 (i : Int), .int .i64 (l : Int)] [] (fun _ => True) (X := Nat) (fun c => c ≤ CM) (fun c => .tuple #[.int .i64 (c : Int), .int .i64 0]) (fun _ => []) := by
 have hT := totOf_bd hi
 have hB := cost_bd hT.1 hT.2 (show (1 : Int) ≤ 1000 - (l : Int) by omega) (by omega)
 refine Does.enter Tryz.func37 rfl (m := 36) rfl (by simp) ?_
 intro W0 hro
 refine VC.seq ?_
 refine VC.region ?_
 refine VL.q (Q.assign rfl) ?_
 refine VL.q (Q.assign rfl) ?_
 refine VL.nil ?_
 refine VE.seq ?_
 refine VC.seq ?_
 refine VC.region ?_
 refine VL.q (Q.move rfl) ?_
 refine VL.eff (O.call0 ok100 rfl rfl (by decide) (total_c i hi) (fun _ _ _ => trivial) ?_)
 intro x11 y11
 refine VL.q (Q.move rfl) ?_
 refine VL.q (Q.extract rfl rfl) ?_
 refine VL.q (Q.extract rfl rfl) ?_
 refine VL.q (Q.assign rfl) ?_
 refine VL.q (Q.assign rfl) ?_
 refine VL.nil ?_
 refine VE.seq ?_
 refine VC.seq ?_
 refine VC.seq ?_
 refine VC.region ?_
 refine VL.q (Q.move rfl) ?_
 refine VL.quietE (v' := .bool false) (by decide) (Q.ne rfl rfl) (by rfl) ?_
 refine VL.q (Q.move rfl) ?_
 refine VL.yes rfl rfl ?_
 refine VL.q (Q.move rfl) ?_
 refine VL.yes rfl rfl ?_
 refine VL.quietE (v' := .bool false) (by decide) (Q.lt rfl rfl) (congrArg Value.bool (decide_eq_false (by omega))) ?_
 refine VL.quietE (v' := .bool false) (by decide) (Q.pick_false rfl rfl) (by rfl) ?_
 refine VL.q (Q.move rfl) ?_
 refine VL.yes rfl rfl ?_
 refine VL.q (Q.move rfl) ?_
 refine VL.yes rfl rfl ?_
 refine VL.quietE (v' := .bool false) (by decide) (Q.gt rfl rfl) (congrArg Value.bool (decide_eq_false (by omega))) ?_
 refine VL.quietE (v' := .bool false) (by decide) (Q.pick_false rfl rfl) (by rfl) ?_
 refine VL.nil ?_
 refine VE.seq ?_
 refine VC.condF rfl ?_
 refine VC.skip ?_
 refine VE.seq ?_
 refine VC.seq ?_
 refine VC.region ?_
 refine VL.q (Q.move rfl) ?_
 refine VL.q ((by first | exact Q.subI rfl rfl (by omega) (by omega) | exact Q.sub rfl rfl)) ?_
 refine VL.q (Q.assign rfl) ?_
 refine VL.nil ?_
 refine VE.seq ?_
 refine VC.seq ?_
 refine VC.seq ?_
 refine VC.region ?_
 refine VL.q (Q.move rfl) ?_
 refine VL.quietE (v' := .bool false) (by decide) (Q.eq rfl rfl) (congrArg Value.bool (decide_eq_false (by omega))) ?_
 refine VL.nil ?_
 refine VE.seq ?_
 refine VC.condF rfl ?_
 refine VC.skip ?_
 refine VE.seq ?_
 refine VC.seq ?_
 refine VC.region ?_
 refine VL.q (Q.move rfl) ?_
 refine VL.q ((by first | exact Q.mulI rfl rfl (by omega) (by omega) | exact Q.mul rfl rfl)) ?_
 refine VL.q ((by first | exact Q.mulI rfl rfl (by omega) (by omega) | exact Q.mul rfl rfl)) ?_
 refine VL.q (Q.move rfl) ?_
 refine VL.q ((by first | exact Q.addI rfl rfl (by omega) (by omega) | exact Q.add rfl rfl)) ?_
 refine VL.q ((by first | exact Q.subI rfl rfl (by omega) (by omega) | exact Q.sub rfl rfl)) ?_
 refine VL.q (Q.move rfl) ?_
 refine VL.quietE (v' := .int .i64 (((totOf i * 100 * 1000 + (1000 - (l : Int)) - 1) / (1000 - (l : Int))).toNat : Int)) (by decide) (Q.quo rfl rfl (by omega) (by omega) (by simp only [khi]; omega)) (congrArg (Value.int .i64) (Int.toNat_of_nonneg hB.1).symm) ?_
 refine VL.q (Q.assign rfl) ?_
 refine VL.q (Q.assign rfl) ?_
 refine VL.nil ?_
 refine VE.seq ?_
 refine VC.ret ?_
 exact VE.ret rfl (.tmp rfl (.tmp rfl .nil)) _ (show _ ≤ 1000000000 by omega) rfl (List.nil_sublist _)

theorem cost_put {a b : Nat} (ha : a < 6) (hb : b < 6) (c : Nat → Nat → Nat) (v : Nat) : Put (meshC (costM c) F0 Y0) (0 + a * 6 + b) [.int .i64 (v : Int)] (meshC (costM (upd2 c a b v)) F0 Y0) := by
  have := mesh_put_cost (M := costM c) (M' := costM (upd2 c a b v)) (F := F0) (Y := Y0) ha hb rfl rfl rfl (fun i j h => by
    show upd2 c a b v i j = c i j
    unfold upd2
    rw [if_neg h])
  rwa [show (costM (upd2 c a b v)).cost a b = v from by show upd2 c a b v a b = v; simp [upd2]] at this

theorem grown_c (p : Option Addr) (c : Nat) (links : List Link) (hb : ∀ l ∈ links, LinkOk l) (hl : links.length ≤ 1000) :
  Does Tryz.prog 8 [.slice p links.length c] [] (fun W => Rd W p (links.flatMap linkC)) (X := Nat × (Nat → Nat → Nat)) (fun x => CostOk x.2) (fun x => .tuple #[.pointer (some ⟨x.1, 0, none⟩), .bool true]) (fun x => mBlk x.1 (costM x.2) F0 Y0 :: mRow Y0 :: R0) := by
 refine Does.enter Tryz.func8 rfl (m := 117) rfl (by simp) ?_
 intro W0 hrd
 refine VC.seq ?_
 refine VC.region ?_
 refine VL.q (Q.assign rfl) ?_
 refine VL.q (Q.assign rfl) ?_
 refine VL.nil ?_
 refine VE.seq ?_
 refine VC.seq ?_
 refine VC.region ?_
 refine VL.q (Q.build lay59 zF) ?_
 refine VL.eff (O.box (C := growC 0 0) rfl (by kernel_rfl) (by decide) ?_)
 intro g16
 refine VL.q (Q.assign rfl) ?_
 refine VL.nil ?_
 refine VE.seq ?_
 refine VC.seq ?_
 refine VC.seq ?_
 refine VC.region ?_
 refine VL.q (Q.assign rfl) ?_
 refine VL.nil ?_
 refine VE.seq ?_
 refine VC.block ?_
 refine VC.loop (X := Nat) (fun i => [(0, .slice p links.length c), (4, .pointer (some ⟨g16, 0, none⟩)), (5, .int .i64 (i : Int))]) (fun i => [.blk g16 (growC i i) 59]) (fun i => i ≤ 6) (fun i => 6 - i) 0 (Nat.zero_le _) ?_ ?_
 ·
  exact VS.mk zE (List.Sublist.refl _)
 ·
  intro i hi6
  refine VC.seq ?_
  refine VC.seq ?_
  refine VC.region ?_
  refine VL.q (Q.move rfl) ?_
  refine VL.q (Q.lt rfl rfl) ?_
  refine VL.nil ?_
  refine VE.seq ?_
  refine VC.cond rfl ?_ ?_
  ·
   intro h18
   have hi : i < 6 := by have := of_decide_eq_true h18; omega
   refine VC.skip ?_
   refine VE.seq ?_
   refine VC.seq ?_
   refine VC.block ?_
   refine VC.seq ?_
   refine VC.region ?_
   refine VL.q (Q.move rfl) ?_
   refine VL.eff (O.call0 ok35 rfl rfl (by decide) (nodeOf_c i (by omega)) (fun _ _ _ => trivial) ?_)
   intro x23 y23
   refine VL.q (Q.move rfl) ?_
   refine VL.quietE (v' := .bool (decide (i < 2))) (by decide) (Q.lt rfl rfl) (congrArg Value.bool (decide_eq_decide.2 (by omega))) ?_
   refine VL.q (Q.move rfl) ?_
   refine VL.quietE (v' := .bool (decide (i = 0))) (by decide) (Q.eq rfl rfl) (congrArg Value.bool (by rw [Bool.eq_iff_iff]; simp)) ?_
   refine VL.eff (O.call0 ok34 rfl rfl (by decide) (rnew_c i (decide (i < 2)) (decide (i = 0)) (by simp; omega)) (fun _ _ _ => trivial) ?_)
   intro x28 y28
   refine VL.q (Q.move rfl) ?_
   refine VL.q (Q.extract rfl rfl) ?_
   refine VL.q (Q.extract rfl rfl) ?_
   refine VL.eff (O.alloc zo50 (by decide) ?_)
   intro g6
   refine VL.eff (O.store ty50 rfl rfl rfl rfl zU zP ?_)
   refine VL.q (Q.assign rfl) ?_
   refine VL.nil ?_
   refine VE.seq ?_
   refine VC.seq ?_
   refine VC.region ?_
   refine VL.q (Q.move rfl) ?_
   refine VL.eff (O.call0 ok35 rfl rfl (by decide) (nodeOf_c i (by omega)) (fun _ _ _ => trivial) ?_)
   intro x33 y33
   refine VL.eff (O.call0 ok36 rfl rfl (by decide) (fnew_c i) (fun _ _ _ => trivial) ?_)
   intro x34 y34
   refine VL.q (Q.move rfl) ?_
   refine VL.q (Q.extract rfl rfl) ?_
   refine VL.q (Q.extract rfl rfl) ?_
   refine VL.eff (O.alloc zo55 (by decide) ?_)
   intro g8
   refine VL.eff (O.store ty55 rfl rfl rfl rfl zU zP ?_)
   refine VL.q (Q.assign rfl) ?_
   refine VL.nil ?_
   refine VE.seq ?_
   refine VC.seq ?_
   refine VC.seq ?_
   refine VC.region ?_
   refine VL.q (Q.move rfl) ?_
   refine VL.quietE (v' := .bool false) (by decide) (Q.ne rfl rfl) (by rfl) ?_
   refine VL.q (Q.move rfl) ?_
   refine VL.yes rfl rfl ?_
   refine VL.q (Q.move rfl) ?_
   refine VL.yes rfl rfl ?_
   refine VL.quietE (v' := .bool false) (by decide) (Q.ne rfl rfl) (by rfl) ?_
   refine VL.quietE (v' := .bool false) (by decide) (Q.pick_false rfl rfl) (by rfl) ?_
   refine VL.nil ?_
   refine VE.seq ?_
   refine VC.condF rfl ?_
   refine VC.skip ?_
   refine VE.seq ?_
   refine VA.start (Ls := [.blk g8 [.int .u8 2, .int .u8 0, .int .u8 0, .int .u8 0, .int .u8 2, .int .u8 (i : Int), .int .i64 0, .slice none 0 0, .slice none 0 0] 55, .blk g6 [.int .u8 2, .int .u8 0, .int .u8 0, .int .u8 0, .int .u8 2, .int .u8 (i : Int), .bool (decide (i < 2)), .bool (decide (i = 0)), .int .i64 0, .slice none 0 0, .slice none 0 0] 50]) (Cs := []) mixed ?_
   refine VA.tk 0 rfl (Still.block (Still.then (Still.then (Still.block (Still.then Still.body))))) zB Cells.nil (Quiet.c (Q.move rfl)) ?_
   refine VA.tk 1 rfl (Still.block (Still.then (Still.then (Still.block (Still.then Still.body))))) zB Cells.nil (Quiet.c (Q.move rfl)) ?_
   refine VA.tk 2 rfl (Still.block (Still.then (Still.then (Still.block (Still.then Still.body))))) zB Cells.nil (Quiet.c (Q.move rfl)) ?_
   refine VA.tk 3 rfl (Still.block (Still.then (Still.then (Still.block (Still.then Still.body))))) zB Cells.nil (Quiet.c (Q.move rfl)) ?_
   refine VA.tk 4 rfl (Still.block (Still.then (Still.then (Still.block (Still.then Still.body))))) zB Cells.nil (Quiet.c (Q.loadA ty50 rfl zM zS)) ?_
   refine VA.tk 5 rfl (Still.block (Still.then (Still.then (Still.block (Still.then Still.body))))) zB Cells.nil (Quiet.c (Q.loadA ty55 rfl zM zS)) ?_
   refine VA.tk 6 rfl (Still.block (Still.then (Still.then (Still.block (Still.then Still.body))))) zB Cells.nil (Quiet.c (Q.nilCheck rfl)) ?_
   refine VA.tk 7 rfl (Still.block (Still.then (Still.then (Still.block (Still.then Still.body))))) zB Cells.nil (Quiet.c (Q.fieldAddr fa59_1 rfl)) ?_
   refine VA.tk 8 rfl (Still.block (Still.then (Still.then (Still.block (Still.then Still.body))))) zB Cells.nil (Quiet.c (Q.indexAddrA ar51 (j := i) rfl rfl rfl hi)) ?_
   refine VA.tk 10 rfl (Still.block (Still.then (Still.then (Still.block (Still.then Still.body))))) zB Cells.nil (Quiet.c (Q.nilCheck rfl)) ?_
   refine VA.tk 11 rfl (Still.block (Still.then (Still.then (Still.block (Still.then Still.body))))) zB Cells.nil (Quiet.c (Q.fieldAddr fa59_2 rfl)) ?_
   refine VA.all (rs := [9]) (by kernel_rfl) (by simp) ?_
   refine VA.forall1 ?_
   ·
    refine VA.eff rfl ?_
    refine id (O.store (xs := rootC (costM cost0) Y0 i) (C := growC i i) (C' := growC (i + 1) i) ty50 rfl rfl rfl rfl zU (grow_root hi) ?_)
    refine VA.next zB Cells.nil ?_
    refine VA.tk 12 rfl (Still.block (Still.then (Still.then (Still.block (Still.then Still.body))))) zB Cells.nil (Quiet.c (Q.indexAddrA ar56 (j := i) rfl rfl rfl hi)) ?_
    refine VA.all (rs := [13]) (by kernel_rfl) (by simp) ?_
    refine VA.forall1 ?_
    ·
     refine VA.eff rfl ?_
     refine id (O.store (xs := fwdC F0 Y0 i) (C := growC (i + 1) i) (C' := growC (i + 1) (i + 1)) ty55 rfl rfl rfl rfl zU (grow_fwd hi) ?_)
     refine VA.next zB Cells.nil ?_
     refine VA.done (by kernel_rfl) ?_
     refine VE.block_normal ?_
     refine VE.seq ?_
     refine VC.region ?_
     refine VL.q (Q.move rfl) ?_
     refine VL.q ((by first | exact Q.addI rfl rfl (by omega) (by omega) | exact Q.add rfl rfl)) ?_
     refine VL.q (Q.assign rfl) ?_
     refine VL.nil ?_
     refine VE.then_normal ?_
     exact VE.round (i + 1) (by omega) (by omega) zE zB
  ·
   intro h18
   have he : i = 6 := by have := of_decide_eq_false h18; omega
   subst he
   refine VC.exit ?_
   refine VE.then_exit ?_
   refine VE.then_exit ?_
   refine VE.block_here ?_
   refine VE.seq ?_
   refine VC.seq ?_
   refine VC.seq ?_
   refine VC.region ?_
   refine VL.q (Q.assign rfl) ?_
   refine VL.nil ?_
   refine VE.seq ?_
   refine VC.block ?_
   refine VC.loop (X := Nat × (Nat → Nat → Nat)) (fun x => [(0, .slice p links.length c), (4, .pointer (some ⟨g16, 0, none⟩)), (10, .int .i64 (x.1 : Int))]) (fun x => [mBlk g16 (costM x.2) F0 Y0]) (fun x => x.1 ≤ links.length ∧ CostOk x.2) (fun x => links.length - x.1) (0, cost0) ⟨Nat.zero_le _, CostOk.zero⟩ ?_ ?_
   ·
    exact VS.mk zE (by rw [grow_all]; exact zB)
   ·
    intro x hx
    obtain ⟨hxl, hxc⟩ := hx
    refine VC.seq ?_
    refine VC.seq ?_
    refine VC.region ?_
    refine VL.q (Q.move rfl) ?_
    refine VL.q (Q.move rfl) ?_
    refine VL.q (Q.len sl22 rfl) ?_
    refine VL.q (Q.lt rfl rfl) ?_
    refine VL.nil ?_
    refine VE.seq ?_
    refine VC.cond rfl ?_ ?_
    ·
     intro h59
     have hlt : x.1 < links.length := by have := of_decide_eq_true h59; omega
     obtain ⟨b0, o0, rfl⟩ := hrd.pos (by rw [fm_length linkC_len]; omega)
     obtain ⟨ha1, hb1, hr1, hl1⟩ := hb links[x.1] (List.getElem_mem hlt)
     have ha6 : links[x.1].a % 6 < 6 := Nat.mod_lt _ (by decide)
     have hb6 : links[x.1].b % 6 < 6 := Nat.mod_lt _ (by decide)
     refine VC.skip ?_
     refine VE.seq ?_
     refine VC.seq ?_
     refine VC.block ?_
     refine VC.seq ?_
     refine VA.start (Ls := []) (Cs := []) mixed ?_
     refine VA.tk 0 rfl (Still.then (Still.block (Still.then (Still.then (Still.block (Still.then Still.body)))))) (List.nil_sublist _) Cells.nil (Quiet.c (Q.move rfl)) ?_
     refine VA.tk 1 rfl (Still.then (Still.block (Still.then (Still.then (Still.block (Still.then Still.body)))))) (List.nil_sublist _) Cells.nil (Quiet.c (Q.move rfl)) ?_
     refine VA.tk 2 rfl (Still.then (Still.block (Still.then (Still.then (Still.block (Still.then Still.body)))))) (List.nil_sublist _) Cells.nil (Quiet.c (Q.indexAddr sl22 (j := x.1) rfl rfl rfl hlt)) ?_
     refine VA.tk 3 rfl (Still.then (Still.block (Still.then (Still.then (Still.block (Still.then Still.body)))))) (List.nil_sublist _) Cells.nil (Quiet.c (Q.fieldAddr fa28_0 rfl)) ?_
     refine VA.tk 4 rfl (Still.then (Still.block (Still.then (Still.then (Still.block (Still.then Still.body)))))) (List.nil_sublist _) Cells.nil (Quiet.c (Q.load0 ty5 rfl (Rd.cell hrd (fm_get linkC_len links x.1 hlt 0 _ rfl)) (by simp))) ?_
     refine VA.tk 5 rfl (Still.then (Still.block (Still.then (Still.then (Still.block (Still.then Still.body)))))) (List.nil_sublist _) Cells.nil (Quiet.c ((by first | exact Q.convF ti5 ti3 rfl (by simp only [klo]; omega) (by simp only [khi]; omega) | exact Q.convM (M := 0) ti5 ti3 rfl rfl rfl | exact Q.conv ti5 ti3 rfl))) ?_
     refine VA.tk 6 rfl (Still.then (Still.block (Still.then (Still.then (Still.block (Still.then Still.body)))))) (List.nil_sublist _) Cells.nil (Quiet.c (Quiet.to (v' := .int .i64 ((links[x.1].a % 6 : Nat) : Int)) (Q.rem rfl rfl (by omega) (by omega)) (by rfl))) ?_
     refine VA.tk 7 rfl (Still.then (Still.block (Still.then (Still.then (Still.block (Still.then Still.body)))))) (List.nil_sublist _) Cells.nil (Quiet.c (Q.move rfl)) ?_
     refine VA.tk 8 rfl (Still.then (Still.block (Still.then (Still.then (Still.block (Still.then Still.body)))))) (List.nil_sublist _) Cells.nil (Quiet.c (Q.move rfl)) ?_
     refine VA.tk 9 rfl (Still.then (Still.block (Still.then (Still.then (Still.block (Still.then Still.body)))))) (List.nil_sublist _) Cells.nil (Quiet.c (Q.indexAddr sl22 (j := x.1) rfl rfl rfl hlt)) ?_
     refine VA.tk 10 rfl (Still.then (Still.block (Still.then (Still.then (Still.block (Still.then Still.body)))))) (List.nil_sublist _) Cells.nil (Quiet.c (Q.fieldAddr fa28_1 rfl)) ?_
     refine VA.tk 11 rfl (Still.then (Still.block (Still.then (Still.then (Still.block (Still.then Still.body)))))) (List.nil_sublist _) Cells.nil (Quiet.c (Q.load0 ty5 rfl (Rd.cell hrd (fm_get linkC_len links x.1 hlt 1 _ rfl)) (by simp))) ?_
     refine VA.tk 12 rfl (Still.then (Still.block (Still.then (Still.then (Still.block (Still.then Still.body)))))) (List.nil_sublist _) Cells.nil (Quiet.c ((by first | exact Q.convF ti5 ti3 rfl (by simp only [klo]; omega) (by simp only [khi]; omega) | exact Q.convM (M := 0) ti5 ti3 rfl rfl rfl | exact Q.conv ti5 ti3 rfl))) ?_
     refine VA.tk 13 rfl (Still.then (Still.block (Still.then (Still.then (Still.block (Still.then Still.body)))))) (List.nil_sublist _) Cells.nil (Quiet.c (Quiet.to (v' := .int .i64 ((links[x.1].b % 6 : Nat) : Int)) (Q.rem rfl rfl (by omega) (by omega)) (by rfl))) ?_
     refine VA.tk 14 rfl (Still.then (Still.block (Still.then (Still.then (Still.block (Still.then Still.body)))))) (List.nil_sublist _) Cells.nil (Quiet.c (Q.assign rfl)) ?_
     refine VA.tk 15 rfl (Still.then (Still.block (Still.then (Still.then (Still.block (Still.then Still.body)))))) (List.nil_sublist _) Cells.nil (Quiet.c (Q.assign rfl)) ?_
     refine VA.done (by kernel_rfl) ?_
     refine VE.seq ?_
     refine VC.seq ?_
     refine VA.start (Ls := []) (Cs := []) mixed ?_
     refine VA.tk 0 rfl (Still.then (Still.block (Still.then (Still.then (Still.block (Still.then Still.body)))))) (List.nil_sublist _) Cells.nil (Quiet.c (Q.move rfl)) ?_
     refine VA.tk 1 rfl (Still.then (Still.block (Still.then (Still.then (Still.block (Still.then Still.body)))))) (List.nil_sublist _) Cells.nil (Quiet.c (Q.move rfl)) ?_
     refine VA.tk 2 rfl (Still.then (Still.block (Still.then (Still.then (Still.block (Still.then Still.body)))))) (List.nil_sublist _) Cells.nil (Quiet.c (Q.indexAddr sl22 (j := x.1) rfl rfl rfl hlt)) ?_
     refine VA.tk 3 rfl (Still.then (Still.block (Still.then (Still.then (Still.block (Still.then Still.body)))))) (List.nil_sublist _) Cells.nil (Quiet.c (Q.fieldAddr fa28_2 rfl)) ?_
     refine VA.tk 4 rfl (Still.then (Still.block (Still.then (Still.then (Still.block (Still.then Still.body)))))) (List.nil_sublist _) Cells.nil (Quiet.c (Q.load0 ty5 rfl (Rd.cell hrd (fm_get linkC_len links x.1 hlt 2 _ rfl)) (by simp))) ?_
     refine VA.tk 5 rfl (Still.then (Still.block (Still.then (Still.then (Still.block (Still.then Still.body)))))) (List.nil_sublist _) Cells.nil (Quiet.c ((by first | exact Q.convF ti5 ti3 rfl (by simp only [klo]; omega) (by simp only [khi]; omega) | exact Q.convM (M := 0) ti5 ti3 rfl rfl rfl | exact Q.conv ti5 ti3 rfl))) ?_
     refine VA.tk 6 rfl (Still.then (Still.block (Still.then (Still.then (Still.block (Still.then Still.body)))))) (List.nil_sublist _) Cells.nil (Quiet.c (Quiet.to (v' := .int .i64 ((links[x.1].rate % 12 : Nat) : Int)) (Q.rem rfl rfl (by omega) (by omega)) (by rfl))) ?_
     refine VA.tk 7 rfl (Still.then (Still.block (Still.then (Still.then (Still.block (Still.then Still.body)))))) (List.nil_sublist _) Cells.nil (Quiet.c (Q.move rfl)) ?_
     refine VA.tk 8 rfl (Still.then (Still.block (Still.then (Still.then (Still.block (Still.then Still.body)))))) (List.nil_sublist _) Cells.nil (Quiet.c (Q.move rfl)) ?_
     refine VA.tk 9 rfl (Still.then (Still.block (Still.then (Still.then (Still.block (Still.then Still.body)))))) (List.nil_sublist _) Cells.nil (Quiet.c (Q.indexAddr sl22 (j := x.1) rfl rfl rfl hlt)) ?_
     refine VA.tk 10 rfl (Still.then (Still.block (Still.then (Still.then (Still.block (Still.then Still.body)))))) (List.nil_sublist _) Cells.nil (Quiet.c (Q.fieldAddr fa28_3 rfl)) ?_
     refine VA.tk 11 rfl (Still.then (Still.block (Still.then (Still.then (Still.block (Still.then Still.body)))))) (List.nil_sublist _) Cells.nil (Quiet.c (Q.load0 ty26 rfl (Rd.cell hrd (fm_get linkC_len links x.1 hlt 3 _ rfl)) (by simp))) ?_
     refine VA.tk 12 rfl (Still.then (Still.block (Still.then (Still.then (Still.block (Still.then Still.body)))))) (List.nil_sublist _) Cells.nil (Quiet.c ((by first | exact Q.convF ti26 ti3 rfl (by simp only [klo]; omega) (by simp only [khi]; omega) | exact Q.convM (M := 0) ti26 ti3 rfl rfl rfl | exact Q.conv ti26 ti3 rfl))) ?_
     refine VA.tk 13 rfl (Still.then (Still.block (Still.then (Still.then (Still.block (Still.then Still.body)))))) (List.nil_sublist _) Cells.nil (Quiet.c (Quiet.to (v' := .int .i64 ((links[x.1].loss % 1000 : Nat) : Int)) (Q.rem rfl rfl (by omega) (by omega)) (by rfl))) ?_
     refine VA.all (rs := [14]) (by kernel_rfl) (by simp) ?_
     refine VA.forall1 ?_
     ·
      refine VA.eff rfl ?_
      refine id (O.call0 ok37 rfl rfl (by decide) (cost_c (links[x.1].rate % 12) (links[x.1].loss % 1000) (Nat.mod_lt _ (by decide)) (Nat.mod_lt _ (by decide))) (fun _ _ _ => trivial) ?_)
      intro k hk
      refine VA.next (List.nil_sublist _) Cells.nil ?_
      refine VA.tk 15 rfl (Still.then (Still.block (Still.then (Still.then (Still.block (Still.then Still.body)))))) (List.nil_sublist _) Cells.nil (Quiet.c (Q.move rfl)) ?_
      refine VA.tk 16 rfl (Still.then (Still.block (Still.then (Still.then (Still.block (Still.then Still.body)))))) (List.nil_sublist _) Cells.nil (Quiet.c (Q.extract rfl rfl)) ?_
      refine VA.tk 17 rfl (Still.then (Still.block (Still.then (Still.then (Still.block (Still.then Still.body)))))) (List.nil_sublist _) Cells.nil (Quiet.c (Q.extract rfl rfl)) ?_
      refine VA.tk 18 rfl (Still.then (Still.block (Still.then (Still.then (Still.block (Still.then Still.body)))))) (List.nil_sublist _) Cells.nil (Quiet.c (Q.assign rfl)) ?_
      refine VA.tk 19 rfl (Still.then (Still.block (Still.then (Still.then (Still.block (Still.then Still.body)))))) (List.nil_sublist _) Cells.nil (Quiet.c (Q.assign rfl)) ?_
      refine VA.done (by kernel_rfl) ?_
      refine VE.seq ?_
      refine VC.seq ?_
      refine VC.seq ?_
      refine VC.region ?_
      refine VL.q (Q.move rfl) ?_
      refine VL.quietE (v' := .bool false) (by decide) (Q.ne rfl rfl) (by rfl) ?_
      refine VL.nil ?_
      refine VE.seq ?_
      refine VC.condF rfl ?_
      refine VC.skip ?_
      refine VE.seq ?_
      refine VC.seq ?_
      refine VC.region ?_
      refine VL.q (Q.move rfl) ?_
      refine VL.q (Q.move rfl) ?_
      refine VL.q (Q.ne rfl rfl) ?_
      refine VL.nil ?_
      refine VE.seq ?_
      refine VC.cond rfl ?_ ?_
      ·
       intro h99
       have hne : links[x.1].a % 6 ≠ links[x.1].b % 6 := fun e => by rw [e] at h99; simp at h99
       refine VA.start (Ls := []) (Cs := []) mixed ?_
       refine VA.tk 0 rfl (Still.block (Still.then (Still.then (Still.block (Still.then Still.body))))) (List.nil_sublist _) Cells.nil (Quiet.c (Q.move rfl)) ?_
       refine VA.tk 1 rfl (Still.block (Still.then (Still.then (Still.block (Still.then Still.body))))) (List.nil_sublist _) Cells.nil (Quiet.c (Q.move rfl)) ?_
       refine VA.tk 2 rfl (Still.block (Still.then (Still.then (Still.block (Still.then Still.body))))) (List.nil_sublist _) Cells.nil (Quiet.c (Q.move rfl)) ?_
       refine VA.tk 3 rfl (Still.block (Still.then (Still.then (Still.block (Still.then Still.body))))) (List.nil_sublist _) Cells.nil (Quiet.c (Q.move rfl)) ?_
       refine VA.tk 4 rfl (Still.block (Still.then (Still.then (Still.block (Still.then Still.body))))) (List.nil_sublist _) Cells.nil (Quiet.c (Q.move rfl)) ?_
       refine VA.tk 5 rfl (Still.block (Still.then (Still.then (Still.block (Still.then Still.body))))) (List.nil_sublist _) Cells.nil (Quiet.c (Q.move rfl)) ?_
       refine VA.tk 6 rfl (Still.block (Still.then (Still.then (Still.block (Still.then Still.body))))) (List.nil_sublist _) Cells.nil (Quiet.c (Q.move rfl)) ?_
       refine VA.tk 7 rfl (Still.block (Still.then (Still.then (Still.block (Still.then Still.body))))) (List.nil_sublist _) Cells.nil (Quiet.c (Q.move rfl)) ?_
       refine VA.tk 8 rfl (Still.block (Still.then (Still.then (Still.block (Still.then Still.body))))) (List.nil_sublist _) Cells.nil (Quiet.c (Q.nilCheck rfl)) ?_
       refine VA.tk 9 rfl (Still.block (Still.then (Still.then (Still.block (Still.then Still.body))))) (List.nil_sublist _) Cells.nil (Quiet.c (Q.fieldAddr fa59_0 rfl)) ?_
       refine VA.tk 10 rfl (Still.block (Still.then (Still.then (Still.block (Still.then Still.body))))) (List.nil_sublist _) Cells.nil (Quiet.c (Q.indexAddrA ar46 (j := (links[x.1].a % 6)) rfl rfl rfl ha6)) ?_
       refine VA.tk 11 rfl (Still.block (Still.then (Still.then (Still.block (Still.then Still.body))))) (List.nil_sublist _) Cells.nil (Quiet.c (Q.indexAddrA ar45 (j := (links[x.1].b % 6)) rfl rfl rfl hb6)) ?_
       refine VA.tk 13 rfl (Still.block (Still.then (Still.then (Still.block (Still.then Still.body))))) (List.nil_sublist _) Cells.nil (Quiet.c (Q.nilCheck rfl)) ?_
       refine VA.tk 14 rfl (Still.block (Still.then (Still.then (Still.block (Still.then Still.body))))) (List.nil_sublist _) Cells.nil (Quiet.c (Q.fieldAddr fa59_0 rfl)) ?_
       refine VA.tk 15 rfl (Still.block (Still.then (Still.then (Still.block (Still.then Still.body))))) (List.nil_sublist _) Cells.nil (Quiet.c (Q.indexAddrA ar46 (j := (links[x.1].b % 6)) rfl rfl rfl hb6)) ?_
       refine VA.all (rs := [12]) (by kernel_rfl) (by simp) ?_
       refine VA.forall1 ?_
       ·
        refine VA.eff rfl ?_
        refine id (O.store (xs := [.int .i64 (k : Int)]) (C := meshC (costM x.2) F0 Y0) (C' := meshC (costM (upd2 x.2 (links[x.1].a % 6) (links[x.1].b % 6) k)) F0 Y0) ty3 rfl rfl rfl rfl zU (by rw [Nat.mul_one]; exact cost_put ha6 hb6 x.2 k) ?_)
        refine VA.next (List.nil_sublist _) Cells.nil ?_
        refine VA.tk 16 rfl (Still.block (Still.then (Still.then (Still.block (Still.then Still.body))))) (List.nil_sublist _) Cells.nil (Quiet.c (Q.indexAddrA ar45 (j := (links[x.1].a % 6)) rfl rfl rfl ha6)) ?_
        refine VA.all (rs := [17]) (by kernel_rfl) (by simp) ?_
        refine VA.forall1 ?_
        ·
         refine VA.eff rfl ?_
         refine id (O.store (xs := [.int .i64 (k : Int)]) (C := meshC (costM (upd2 x.2 (links[x.1].a % 6) (links[x.1].b % 6) k)) F0 Y0) (C' := meshC (costM (upd2 (upd2 x.2 (links[x.1].a % 6) (links[x.1].b % 6) k) (links[x.1].b % 6) (links[x.1].a % 6) k)) F0 Y0) ty3 rfl rfl rfl rfl zU (by rw [Nat.mul_one]; exact cost_put hb6 ha6 (upd2 x.2 (links[x.1].a % 6) (links[x.1].b % 6) k) k) ?_)
         refine VA.next (List.nil_sublist _) Cells.nil ?_
         refine VA.done (by kernel_rfl) ?_
         refine VE.block_normal ?_
         refine VE.seq ?_
         refine VC.region ?_
         refine VL.q (Q.move rfl) ?_
         refine VL.q ((by first | exact Q.addI rfl rfl (by omega) (by omega) | exact Q.add rfl rfl)) ?_
         refine VL.q (Q.assign rfl) ?_
         refine VL.nil ?_
         refine VE.then_normal ?_
         exact VE.round (x.1 + 1, upd2 (upd2 x.2 (links[x.1].a % 6) (links[x.1].b % 6) k) (links[x.1].b % 6) (links[x.1].a % 6) k) ⟨by omega, hxc.both hne hk⟩ (by omega) zE zB
      ·
       intro h99
       refine VC.skip ?_
       refine VE.block_normal ?_
       refine VE.seq ?_
       refine VC.region ?_
       refine VL.q (Q.move rfl) ?_
       refine VL.q ((by first | exact Q.addI rfl rfl (by omega) (by omega) | exact Q.add rfl rfl)) ?_
       refine VL.q (Q.assign rfl) ?_
       refine VL.nil ?_
       refine VE.then_normal ?_
       exact VE.round (x.1 + 1, x.2) ⟨by omega, hxc⟩ (by omega) zE zB
    ·
     intro h59
     refine VC.exit ?_
     refine VE.then_exit ?_
     refine VE.then_exit ?_
     refine VE.block_here ?_
     refine VE.seq ?_
     refine VC.seq ?_
     refine VC.region ?_
     refine VL.q (Q.move rfl) ?_
     refine VL.q (Q.assign rfl) ?_
     refine VL.q (Q.assign rfl) ?_
     refine VL.nil ?_
     refine VE.seq ?_
     refine VC.ret ?_
     refine VK.addNil 252 12 ?_
     refine VK.addNil 258 7 ?_
     refine VK.addNil 151 17 ?_
     refine VK.addNil 137 43 ?_
     refine VK.picks (Lin := mBlk g16 (costM x.2) F0 Y0 :: mRow Y0 :: R0) zM2 ?_
     exact VE.ret rfl (.tmp rfl (.tmp rfl .nil)) (g16, x.2) hxc rfl (List.Sublist.refl _)

end Go.Proofs.YtencghlmckbmlaaGreat
