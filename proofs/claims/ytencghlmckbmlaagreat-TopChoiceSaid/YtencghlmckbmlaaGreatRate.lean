/- The contracts of package rate. Conditions: those that each bears. -/
import Derived.Test.YtencghlmckbmlaaGreatRows
import Derived.Test.YtencghlmckbmlaaGreatBytes
namespace Go.Proofs.YtencghlmckbmlaaGreat
open Go Go.RowKit Go.Sx
set_option maxRecDepth 100000

theorem ar166 : tyArr Tryz.prog 166 = some (12, 71, 3) := by kernel_rfl
theorem fa71_0 : tyField Tryz.prog 71 0 = some 0 := by kernel_rfl
theorem fa71_2 : tyField Tryz.prog 71 2 = some 2 := by kernel_rfl
theorem lay166 : laysOf Tryz.prog 166 = some ([.int .i64 0, .int .i64 0, .bool false, .int .i64 0, .int .i64 0, .bool false, .int .i64 0, .int .i64 0, .bool false, .int .i64 0, .int .i64 0, .bool false, .int .i64 0, .int .i64 0, .bool false, .int .i64 0, .int .i64 0, .bool false, .int .i64 0, .int .i64 0, .bool false, .int .i64 0, .int .i64 0, .bool false, .int .i64 0, .int .i64 0, .bool false, .int .i64 0, .int .i64 0, .bool false, .int .i64 0, .int .i64 0, .bool false, .int .i64 0, .int .i64 0, .bool false], [(0, 3), (3, 3), (6, 3), (9, 3), (12, 3), (15, 3), (18, 3), (21, 3), (24, 3), (27, 3), (30, 3), (33, 3)]) := by kernel_rfl
theorem lay71 : laysOf Tryz.prog 71 = some ([.int .i64 0, .int .i64 0, .bool false], [(0, 1), (1, 1), (2, 1)]) := by kernel_rfl
theorem ok15 : okFunc Tryz.prog 15 = true := by kernel_rfl
theorem ok210 : okFunc Tryz.prog 210 = true := by kernel_rfl
theorem ok222 : okFunc Tryz.prog 222 = true := by kernel_rfl
theorem ok31 : okFunc Tryz.prog 31 = true := by kernel_rfl
theorem ok33 : okFunc Tryz.prog 33 = true := by kernel_rfl
theorem ok52 : okFunc Tryz.prog 52 = true := by kernel_rfl
theorem ok65 : okFunc Tryz.prog 65 = true := by kernel_rfl
theorem ty166 : tySz Tryz.prog 166 = some (true, 36) := by kernel_rfl
theorem ty3 : tySz Tryz.prog 3 = some (false, 1) := by kernel_rfl
theorem ty4 : tySz Tryz.prog 4 = some (false, 1) := by kernel_rfl
theorem ty71 : tySz Tryz.prog 71 = some (true, 3) := by kernel_rfl
theorem zo166 : tyZero Tryz.prog 166 = some [.int .i64 0, .int .i64 0, .bool false, .int .i64 0, .int .i64 0, .bool false, .int .i64 0, .int .i64 0, .bool false, .int .i64 0, .int .i64 0, .bool false, .int .i64 0, .int .i64 0, .bool false, .int .i64 0, .int .i64 0, .bool false, .int .i64 0, .int .i64 0, .bool false, .int .i64 0, .int .i64 0, .bool false, .int .i64 0, .int .i64 0, .bool false, .int .i64 0, .int .i64 0, .bool false, .int .i64 0, .int .i64 0, .bool false, .int .i64 0, .int .i64 0, .bool false] := by kernel_rfl
theorem zo71 : tyZero Tryz.prog 71 = some [.int .i64 0, .int .i64 0, .bool false] := by kernel_rfl


/-- the table of rates -/
def rateTab : List Value := [.int .i64 24, .int .i64 (-820), .bool true, .int .i64 36, .int .i64 (-808), .bool false, .int .i64 48, .int .i64 (-788), .bool true,
  .int .i64 72, .int .i64 (-768), .bool false, .int .i64 100, .int .i64 (-738), .bool true, .int .i64 148, .int .i64 (-702), .bool false,
  .int .i64 196, .int .i64 (-664), .bool false, .int .i64 220, .int .i64 (-652), .bool false, .int .i64 264, .int .i64 (-640), .bool false,
  .int .i64 316, .int .i64 (-590), .bool false, .int .i64 396, .int .i64 (-568), .bool false, .int .i64 476, .int .i64 (-538), .bool false]
def rBitsL : List Int := [24, 36, 48, 72, 100, 148, 196, 220, 264, 316, 396, 476]
def rNeedL : List Int := [-820, -808, -788, -768, -738, -702, -664, -652, -640, -590, -568, -538]
def rBasicL : List Bool := [true, false, true, false, true, false, false, false, false, false, false, false]
def rBits (i : Int) : Int := rBitsL.getD i.toNat 0
def rNeed (i : Int) : Int := rNeedL.getD i.toNat 0
def rBasic (i : Int) : Bool := rBasicL.getD i.toNat false

theorem rBits_bd (i : Int) (h0 : 0 ≤ i) (h1 : i < 12) : 24 ≤ rBits i ∧ rBits i ≤ 476 := by
  obtain ⟨j, rfl⟩ := Int.eq_ofNat_of_zero_le h0
  have hj : j < 12 := by omega
  have key : ∀ j : Fin 12, 24 ≤ rBits ((j : Nat) : Int) ∧ rBits ((j : Nat) : Int) ≤ 476 := by decide
  exact key ⟨j, hj⟩

theorem rate_cells (j : Nat) (hj : j < 12) : (rateTab.drop (j * 3)).take 3 = [.int .i64 (rBits (j : Int)), .int .i64 (rNeed (j : Int)), .bool (rBasic (j : Int))] := by
  match j, hj with
  | 0, _ | 1, _ | 2, _ | 3, _ | 4, _ | 5, _ | 6, _ | 7, _ | 8, _ | 9, _ | 10, _ | 11, _ => rfl

theorem index_rate {W0 : World} {gs : List Nat} {E : List (Nat × Value)} {L : List Rs} {x y : Operand} {i : Int} (h0 : 0 ≤ i) (h1 : i < 12) (hx : ev E x = some (.agg rateTab.toArray)) (hy : ev E y = some (.int .i64 i)) :
    Quiet Tryz.prog W0 gs E L (.index 166 x y) (.agg [.int .i64 (rBits i), .int .i64 (rNeed i), .bool (rBasic i)].toArray) := by
  obtain ⟨j, rfl⟩ := Int.eq_ofNat_of_zero_le h0
  have h := Q.index (P := Tryz.prog) (W0 := W0) (gs := gs) (L := L) ar166 ty71 (by intro h; cases h) hx hy j rfl (by omega) rfl
  rw [rate_cells j (by omega)] at h
  exact h

/-- the airtime of bytes at a rate -/
def airOf (i bytes : Int) : Int := 20 + 4 * ((8 * bytes + 22 + rBits i - 1) / rBits i)
/-- the response rate -/
def respOf (i : Int) : Int := if i < 2 then 0 else if i < 4 then 2 else 4

theorem table_c  :
  Does Tryz.prog 52 [] [] (fun _ => True) (X := Unit) (fun _ => True) (fun _ => .agg rateTab.toArray) (fun _ => []) := by
 refine Does.enter Tryz.func52 rfl (m := 14) rfl (by simp) ?_
 intro W0 hro
 refine VC.seq ?_
 refine VC.region ?_
 refine VL.eff (O.alloc zo166 (by decide) ?_)
 intro g0
 refine VL.nil ?_
 refine VE.seq ?_
 refine VC.seq ?_
 refine VC.region ?_
 refine VL.q (Q.build lay71 zF) ?_
 refine VL.q (Q.build lay71 zF) ?_
 refine VL.q (Q.build lay71 zF) ?_
 refine VL.q (Q.build lay71 zF) ?_
 refine VL.q (Q.build lay71 zF) ?_
 refine VL.q (Q.build lay71 zF) ?_
 refine VL.q (Q.build lay71 zF) ?_
 refine VL.q (Q.build lay71 zF) ?_
 refine VL.q (Q.build lay71 zF) ?_
 refine VL.q (Q.build lay71 zF) ?_
 refine VL.q (Q.build lay71 zF) ?_
 refine VL.q (Q.build lay71 zF) ?_
 refine VL.q (Q.build lay166 zF) ?_
 refine VL.eff (O.store ty166 rfl rfl rfl rfl zU zP ?_)
 refine VL.nil ?_
 refine VE.seq ?_
 refine VC.ret ?_
 refine VE.ret rfl (.cell ty166 rfl zM rfl .nil) () ?_ ?_ (List.nil_sublist _)
 ·
  trivial
 ·
  first | rfl | (exfalso; simp at *; omega)

theorem count_c  :
  Does Tryz.prog 33 [] [] (fun _ => True) (X := Unit) (fun _ => True) (fun _ => .int .i64 12) (fun _ => []) := by
 refine Does.enter Tryz.func33 rfl (m := 3) rfl (by simp) ?_
 intro W0 hro
 refine VC.seq ?_
 refine VC.region ?_
 refine VL.q (Q.assign rfl) ?_
 refine VL.nil ?_
 refine VE.seq ?_
 refine VC.seq ?_
 refine VC.region ?_
 refine VL.eff (O.call0 ok52 rfl rfl (by decide) (table_c) (fun _ _ _ => trivial) ?_)
 intro x1 y1
 refine VL.q (Q.move rfl) ?_
 refine VL.q (Q.assign rfl) ?_
 refine VL.nil ?_
 refine VE.seq ?_
 refine VC.ret ?_
 refine VE.ret rfl (.tmp rfl .nil) () ?_ ?_ (List.nil_sublist _)
 ·
  trivial
 ·
  first | rfl | (exfalso; simp at *; omega)

theorem get_c (i : Int) (h0 : 0 ≤ i) (h1 : i < 12) :
  Does Tryz.prog 15 [.int .i64 i] [] (fun _ => True) (X := Unit) (fun _ => True) (fun _ => .tuple #[.agg #[.int .i64 (rBits i), .int .i64 (rNeed i), .bool (rBasic i)], .int .i64 0]) (fun _ => []) := by
 refine Does.enter Tryz.func15 rfl (m := 15) rfl (by simp) ?_
 intro W0 hro
 refine VC.seq ?_
 refine VC.region ?_
 refine VL.eff (O.alloc zo71 (by decide) ?_)
 intro g2
 refine VL.q (Q.assign rfl) ?_
 refine VL.nil ?_
 refine VE.seq ?_
 refine VC.seq ?_
 refine VC.seq ?_
 refine VC.region ?_
 refine VL.q (Q.move rfl) ?_
 refine VL.q (Q.lt rfl rfl) ?_
 refine VL.q (Q.move rfl) ?_
 refine VK.case 6 rfl ?_ ?_
 ·
  intro h6
  refine VL.no (by simp) rfl rfl (.inl rfl) ?_
  refine VL.no (by simp) rfl rfl (.inl rfl) ?_
  refine VL.no (by simp) rfl rfl (.inl rfl) ?_
  refine VL.q (Q.pick_true rfl rfl) ?_
  refine VL.nil ?_
  refine VE.seq ?_
  refine VC.condT rfl ?_
  refine VC.seq ?_
  refine VC.region ?_
  refine VL.q (Q.build lay71 zF) ?_
  refine VL.eff (O.store ty71 rfl rfl rfl rfl zU zP ?_)
  refine VL.q (Q.assign rfl) ?_
  refine VL.nil ?_
  refine VE.seq ?_
  refine VC.ret ?_
  refine VE.then_ret ?_
  refine VE.ret rfl (.cell ty71 rfl zM rfl (.tmp rfl .nil)) () ?_ ?_ (List.nil_sublist _)
  ·
   trivial
  ·
   first | rfl | (exfalso; simp at *; omega)
 ·
  intro h6
  refine VL.yes rfl rfl ?_
  refine VL.q (Q.move rfl) ?_
  refine VL.yes rfl rfl ?_
  refine VL.eff (O.call0 ok33 rfl rfl (by decide) (count_c) (fun _ _ _ => trivial) ?_)
  intro x8 y8
  refine VL.yes rfl rfl ?_
  refine VL.q (Q.ge rfl rfl) ?_
  refine VL.q (Q.pick_false rfl rfl) ?_
  refine VL.nil ?_
  refine VE.seq ?_
  refine VC.cond rfl ?_ ?_
  ·
   intro h10
   refine VC.seq ?_
   refine VC.region ?_
   refine VL.q (Q.build lay71 zF) ?_
   refine VL.eff (O.store ty71 rfl rfl rfl rfl zU zP ?_)
   refine VL.q (Q.assign rfl) ?_
   refine VL.nil ?_
   refine VE.seq ?_
   refine VC.ret ?_
   refine VE.then_ret ?_
   refine VE.ret rfl (.cell ty71 rfl zM rfl (.tmp rfl .nil)) () ?_ ?_ (List.nil_sublist _)
   ·
    trivial
   ·
    first | rfl | (exfalso; simp at *; omega)
  ·
   intro h10
   refine VC.skip ?_
   refine VE.seq ?_
   refine VC.seq ?_
   refine VC.region ?_
   refine VL.eff (O.call0 ok52 rfl rfl (by decide) (table_c) (fun _ _ _ => trivial) ?_)
   intro x12 y12
   refine VL.q (Q.move rfl) ?_
   refine VL.q (index_rate h0 h1 rfl rfl) ?_
   refine VL.eff (O.store ty71 rfl rfl rfl rfl zU zP ?_)
   refine VL.q (Q.assign rfl) ?_
   refine VL.nil ?_
   refine VE.seq ?_
   refine VC.ret ?_
   refine VE.ret rfl (.cell ty71 rfl zM rfl (.tmp rfl .nil)) () ?_ ?_ (List.nil_sublist _)
   ·
    trivial
   ·
    first | rfl | (exfalso; simp at *; omega)

theorem airOf_bd (i b : Int) (h0 : 0 ≤ i) (h1 : i < 12) (b0 : 0 ≤ b) (b1 : b ≤ 65535) : 24 ≤ airOf i b ∧ airOf i b ≤ 87500 := by
  unfold airOf
  obtain ⟨r0, r1⟩ := rBits_bd i h0 h1
  generalize rBits i = r at *
  have h2 : 1 ≤ (8 * b + 22 + r - 1) / r := by
    rw [Int.le_ediv_iff_mul_le (by omega)]
    omega
  have h3 : (8 * b + 22 + r - 1) / r ≤ (8 * b + 22 + r - 1) / 24 := by
    have e : (8 * b + 22 + r - 1) / r ≤ (8 * b + 22 + r - 1) / 24 := by
      rw [Int.le_ediv_iff_mul_le (by omega)]
      have h4 := Int.ediv_mul_le (8 * b + 22 + r - 1) (show r ≠ 0 by omega)
      have h5 : (8 * b + 22 + r - 1) / r * 24 ≤ (8 * b + 22 + r - 1) / r * r := Int.mul_le_mul_of_nonneg_left r0 (by omega)
      omega
    exact e
  omega

theorem iair_c (i b : Int) (h0 : 0 ≤ i) (h1 : i < 12) (b0 : 0 ≤ b) (b1 : b ≤ 65535) :
  Does Tryz.prog 65 [.int .i64 i, .int .i64 b] [] (fun _ => True) (X := Unit) (fun _ => True) (fun _ => .tuple #[.int .i64 (airOf i b), .int .i64 0]) (fun _ => []) := by
 refine Does.enter Tryz.func65 rfl (m := 34) rfl (by simp) ?_
 intro W0 hro
 obtain ⟨r0, r1⟩ := rBits_bd i h0 h1
 have ha := airOf_bd i b h0 h1 b0 b1
 have hq : 0 ≤ (8 * b + 22 + rBits i - 1) / rBits i ∧ (8 * b + 22 + rBits i - 1) / rBits i ≤ 30000 := by unfold airOf at ha; omega
 refine VC.seq ?_
 refine VC.region ?_
 refine VL.q (Q.assign rfl) ?_
 refine VL.q (Q.assign rfl) ?_
 refine VL.nil ?_
 refine VE.seq ?_
 refine VC.seq ?_
 refine VC.region ?_
 refine VL.q (Q.move rfl) ?_
 refine VL.eff (O.call0 ok15 rfl rfl (by decide) (get_c _ (by omega) (by omega)) (fun _ _ _ => trivial) ?_)
 intro x10 y10
 refine VL.q (Q.move rfl) ?_
 refine VL.q (Q.extract rfl rfl) ?_
 refine VL.q (Q.extract rfl rfl) ?_
 refine VL.eff (O.alloc zo71 (by decide) ?_)
 intro g6
 refine VL.eff (O.store ty71 rfl rfl rfl rfl zU zP ?_)
 refine VL.q (Q.assign rfl) ?_
 refine VL.nil ?_
 refine VE.seq ?_
 refine VC.seq ?_
 refine VC.seq ?_
 refine VC.region ?_
 refine VL.q (Q.move rfl) ?_
 refine VL.q (Q.ne rfl rfl) ?_
 refine VL.nil ?_
 refine VE.seq ?_
 refine VC.condF rfl ?_
 refine VC.skip ?_
 refine VE.seq ?_
 refine VC.seq ?_
 refine VC.seq ?_
 refine VC.region ?_
 refine VL.q (Q.move rfl) ?_
 refine VL.q (Q.lt rfl rfl) ?_
 refine VL.q (Q.move rfl) ?_
 refine VK.case 18 rfl ?_ ?_
 ·
  intro h18
  refine VL.no (by simp) rfl rfl (.inl rfl) ?_
  refine VL.no (by simp) rfl rfl (.inl rfl) ?_
  refine VL.q (Q.pick_true rfl rfl) ?_
  refine VL.nil ?_
  refine VE.seq ?_
  refine VC.condT rfl ?_
  refine VC.seq ?_
  refine VC.region ?_
  refine VL.q (Q.assign rfl) ?_
  refine VL.q (Q.assign rfl) ?_
  refine VL.nil ?_
  refine VE.seq ?_
  refine VC.ret ?_
  refine VE.then_ret ?_
  refine VE.ret rfl (.tmp rfl (.tmp rfl .nil)) () ?_ ?_ (List.nil_sublist _)
  ·
   trivial
  ·
   first | rfl | (exfalso; simp at *; omega)
 ·
  intro h18
  refine VL.yes rfl rfl ?_
  refine VL.q (Q.move rfl) ?_
  refine VL.yes rfl rfl ?_
  refine VL.q (Q.gt rfl rfl) ?_
  refine VL.q (Q.pick_false rfl rfl) ?_
  refine VL.nil ?_
  refine VE.seq ?_
  refine VC.cond rfl ?_ ?_
  ·
   intro h21
   refine VC.seq ?_
   refine VC.region ?_
   refine VL.q (Q.assign rfl) ?_
   refine VL.q (Q.assign rfl) ?_
   refine VL.nil ?_
   refine VE.seq ?_
   refine VC.ret ?_
   refine VE.then_ret ?_
   refine VE.ret rfl (.tmp rfl (.tmp rfl .nil)) () ?_ ?_ (List.nil_sublist _)
   ·
    trivial
   ·
    first | rfl | (exfalso; simp at *; omega)
  ·
   intro h21
   refine VC.skip ?_
   refine VE.seq ?_
   refine VC.seq ?_
   refine VC.region ?_
   refine VL.q (Q.move rfl) ?_
   refine VL.q ((by first | exact Q.mulI rfl rfl (by omega) (by omega) | exact Q.mul rfl rfl)) ?_
   refine VL.q ((by first | exact Q.addI rfl rfl (by omega) (by omega) | exact Q.add rfl rfl)) ?_
   refine VL.q (Q.fieldAddr fa71_0 rfl) ?_
   refine VL.q (Q.load1 ty3 rfl zM rfl) ?_
   refine VL.q ((by first | exact Q.addI rfl rfl (by omega) (by omega) | exact Q.add rfl rfl)) ?_
   refine VL.q ((by first | exact Q.subI rfl rfl (by omega) (by omega) | exact Q.sub rfl rfl)) ?_
   refine VL.q (Q.fieldAddr fa71_0 rfl) ?_
   refine VL.q (Q.load1 ty3 rfl zM rfl) ?_
   refine VL.q (Q.quo rfl rfl (by omega) (by omega) (by simp only [khi]; omega)) ?_
   refine VL.q ((by first | exact Q.mulI rfl rfl (by omega) (by omega) | exact Q.mul rfl rfl)) ?_
   refine VL.q ((by first | exact Q.addI rfl rfl (by omega) (by omega) | exact Q.add rfl rfl)) ?_
   refine VL.q (Q.assign rfl) ?_
   refine VL.q (Q.assign rfl) ?_
   refine VL.nil ?_
   refine VE.seq ?_
   refine VC.ret ?_
   refine VE.ret rfl (.tmp rfl (.tmp rfl .nil)) () ?_ ?_ (List.nil_sublist _)
   ·
    trivial
   ·
    first | rfl | (exfalso; simp at *; omega)

theorem eInt {k : IntKind} {a b : Int} (h : a = b) : some (Value.int k a) = some (Value.int k b) := by rw [h]
theorem basic_at (j : Nat) (hj : j < 12) : rateTab[0 + j * 3 + 2]? = some (.bool (rBasic (j : Int))) := by
  match j, hj with
  | 0, _ | 1, _ | 2, _ | 3, _ | 4, _ | 5, _ | 6, _ | 7, _ | 8, _ | 9, _ | 10, _ | 11, _ => rfl
theorem resp_yes (j : Nat) (hj : j < 12) (h : rBasic (j : Int) = true) : respOf (j : Int) = j := by
  match j, hj with
  | 0, _ | 2, _ | 4, _ => rfl
  | 1, _ | 3, _ | 5, _ | 6, _ | 7, _ | 8, _ | 9, _ | 10, _ | 11, _ => exact absurd h (by decide)
theorem resp_no (j : Nat) (hj : j < 12) (h : rBasic (j : Int) = false) : 0 < j ∧ respOf ((j - 1 : Nat) : Int) = respOf (j : Int) := by
  match j, hj with
  | 0, _ | 2, _ | 4, _ => exact absurd h (by decide)
  | 1, _ | 3, _ | 5, _ | 6, _ | 7, _ | 8, _ | 9, _ | 10, _ | 11, _ => exact ⟨by decide, by decide⟩
theorem resp_bd (i : Int) : 0 ≤ respOf i ∧ respOf i ≤ 4 := by
  unfold respOf
  split
  · omega
  · split <;> omega

theorem resp_c (i : Int) (h0 : 0 ≤ i) (h1 : i < 12) :
  Does Tryz.prog 31 [.int .i64 i] [] (fun _ => True) (X := Unit) (fun _ => True) (fun _ => .tuple #[.int .i64 (respOf i), .int .i64 0]) (fun _ => []) := by
 obtain ⟨m, rfl⟩ := Int.eq_ofNat_of_zero_le h0
 refine Does.enter Tryz.func31 rfl (m := 24) rfl (by simp) ?_
 intro W0 hro
 refine VC.seq ?_
 refine VC.region ?_
 refine VL.q (Q.assign rfl) ?_
 refine VL.q (Q.assign rfl) ?_
 refine VL.nil ?_
 refine VE.seq ?_
 refine VC.seq ?_
 refine VC.seq ?_
 refine VC.region ?_
 refine VL.q (Q.move rfl) ?_
 refine VL.eff (O.call0 ok15 rfl rfl (by decide) (get_c _ (by omega) (by omega)) (fun _ _ _ => trivial) ?_)
 intro x9 y9
 refine VL.q (Q.move rfl) ?_
 refine VL.q (Q.extract rfl rfl) ?_
 refine VL.q (Q.extract rfl rfl) ?_
 refine VL.eff (O.alloc zo71 (by decide) ?_)
 intro g4
 refine VL.eff (O.store ty71 rfl rfl rfl rfl zU zP ?_)
 refine VL.q (Q.assign rfl) ?_
 refine VL.nil ?_
 refine VE.seq ?_
 refine VC.seq ?_
 refine VC.region ?_
 refine VL.q (Q.move rfl) ?_
 refine VL.q (Q.ne rfl rfl) ?_
 refine VL.nil ?_
 refine VE.seq ?_
 refine VC.condF rfl ?_
 refine VC.skip ?_
 refine VE.seq ?_
 refine VC.seq ?_
 refine VC.region ?_
 refine VL.eff (O.call0 ok52 rfl rfl (by decide) (table_c) (fun _ _ _ => trivial) ?_)
 intro x15 y15
 refine VL.eff (O.alloc zo166 (by decide) ?_)
 intro g6
 refine VL.eff (O.store ty166 rfl rfl rfl rfl zU zP ?_)
 refine VL.nil ?_
 refine VE.seq ?_
 refine VC.seq ?_
 refine VC.block ?_
 refine VC.loopK (X := Nat) (fun j => [(6, .pointer (some ⟨g6, 0, none⟩)), (0, .int .i64 (j : Int))]) (fun j => j < 12 ∧ respOf (j : Int) = respOf (m : Int)) (fun j => j) m ⟨by omega, rfl⟩ ?_ ?_
 ·
  exact VS.mk zE (List.Sublist.refl _)
 ·
  rintro j ⟨hj1, hj2⟩
  refine VC.seq ?_
  refine VC.seq ?_
  refine VC.region ?_
  refine VL.q (Q.move rfl) ?_
  refine VL.q (Q.indexAddrA ar166 (j := j) rfl rfl rfl hj1) ?_
  refine VL.q (Q.fieldAddr fa71_2 rfl) ?_
  refine VL.q (Q.load1 ty4 rfl zM (basic_at j hj1)) ?_
  refine VL.q (Q.not rfl) ?_
  refine VL.nil ?_
  refine VE.seq ?_
  refine VC.cond rfl ?_ ?_
  ·
   intro h20
   refine VC.skip ?_
   refine VE.seq ?_
   refine VC.block ?_
   refine VC.region ?_
   refine VL.q (Q.move rfl) ?_
   refine VL.q ((by first | exact Q.subI rfl rfl (by omega) (by omega) | exact Q.sub rfl rfl)) ?_
   refine VL.q (Q.assign rfl) ?_
   refine VL.nil ?_
   refine VE.block_normal ?_
   refine VE.then_normal ?_
   obtain ⟨hj3, hj4⟩ := resp_no j hj1 (by simpa using h20)
   exact VE.roundK (j - 1) ⟨by omega, hj4.trans hj2⟩ (by omega) (.cons rfl (.cons (eInt (by omega)) .nil)) (List.Sublist.refl _)
  ·
   intro h20
   refine VC.exit ?_
   refine VE.then_exit ?_
   refine VE.then_exit ?_
   refine VE.block_here ?_
   refine VE.seq ?_
   refine VC.seq ?_
   refine VC.region ?_
   refine VL.q (Q.move rfl) ?_
   refine VL.q (Q.assign rfl) ?_
   refine VL.q (Q.assign rfl) ?_
   refine VL.nil ?_
   refine VE.seq ?_
   refine VC.ret ?_
   refine VE.ret rfl (.tmp rfl (.tmp rfl .nil)) () ?_ ?_ (List.nil_sublist _)
   ·
    trivial
   ·
    exact congrArg (fun z => Value.tuple #[.int .i64 z, .int .i64 0]) ((resp_yes j hj1 (by simpa using h20)).symm.trans hj2)

theorem reply_c (i b : Int) (h0 : 0 ≤ i) (h1 : i < 12) (b0 : 0 ≤ b) (b1 : b ≤ 65535) :
  Does Tryz.prog 222 [.int .i64 i, .int .i64 b] [] (fun _ => True) (X := Unit) (fun _ => True) (fun _ => .tuple #[.int .i64 (airOf (respOf i) b), .int .i64 0]) (fun _ => []) := by
 refine Does.enter Tryz.func222 rfl (m := 21) rfl (by simp) ?_
 intro W0 hro
 have hr := resp_bd i
 refine VC.seq ?_
 refine VC.region ?_
 refine VL.q (Q.assign rfl) ?_
 refine VL.q (Q.assign rfl) ?_
 refine VL.nil ?_
 refine VE.seq ?_
 refine VC.seq ?_
 refine VC.region ?_
 refine VL.q (Q.move rfl) ?_
 refine VL.eff (O.call0 ok31 rfl rfl (by decide) (resp_c _ (by omega) (by omega)) (fun _ _ _ => trivial) ?_)
 intro x10 y10
 refine VL.q (Q.move rfl) ?_
 refine VL.q (Q.extract rfl rfl) ?_
 refine VL.q (Q.extract rfl rfl) ?_
 refine VL.q (Q.assign rfl) ?_
 refine VL.q (Q.assign rfl) ?_
 refine VL.nil ?_
 refine VE.seq ?_
 refine VC.seq ?_
 refine VC.seq ?_
 refine VC.region ?_
 refine VL.q (Q.move rfl) ?_
 refine VL.q (Q.ne rfl rfl) ?_
 refine VL.nil ?_
 refine VE.seq ?_
 refine VC.condF rfl ?_
 refine VC.skip ?_
 refine VE.seq ?_
 refine VC.seq ?_
 refine VC.region ?_
 refine VL.q (Q.move rfl) ?_
 refine VL.q (Q.move rfl) ?_
 refine VL.eff (O.call0 ok65 rfl rfl (by decide) (iair_c _ _ (by omega) (by omega) (by omega) (by omega)) (fun _ _ _ => trivial) ?_)
 intro x18 y18
 refine VL.q (Q.extract rfl rfl) ?_
 refine VL.q (Q.extract rfl rfl) ?_
 refine VL.q (Q.assign rfl) ?_
 refine VL.q (Q.assign rfl) ?_
 refine VL.nil ?_
 refine VE.seq ?_
 refine VC.ret ?_
 refine VE.ret rfl (.tmp rfl (.tmp rfl .nil)) () ?_ ?_ (List.nil_sublist _)
 ·
  trivial
 ·
  first | rfl | (exfalso; simp at *; omega)

theorem air_c (i b : Int) (h0 : 0 ≤ i) (h1 : i < 12) (b0 : 0 ≤ b) (b1 : b ≤ 65535) :
  Does Tryz.prog 21 [.int .i64 i, .int .i64 b] [] (fun _ => True) (X := Unit) (fun _ => True) (fun _ => .tuple #[.int .i64 (airOf i b), .int .i64 0]) (fun _ => []) := by
 refine Does.enter Tryz.func21 rfl (m := 11) rfl (by simp) ?_
 intro W0 hro
 refine VC.seq ?_
 refine VC.region ?_
 refine VL.q (Q.assign rfl) ?_
 refine VL.q (Q.assign rfl) ?_
 refine VL.nil ?_
 refine VE.seq ?_
 refine VC.seq ?_
 refine VC.region ?_
 refine VL.q (Q.move rfl) ?_
 refine VL.q (Q.move rfl) ?_
 refine VL.eff (O.call0 ok65 rfl rfl (by decide) (iair_c _ _ (by omega) (by omega) (by omega) (by omega)) (fun _ _ _ => trivial) ?_)
 intro x8 y8
 refine VL.q (Q.extract rfl rfl) ?_
 refine VL.q (Q.extract rfl rfl) ?_
 refine VL.q (Q.assign rfl) ?_
 refine VL.q (Q.assign rfl) ?_
 refine VL.nil ?_
 refine VE.seq ?_
 refine VC.ret ?_
 refine VE.ret rfl (.tmp rfl (.tmp rfl .nil)) () ?_ ?_ (List.nil_sublist _)
 ·
  trivial
 ·
  first | rfl | (exfalso; simp at *; omega)

theorem answer_c (i b : Int) (h0 : 0 ≤ i) (h1 : i < 12) (b0 : 0 ≤ b) (b1 : b ≤ 65535) :
  Does Tryz.prog 210 [.int .i64 i, .int .i64 b] [] (fun _ => True) (X := Unit) (fun _ => True) (fun _ => .tuple #[.int .i64 (airOf (respOf i) b), .int .i64 0]) (fun _ => []) := by
 refine Does.enter Tryz.func210 rfl (m := 13) rfl (by simp) ?_
 intro W0 hro
 refine VC.seq ?_
 refine VC.region ?_
 refine VL.q (Q.assign rfl) ?_
 refine VL.q (Q.assign rfl) ?_
 refine VL.nil ?_
 refine VE.seq ?_
 refine VC.seq ?_
 refine VC.region ?_
 refine VL.q (Q.assign rfl) ?_
 refine VL.nil ?_
 refine VE.seq ?_
 refine VC.seq ?_
 refine VC.region ?_
 refine VL.q (Q.move rfl) ?_
 refine VL.q (Q.move rfl) ?_
 refine VL.q (Q.move rfl) ?_
 refine VL.eff (O.call0 ok222 rfl rfl (by decide) (reply_c _ _ (by omega) (by omega) (by omega) (by omega)) (fun _ _ _ => trivial) ?_)
 intro x10 y10
 refine VL.q (Q.extract rfl rfl) ?_
 refine VL.q (Q.extract rfl rfl) ?_
 refine VL.q (Q.assign rfl) ?_
 refine VL.q (Q.assign rfl) ?_
 refine VL.nil ?_
 refine VE.seq ?_
 refine VC.ret ?_
 refine VE.ret rfl (.tmp rfl (.tmp rfl .nil)) () ?_ ?_ (List.nil_sublist _)
 ·
  trivial
 ·
  first | rfl | (exfalso; simp at *; omega)

theorem ackAir_c (i : Int) (h0 : 0 ≤ i) (h1 : i < 12) :
  Does Tryz.prog 166 [.int .i64 i] [] (fun _ => True) (X := Unit) (fun _ => True) (fun _ => .tuple #[.int .i64 (airOf (respOf i) 14), .int .i64 0]) (fun _ => []) := by
 refine Does.enter Tryz.func166 rfl (m := 8) rfl (by simp) ?_
 intro W0 hro
 refine VC.seq ?_
 refine VC.region ?_
 refine VL.q (Q.assign rfl) ?_
 refine VL.q (Q.assign rfl) ?_
 refine VL.nil ?_
 refine VE.seq ?_
 refine VC.seq ?_
 refine VC.region ?_
 refine VL.q (Q.move rfl) ?_
 refine VL.eff (O.call0 ok210 rfl rfl (by decide) (answer_c _ _ (by omega) (by omega) (by omega) (by omega)) (fun _ _ _ => trivial) ?_)
 intro x5 y5
 refine VL.q (Q.extract rfl rfl) ?_
 refine VL.q (Q.extract rfl rfl) ?_
 refine VL.q (Q.assign rfl) ?_
 refine VL.q (Q.assign rfl) ?_
 refine VL.nil ?_
 refine VE.seq ?_
 refine VC.ret ?_
 refine VE.ret rfl (.tmp rfl (.tmp rfl .nil)) () ?_ ?_ (List.nil_sublist _)
 ·
  trivial
 ·
  first | rfl | (exfalso; simp at *; omega)

end Go.Proofs.YtencghlmckbmlaaGreat
