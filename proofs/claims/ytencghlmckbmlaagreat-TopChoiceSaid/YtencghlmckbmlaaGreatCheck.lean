/- The contracts of package check. Conditions: those that each bears. -/
import Derived.Test.YtencghlmckbmlaaGreatRows
import Derived.Test.YtencghlmckbmlaaGreatBytes
namespace Go.Proofs.YtencghlmckbmlaaGreat
open Go Go.RowKit Go.Sx
set_option maxRecDepth 100000

theorem ar348 : tyArr Tryz.prog 348 = some (256, 236, 1) := by kernel_rfl
theorem mixed : Tryz.prog.follows .mixedOrders = true := by kernel_rfl
theorem ok153 : okFunc Tryz.prog 153 = true := by kernel_rfl
theorem ok154 : okFunc Tryz.prog 154 = true := by kernel_rfl
theorem ok155 : okFunc Tryz.prog 155 = true := by kernel_rfl
theorem ok195 : okFunc Tryz.prog 195 = true := by kernel_rfl
theorem ok203 : okFunc Tryz.prog 203 = true := by kernel_rfl
theorem ok204 : okFunc Tryz.prog 204 = true := by kernel_rfl
theorem ok219 : okFunc Tryz.prog 219 = true := by kernel_rfl
theorem ok229 : okFunc Tryz.prog 229 = true := by kernel_rfl
theorem sl23 : tySlice Tryz.prog 23 = some (5, 1, 1) := by kernel_rfl
theorem ti236 : tyInt Tryz.prog 236 = some .u32 := by kernel_rfl
theorem ti3 : tyInt Tryz.prog 3 = some .i64 := by kernel_rfl
theorem ti5 : tyInt Tryz.prog 5 = some .u8 := by kernel_rfl
theorem ty236 : tySz Tryz.prog 236 = some (false, 1) := by kernel_rfl
theorem ty348 : tySz Tryz.prog 348 = some (true, 256) := by kernel_rfl
theorem ty5 : tySz Tryz.prog 5 = some (false, 1) := by kernel_rfl
theorem ze5 : (Tryz.prog.info? 5).bind (·.zero) = some (.int .u8 0) := by kernel_rfl
theorem zo348 : tyZero Tryz.prog 348 = some [.int .u32 0, .int .u32 0, .int .u32 0, .int .u32 0, .int .u32 0, .int .u32 0, .int .u32 0, .int .u32 0, .int .u32 0, .int .u32 0, .int .u32 0, .int .u32 0, .int .u32 0, .int .u32 0, .int .u32 0, .int .u32 0, .int .u32 0, .int .u32 0, .int .u32 0, .int .u32 0, .int .u32 0, .int .u32 0, .int .u32 0, .int .u32 0, .int .u32 0, .int .u32 0, .int .u32 0, .int .u32 0, .int .u32 0, .int .u32 0, .int .u32 0, .int .u32 0, .int .u32 0, .int .u32 0, .int .u32 0, .int .u32 0, .int .u32 0, .int .u32 0, .int .u32 0, .int .u32 0, .int .u32 0, .int .u32 0, .int .u32 0, .int .u32 0, .int .u32 0, .int .u32 0, .int .u32 0, .int .u32 0, .int .u32 0, .int .u32 0, .int .u32 0, .int .u32 0, .int .u32 0, .int .u32 0, .int .u32 0, .int .u32 0, .int .u32 0, .int .u32 0, .int .u32 0, .int .u32 0, .int .u32 0, .int .u32 0, .int .u32 0, .int .u32 0, .int .u32 0, .int .u32 0, .int .u32 0, .int .u32 0, .int .u32 0, .int .u32 0, .int .u32 0, .int .u32 0, .int .u32 0, .int .u32 0, .int .u32 0, .int .u32 0, .int .u32 0, .int .u32 0, .int .u32 0, .int .u32 0, .int .u32 0, .int .u32 0, .int .u32 0, .int .u32 0, .int .u32 0, .int .u32 0, .int .u32 0, .int .u32 0, .int .u32 0, .int .u32 0, .int .u32 0, .int .u32 0, .int .u32 0, .int .u32 0, .int .u32 0, .int .u32 0, .int .u32 0, .int .u32 0, .int .u32 0, .int .u32 0, .int .u32 0, .int .u32 0, .int .u32 0, .int .u32 0, .int .u32 0, .int .u32 0, .int .u32 0, .int .u32 0, .int .u32 0, .int .u32 0, .int .u32 0, .int .u32 0, .int .u32 0, .int .u32 0, .int .u32 0, .int .u32 0, .int .u32 0, .int .u32 0, .int .u32 0, .int .u32 0, .int .u32 0, .int .u32 0, .int .u32 0, .int .u32 0, .int .u32 0, .int .u32 0, .int .u32 0, .int .u32 0, .int .u32 0, .int .u32 0, .int .u32 0, .int .u32 0, .int .u32 0, .int .u32 0, .int .u32 0, .int .u32 0, .int .u32 0, .int .u32 0, .int .u32 0, .int .u32 0, .int .u32 0, .int .u32 0, .int .u32 0, .int .u32 0, .int .u32 0, .int .u32 0, .int .u32 0, .int .u32 0, .int .u32 0, .int .u32 0, .int .u32 0, .int .u32 0, .int .u32 0, .int .u32 0, .int .u32 0, .int .u32 0, .int .u32 0, .int .u32 0, .int .u32 0, .int .u32 0, .int .u32 0, .int .u32 0, .int .u32 0, .int .u32 0, .int .u32 0, .int .u32 0, .int .u32 0, .int .u32 0, .int .u32 0, .int .u32 0, .int .u32 0, .int .u32 0, .int .u32 0, .int .u32 0, .int .u32 0, .int .u32 0, .int .u32 0, .int .u32 0, .int .u32 0, .int .u32 0, .int .u32 0, .int .u32 0, .int .u32 0, .int .u32 0, .int .u32 0, .int .u32 0, .int .u32 0, .int .u32 0, .int .u32 0, .int .u32 0, .int .u32 0, .int .u32 0, .int .u32 0, .int .u32 0, .int .u32 0, .int .u32 0, .int .u32 0, .int .u32 0, .int .u32 0, .int .u32 0, .int .u32 0, .int .u32 0, .int .u32 0, .int .u32 0, .int .u32 0, .int .u32 0, .int .u32 0, .int .u32 0, .int .u32 0, .int .u32 0, .int .u32 0, .int .u32 0, .int .u32 0, .int .u32 0, .int .u32 0, .int .u32 0, .int .u32 0, .int .u32 0, .int .u32 0, .int .u32 0, .int .u32 0, .int .u32 0, .int .u32 0, .int .u32 0, .int .u32 0, .int .u32 0, .int .u32 0, .int .u32 0, .int .u32 0, .int .u32 0, .int .u32 0, .int .u32 0, .int .u32 0, .int .u32 0, .int .u32 0, .int .u32 0, .int .u32 0, .int .u32 0, .int .u32 0, .int .u32 0, .int .u32 0, .int .u32 0, .int .u32 0, .int .u32 0, .int .u32 0, .int .u32 0, .int .u32 0, .int .u32 0, .int .u32 0, .int .u32 0, .int .u32 0, .int .u32 0, .int .u32 0, .int .u32 0, .int .u32 0, .int .u32 0] := by kernel_rfl

theorem shiftOf_c  :
  Does Tryz.prog 229 [.int .u32 2147483648] [] (fun _ => True) (X := Unit) (fun _ => True) (fun _ => .int .i64 24) (fun _ => []) := by
 refine Does.enter Tryz.func229 rfl (m := 13) rfl (by simp) ?_
 intro W0 hro
 refine VC.seq ?_
 refine VC.region ?_
 refine VL.q (Q.assign rfl) ?_
 refine VL.nil ?_
 refine VE.seq ?_
 refine VC.seq ?_
 refine VC.region ?_
 refine VL.q (Q.assign rfl) ?_
 refine VL.nil ?_
 refine VE.seq ?_
 refine VC.seq ?_
 refine VC.seq ?_
 refine VC.region ?_
 refine VL.q (Q.move rfl) ?_
 refine VL.q (Q.assign rfl) ?_
 refine VL.nil ?_
 refine VE.seq ?_
 refine VC.block ?_
 refine VC.loopK (X := Nat) (fun k => [(4, .int .u32 ((2 ^ (31 - k) : Nat) : Int)), (3, .int .i64 (k : Int))]) (fun k => k ≤ 24) (fun k => 24 - k) 0 (by omega) ?_ ?_
 ·
  exact VS.mk zE (List.Sublist.refl _)
 ·
  intro k hk
  have p24 : (2 ^ (31 - k) : Nat) < 4294967296 ∧ (128 < (2 ^ (31 - k) : Nat) ↔ k < 24) ∧ (k < 24 → (2 ^ (31 - k) : Nat) / 2 = 2 ^ (31 - (k + 1))) := by
   have key : ∀ k : Fin 25, (2 ^ (31 - k.1) : Nat) < 4294967296 ∧ (128 < (2 ^ (31 - k.1) : Nat) ↔ k.1 < 24) ∧ (k.1 < 24 → (2 ^ (31 - k.1) : Nat) / 2 = 2 ^ (31 - (k.1 + 1))) := by decide
   exact key ⟨k, by omega⟩
  obtain ⟨q1, q2, q3⟩ := p24
  generalize hv : (2 ^ (31 - k) : Nat) = v at *
  refine VC.seq ?_
  refine VC.seq ?_
  refine VC.region ?_
  refine VL.q (Q.move rfl) ?_
  refine VL.q (Q.gt rfl rfl) ?_
  refine VL.nil ?_
  refine VE.seq ?_
  refine VC.cond rfl ?_ ?_
  ·
   intro h7
   refine VC.skip ?_
   refine VE.seq ?_
   refine VC.seq ?_
   refine VC.block ?_
   refine VC.region ?_
   refine VL.q (Q.move rfl) ?_
   refine VL.q ((by first | exact Q.addI rfl rfl (by omega) (by omega) | exact Q.add rfl rfl)) ?_
   refine VL.q (Q.assign rfl) ?_
   refine VL.nil ?_
   refine VE.block_normal ?_
   refine VE.seq ?_
   refine VC.region ?_
   refine VL.q (Q.move rfl) ?_
   refine VL.q (Q.shrC (s := 1) (m := 2) rfl rfl (by decide) (by decide)) ?_
   refine VL.q (Q.assign rfl) ?_
   refine VL.nil ?_
   refine VE.then_normal ?_
   exact VE.roundK (k + 1) (by have := of_decide_eq_true h7; omega) (by have := of_decide_eq_true h7; omega) (.cons (eInt (by have := q3 (by have := of_decide_eq_true h7; omega); rw [← this]; omega)) (.cons rfl .nil)) (List.Sublist.refl _)
  ·
   intro h7
   refine VC.exit ?_
   refine VE.then_exit ?_
   refine VE.then_exit ?_
   refine VE.block_here ?_
   refine VE.seq ?_
   refine VC.seq ?_
   refine VC.region ?_
   refine VL.q (Q.move rfl) ?_
   refine VL.q (Q.assign rfl) ?_
   refine VL.nil ?_
   refine VE.seq ?_
   refine VC.ret ?_
   refine VE.ret rfl (.tmp rfl .nil) () ?_ ?_ (List.nil_sublist _)
   ·
    trivial
   ·
    exact congrArg (Value.int .i64) (by have h := of_decide_eq_false h7; omega)

theorem ctable_c  :
  Does Tryz.prog 219 [.int .u32 136331795, .int .u32 2147483648] [] (fun _ => True) (X := Unit) (fun _ => True) (fun _ => .agg (tabC 256).toArray) (fun _ => []) := by
 refine Does.enter Tryz.func219 rfl (m := 34) rfl (by simp) ?_
 intro W0 hro
 refine VC.seq ?_
 refine VC.region ?_
 refine VL.eff (O.alloc zo348 (by decide) ?_)
 intro g4
 refine VL.nil ?_
 refine VE.seq ?_
 refine VC.seq ?_
 refine VC.seq ?_
 refine VC.region ?_
 refine VL.q (Q.move rfl) ?_
 refine VL.nil ?_
 refine VE.seq ?_
 refine VC.block ?_
 refine VC.loop (X := Nat) (fun i => [(4, .pointer (some ⟨g4, 0, none⟩)), (8, .int .i64 (i : Int)), (0, .int .u32 136331795), (1, .int .u32 2147483648)]) (fun i => [.blk g4 (tabC i) 348]) (fun i => i ≤ 256) (fun i => 256 - i) 0 (by omega) ?_ ?_
 ·
  exact VS.mk zE (by rw [show tabC 0 = [.int .u32 0, .int .u32 0, .int .u32 0, .int .u32 0, .int .u32 0, .int .u32 0, .int .u32 0, .int .u32 0, .int .u32 0, .int .u32 0, .int .u32 0, .int .u32 0, .int .u32 0, .int .u32 0, .int .u32 0, .int .u32 0, .int .u32 0, .int .u32 0, .int .u32 0, .int .u32 0, .int .u32 0, .int .u32 0, .int .u32 0, .int .u32 0, .int .u32 0, .int .u32 0, .int .u32 0, .int .u32 0, .int .u32 0, .int .u32 0, .int .u32 0, .int .u32 0, .int .u32 0, .int .u32 0, .int .u32 0, .int .u32 0, .int .u32 0, .int .u32 0, .int .u32 0, .int .u32 0, .int .u32 0, .int .u32 0, .int .u32 0, .int .u32 0, .int .u32 0, .int .u32 0, .int .u32 0, .int .u32 0, .int .u32 0, .int .u32 0, .int .u32 0, .int .u32 0, .int .u32 0, .int .u32 0, .int .u32 0, .int .u32 0, .int .u32 0, .int .u32 0, .int .u32 0, .int .u32 0, .int .u32 0, .int .u32 0, .int .u32 0, .int .u32 0, .int .u32 0, .int .u32 0, .int .u32 0, .int .u32 0, .int .u32 0, .int .u32 0, .int .u32 0, .int .u32 0, .int .u32 0, .int .u32 0, .int .u32 0, .int .u32 0, .int .u32 0, .int .u32 0, .int .u32 0, .int .u32 0, .int .u32 0, .int .u32 0, .int .u32 0, .int .u32 0, .int .u32 0, .int .u32 0, .int .u32 0, .int .u32 0, .int .u32 0, .int .u32 0, .int .u32 0, .int .u32 0, .int .u32 0, .int .u32 0, .int .u32 0, .int .u32 0, .int .u32 0, .int .u32 0, .int .u32 0, .int .u32 0, .int .u32 0, .int .u32 0, .int .u32 0, .int .u32 0, .int .u32 0, .int .u32 0, .int .u32 0, .int .u32 0, .int .u32 0, .int .u32 0, .int .u32 0, .int .u32 0, .int .u32 0, .int .u32 0, .int .u32 0, .int .u32 0, .int .u32 0, .int .u32 0, .int .u32 0, .int .u32 0, .int .u32 0, .int .u32 0, .int .u32 0, .int .u32 0, .int .u32 0, .int .u32 0, .int .u32 0, .int .u32 0, .int .u32 0, .int .u32 0, .int .u32 0, .int .u32 0, .int .u32 0, .int .u32 0, .int .u32 0, .int .u32 0, .int .u32 0, .int .u32 0, .int .u32 0, .int .u32 0, .int .u32 0, .int .u32 0, .int .u32 0, .int .u32 0, .int .u32 0, .int .u32 0, .int .u32 0, .int .u32 0, .int .u32 0, .int .u32 0, .int .u32 0, .int .u32 0, .int .u32 0, .int .u32 0, .int .u32 0, .int .u32 0, .int .u32 0, .int .u32 0, .int .u32 0, .int .u32 0, .int .u32 0, .int .u32 0, .int .u32 0, .int .u32 0, .int .u32 0, .int .u32 0, .int .u32 0, .int .u32 0, .int .u32 0, .int .u32 0, .int .u32 0, .int .u32 0, .int .u32 0, .int .u32 0, .int .u32 0, .int .u32 0, .int .u32 0, .int .u32 0, .int .u32 0, .int .u32 0, .int .u32 0, .int .u32 0, .int .u32 0, .int .u32 0, .int .u32 0, .int .u32 0, .int .u32 0, .int .u32 0, .int .u32 0, .int .u32 0, .int .u32 0, .int .u32 0, .int .u32 0, .int .u32 0, .int .u32 0, .int .u32 0, .int .u32 0, .int .u32 0, .int .u32 0, .int .u32 0, .int .u32 0, .int .u32 0, .int .u32 0, .int .u32 0, .int .u32 0, .int .u32 0, .int .u32 0, .int .u32 0, .int .u32 0, .int .u32 0, .int .u32 0, .int .u32 0, .int .u32 0, .int .u32 0, .int .u32 0, .int .u32 0, .int .u32 0, .int .u32 0, .int .u32 0, .int .u32 0, .int .u32 0, .int .u32 0, .int .u32 0, .int .u32 0, .int .u32 0, .int .u32 0, .int .u32 0, .int .u32 0, .int .u32 0, .int .u32 0, .int .u32 0, .int .u32 0, .int .u32 0, .int .u32 0, .int .u32 0, .int .u32 0, .int .u32 0, .int .u32 0, .int .u32 0, .int .u32 0, .int .u32 0, .int .u32 0, .int .u32 0, .int .u32 0, .int .u32 0, .int .u32 0, .int .u32 0, .int .u32 0, .int .u32 0, .int .u32 0, .int .u32 0, .int .u32 0, .int .u32 0, .int .u32 0, .int .u32 0, .int .u32 0] from by kernel_rfl]; exact List.Sublist.refl _)
 ·
  intro i hi
  refine VC.seq ?_
  refine VC.region ?_
  refine VL.q (Q.lt rfl rfl) ?_
  refine VL.nil ?_
  refine VE.seq ?_
  refine VC.seq ?_
  refine VC.cond rfl ?_ ?_
  ·
   intro h9
   have hlt : i < 256 := by have := of_decide_eq_true h9; omega
   refine VC.skip ?_
   refine VE.seq ?_
   refine VC.seq ?_
   refine VC.block ?_
   refine VC.seq ?_
   refine VC.region ?_
   refine VL.q (Q.move rfl) ?_
   refine VL.q (Q.assign rfl) ?_
   refine VL.nil ?_
   refine VE.seq ?_
   refine VC.seq ?_
   refine VC.region ?_
   refine VL.q (Q.move rfl) ?_
   refine VL.q (Q.convF ti3 ti236 rfl (by simp only [klo]; omega) (by simp only [khi]; omega)) ?_
   refine VL.q (Q.move rfl) ?_
   refine VL.eff (O.call0 ok229 rfl rfl (by decide) (shiftOf_c) (fun _ _ _ => trivial) ?_)
   intro x14 y14
   refine VL.q (Q.shlF (s := 24) (m := 16777216) rfl rfl (by decide) (by decide) (by simp only [klo]; omega) (by simp only [khi]; omega)) ?_
   refine VL.q (Q.assign rfl) ?_
   refine VL.nil ?_
   refine VE.seq ?_
   refine VC.seq ?_
   refine VC.seq ?_
   refine VC.region ?_
   refine VL.q (Q.move rfl) ?_
   refine VL.nil ?_
   refine VE.seq ?_
   refine VC.block ?_
   refine VC.loopK (X := Nat) (fun j => [(4, .pointer (some ⟨g4, 0, none⟩)), (8, .int .i64 (i : Int)), (0, .int .u32 136331795), (1, .int .u32 2147483648), (5, .int .i64 (i : Int)), (6, .int .u32 ((crcIt j (i * 16777216) : Nat) : Int)), (16, .int .i64 (j : Int))]) (fun j => j ≤ 8) (fun j => 8 - j) 0 (by omega) ?_ ?_
   ·
    exact VS.mk (.cons rfl (.cons rfl (.cons rfl (.cons rfl (.cons rfl (.cons (eInt (by show (i : Int) * 16777216 = ((i * 16777216 : Nat) : Int); omega)) (.cons rfl .nil))))))) (List.Sublist.refl _)
   ·
    intro j hj
    have hr := crcIt_lt j (i * 16777216) (by omega)
    have hst : crcIt (j + 1) (i * 16777216) = crcStep (crcIt j (i * 16777216)) := rfl
    generalize hrj : crcIt j (i * 16777216) = r at *
    refine VC.seq ?_
    refine VC.region ?_
    refine VL.q (Q.lt rfl rfl) ?_
    refine VL.nil ?_
    refine VE.seq ?_
    refine VC.seq ?_
    refine VC.cond rfl ?_ ?_
    ·
     intro h17
     have hjt : j < 8 := by have := of_decide_eq_true h17; omega
     refine VC.skip ?_
     refine VE.seq ?_
     refine VC.seq ?_
     refine VC.block ?_
     refine VC.seq ?_
     refine VC.region ?_
     refine VL.q (Q.move rfl) ?_
     refine VL.q (Q.move rfl) ?_
     refine VL.q (Q.and rfl rfl (by omega) (by simp only [khi]; omega) (by omega) (by simp only [khi]; omega)) ?_
     refine VL.q (Q.ne rfl rfl) ?_
     refine VL.q (Q.assign rfl) ?_
     refine VL.nil ?_
     refine VE.seq ?_
     refine VC.seq ?_
     refine VC.region ?_
     refine VL.q (Q.move rfl) ?_
     refine VL.q (Q.shlM (M := 4294967296) (s := 1) (m := 2) rfl rfl (by decide) (by decide) rfl rfl) ?_
     refine VL.q (Q.assign rfl) ?_
     refine VL.nil ?_
     refine VE.seq ?_
     refine VC.seq ?_
     refine VC.region ?_
     refine VL.q (Q.move rfl) ?_
     refine VL.nil ?_
     refine VE.seq ?_
     refine VC.cond rfl ?_ ?_
     ·
      intro h24
      refine VC.region ?_
      refine VL.q (Q.move rfl) ?_
      refine VL.q (Q.move rfl) ?_
      refine VL.q (Q.xor rfl rfl (by omega) (by simp only [khi]; omega) (by omega) (by simp only [khi]; omega)) ?_
      refine VL.q (Q.assign rfl) ?_
      refine VL.nil ?_
      refine VE.block_normal ?_
      refine VE.seq ?_
      refine VC.region ?_
      refine VL.q ((by first | exact Q.addI rfl rfl (by omega) (by omega) | exact Q.add rfl rfl)) ?_
      refine VL.q (Q.move rfl) ?_
      refine VL.nil ?_
      refine VE.then_normal ?_
      exact VE.roundK (j + 1) (by omega) (by omega) (.cons rfl (.cons rfl (.cons rfl (.cons rfl (.cons rfl (.cons (eInt (by rw [hst]; first | exact step_yes r h24 | exact step_no r h24)) (.cons rfl .nil))))))) (List.Sublist.refl _)
     ·
      intro h24
      refine VC.skip ?_
      refine VE.block_normal ?_
      refine VE.seq ?_
      refine VC.region ?_
      refine VL.q ((by first | exact Q.addI rfl rfl (by omega) (by omega) | exact Q.add rfl rfl)) ?_
      refine VL.q (Q.move rfl) ?_
      refine VL.nil ?_
      refine VE.then_normal ?_
      exact VE.roundK (j + 1) (by omega) (by omega) (.cons rfl (.cons rfl (.cons rfl (.cons rfl (.cons rfl (.cons (eInt (by rw [hst]; first | exact step_yes r h24 | exact step_no r h24)) (.cons rfl .nil))))))) (List.Sublist.refl _)
    ·
     intro h17
     have hjt : ¬ j < 8 := by have := of_decide_eq_false h17; omega
     subst hrj
     clear hst hr
     refine VC.exit ?_
     refine VE.then_exit ?_
     refine VE.then_exit ?_
     refine VE.block_here ?_
     refine VE.seq ?_
     refine VC.region ?_
     refine VL.q (Q.move rfl) ?_
     refine VL.q (Q.move rfl) ?_
     refine VL.q (Q.indexAddrA ar348 (j := i) rfl rfl rfl hlt) ?_
     refine VL.eff (O.store ty236 rfl rfl rfl rfl zU (Put.set (by rw [tabC_length]; omega)) ?_)
     refine VL.nil ?_
     refine VE.block_normal ?_
     refine VE.seq ?_
     refine VC.region ?_
     refine VL.q ((by first | exact Q.addI rfl rfl (by omega) (by omega) | exact Q.add rfl rfl)) ?_
     refine VL.q (Q.move rfl) ?_
     refine VL.nil ?_
     refine VE.then_normal ?_
     have h8 : j = 8 := by omega
     subst h8
     have hset := tabC_set i hlt (0 + i * 1) (by omega) ((crcIt 8 (i * 16777216) : Nat) : Int) rfl
     exact VE.round (i + 1) (by omega) (by omega) zE (by rw [hset]; exact List.Sublist.refl _)
  ·
   intro h9
   have hge : i = 256 := by have := of_decide_eq_false h9; omega
   subst hge
   refine VC.exit ?_
   refine VE.then_exit ?_
   refine VE.then_exit ?_
   refine VE.block_here ?_
   refine VE.seq ?_
   refine VC.seq ?_
   refine VC.region ?_
   refine VL.q (Q.loadA (xs := tabC 256) ty348 rfl zM (Seg.all)) ?_
   refine VL.eff (O.store (xs := tabC 256) (C' := tabC 256) ty348 rfl rfl rfl rfl zU (by exact Put.all rfl) ?_)
   refine VL.nil ?_
   refine VE.seq ?_
   refine VC.ret ?_
   refine VE.ret rfl (.cell ty348 rfl zM rfl .nil) () ?_ ?_ (List.nil_sublist _)
   ·
    trivial
   ·
    first | rfl | (exfalso; simp at *; omega)

theorem extend_c (p : Option Addr) (n c : Nat) (l : List UInt8) (s0 : Nat) (hs : s0 < 4294967296) (hn : l.length = n) (hl : n ≤ 1000000) :
  Does Tryz.prog 204 [.int .u32 (s0 : Int), .slice p n c] [] (fun W => Rd W p (bs l)) (X := Unit) (fun _ => True) (fun _ => .int .u32 (crcExt s0 l : Int)) (fun _ => []) := by
 subst hn
 refine Does.enter Tryz.func204 rfl (m := 27) rfl (by simp) ?_
 intro W0 hro
 refine VC.seq ?_
 refine VC.region ?_
 refine VL.q (Q.assign rfl) ?_
 refine VL.nil ?_
 refine VE.seq ?_
 refine VC.seq ?_
 refine VC.region ?_
 refine VL.eff (O.call0 ok219 rfl rfl (by decide) (ctable_c) (fun _ _ _ => trivial) ?_)
 intro x8 y8
 refine VL.eff (O.alloc zo348 (by decide) ?_)
 intro g5
 refine VL.eff (O.store (xs := tabC 256) (C' := tabC 256) ty348 rfl rfl rfl rfl zU (by exact Put.all rfl) ?_)
 refine VL.nil ?_
 refine VE.seq ?_
 refine VC.seq ?_
 refine VC.seq ?_
 refine VC.region ?_
 refine VL.q (Q.move rfl) ?_
 refine VL.q (Q.len sl23 rfl) ?_
 refine VL.q (Q.move rfl) ?_
 refine VL.nil ?_
 refine VE.seq ?_
 refine VC.block ?_
 refine VC.loopK (X := Nat) (fun k => [(5, .pointer (some ⟨g5, 0, none⟩)), (9, .slice p l.length c), (10, .int .i64 (l.length : Int)), (11, .int .i64 (k : Int)), (0, .int .u32 (crcExt s0 (l.take k) : Int))]) (fun k => k ≤ l.length) (fun k => l.length - k) 0 (by omega) ?_ ?_
 ·
  exact VS.mk zE (List.Sublist.refl _)
 ·
  intro k hk
  have hsx := crcExt_lt (l.take k) s0 hs
  refine VC.seq ?_
  refine VC.region ?_
  refine VL.q (Q.lt rfl rfl) ?_
  refine VL.nil ?_
  refine VE.seq ?_
  refine VC.seq ?_
  refine VC.cond rfl ?_ ?_
  ·
   intro h12
   have hlt : k < l.length := by have := of_decide_eq_true h12; omega
   obtain ⟨b0, o0, rfl, hc0⟩ := hro k _ (bs_get l k hlt)
   have hb := byte_bd l[k]
   have hstep := crcExt_snoc s0 l k hlt
   generalize hr : crcExt s0 (l.take k) = r at *
   have hvl := idx_lt r l[k] hsx
   have hup := upd_eq r l[k] _ rfl
   generalize hv : ((r : Int) / 16777216).toNat ^^^ ((l[k].toNat : Int)).toNat = v at *
   have hen := crcEntry_lt v hvl
   refine VC.skip ?_
   refine VE.seq ?_
   refine VC.seq ?_
   refine VC.block ?_
   refine VC.seq ?_
   refine VC.region ?_
   refine VL.q (Q.indexAddr sl23 (j := k) rfl rfl rfl hlt) ?_
   refine VL.q (Q.load0 ty5 rfl (by simpa using hc0) (by simp)) ?_
   refine VL.q (Q.assign rfl) ?_
   refine VL.nil ?_
   refine VE.seq ?_
   refine VC.region ?_
   refine VL.q (Q.move rfl) ?_
   refine VL.q ((by first | exact Q.shlF (s := 8) (m := 256) rfl rfl (by decide) (by decide) (by simp only [klo]; omega) (by simp only [khi]; omega) | exact Q.shlM (M := 4294967296) (s := 8) (m := 256) rfl rfl (by decide) (by decide) rfl rfl)) ?_
   refine VL.q (Q.move rfl) ?_
   refine VL.q (Q.shrC (s := 24) (m := 16777216) rfl rfl (by decide) (by decide)) ?_
   refine VL.q ((by first | exact Q.convF ti236 ti5 rfl (by simp only [klo]; omega) (by simp only [khi]; omega) | exact Q.convM (M := 256) ti236 ti5 rfl rfl rfl | exact Q.conv ti236 ti5 rfl)) ?_
   refine VL.q (Q.move rfl) ?_
   refine VL.q (Q.xor rfl rfl (by omega) (by simp only [khi]; omega) (by omega) (by simp only [khi]; omega)) ?_
   refine VL.q (Q.indexAddrA ar348 (j := v) rfl rfl (by rw [hv]) hvl) ?_
   refine VL.q (Q.load1 ty236 rfl zM (tabC_get v hvl)) ?_
   refine VL.q (Q.xor rfl rfl (by omega) (by simp only [khi]; omega) (by omega) (by simp only [khi]; omega)) ?_
   refine VL.q (Q.assign rfl) ?_
   refine VL.nil ?_
   refine VE.block_normal ?_
   refine VE.seq ?_
   refine VC.region ?_
   refine VL.q ((by first | exact Q.addI rfl rfl (by omega) (by omega) | exact Q.add rfl rfl)) ?_
   refine VL.q (Q.move rfl) ?_
   refine VL.nil ?_
   refine VE.then_normal ?_
   exact VE.roundK (k + 1) (by omega) (by omega) (.cons rfl (.cons rfl (.cons rfl (.cons rfl (.cons (eInt (by rw [hstep]; exact hup)) .nil))))) (List.Sublist.refl _)
  ·
   intro h12
   have hge : k = l.length := by have := of_decide_eq_false h12; omega
   subst hge
   refine VC.exit ?_
   refine VE.then_exit ?_
   refine VE.then_exit ?_
   refine VE.block_here ?_
   refine VE.seq ?_
   refine VC.seq ?_
   refine VC.region ?_
   refine VL.q (Q.move rfl) ?_
   refine VL.q (Q.assign rfl) ?_
   refine VL.nil ?_
   refine VE.seq ?_
   refine VC.ret ?_
   refine VE.ret rfl (.tmp rfl .nil) () ?_ ?_ (List.nil_sublist _)
   ·
    trivial
   ·
    exact congrArg (fun l => Value.int .u32 (crcExt s0 l : Int)) (List.take_length)

theorem final_c (s : Nat) (hs : s < 4294967296) :
  Does Tryz.prog 203 [.int .u32 (s : Int)] [] (fun _ => True) (X := Unit) (fun _ => True) (fun _ => .int .u32 (4294967295 - (s : Int))) (fun _ => []) := by
 refine Does.enter Tryz.func203 rfl (m := 5) rfl (by simp) ?_
 intro W0 hro
 refine VC.seq ?_
 refine VC.region ?_
 refine VL.q (Q.assign rfl) ?_
 refine VL.nil ?_
 refine VE.seq ?_
 refine VC.seq ?_
 refine VC.region ?_
 refine VL.q (Q.move rfl) ?_
 refine VL.q (Q.xorNot rfl rfl (by omega) (by simp only [khi]; omega)) ?_
 refine VL.q (Q.assign rfl) ?_
 refine VL.nil ?_
 refine VE.seq ?_
 refine VC.ret ?_
 refine VE.ret rfl (.tmp rfl .nil) () ?_ ?_ (List.nil_sublist _)
 ·
  trivial
 ·
  first | rfl | (exfalso; simp at *; omega)

theorem crc32_c (p : Option Addr) (n c : Nat) (l : List UInt8) (hn : l.length = n) (hl : n ≤ 1000000) :
  Does Tryz.prog 155 [.slice p n c] [] (fun W => Rd W p (bs l)) (X := Unit) (fun _ => True) (fun _ => .int .u32 (crc32 l : Int)) (fun _ => []) := by
 subst hn
 refine Does.enter Tryz.func155 rfl (m := 6) rfl (by simp) ?_
 intro W0 hro
 have he := crcExt_lt l 4294967295 (by omega)
 refine VC.seq ?_
 refine VC.region ?_
 refine VL.q (Q.assign rfl) ?_
 refine VL.nil ?_
 refine VE.seq ?_
 refine VC.seq ?_
 refine VC.region ?_
 refine VL.q (Q.move rfl) ?_
 refine VL.eff (O.call0 ok204 rfl rfl (by decide) (extend_c _ _ _ l 4294967295 (by omega) rfl hl) (fun _ ho _ => hro.only0 ho) ?_)
 intro x4 y4
 refine VL.eff (O.call0 ok203 rfl rfl (by decide) (final_c (crcExt 4294967295 l) he) (fun _ _ _ => trivial) ?_)
 intro x5 y5
 refine VL.q (Q.assign rfl) ?_
 refine VL.nil ?_
 refine VE.seq ?_
 refine VC.ret ?_
 refine VE.ret rfl (.tmp rfl .nil) () ?_ ?_ (List.nil_sublist _)
 ·
  trivial
 ·
  exact congrArg (Value.int .u32) (by unfold crc32; omega)

theorem join_c (p q : Option Addr) (n m c1 c2 : Nat) (l k : List UInt8) (hn : l.length = n) (hm : k.length = m) (hl : n + m ≤ 1000000) :
  Does Tryz.prog 195 [.slice p n c1, .slice q m c2] [] (fun W => Rd W p (bs l) ∧ Rd W q (bs k)) (X := Option Addr × Nat) (fun x => (l ++ k).length ≤ x.2) (fun x => .slice x.1 (l ++ k).length x.2) (fun x => [.row (.slice x.1 (l ++ k).length x.2) 5 1 (l ++ k).length (bs (l ++ k))]) := by
 subst hn
 subst hm
 refine Does.enter Tryz.func195 rfl (m := 17) rfl (by simp) ?_
 intro W0 hro
 refine VC.seq ?_
 refine VC.region ?_
 refine VL.q (Q.assign rfl) ?_
 refine VL.nil ?_
 refine VE.seq ?_
 refine VC.seq ?_
 refine VC.region ?_
 refine VL.q (Q.move rfl) ?_
 refine VL.q (Q.len sl23 rfl) ?_
 refine VL.q (Q.move rfl) ?_
 refine VL.q (Q.len sl23 rfl) ?_
 refine VL.q ((by first | exact Q.addI rfl rfl (by omega) (by omega) | exact Q.add rfl rfl)) ?_
 refine VL.eff (O.make (0) (l.length + k.length) sl23 ze5 rfl rfl rfl rfl (by omega) (by omega) (by unfold maxLen; omega) (by decide) ?_)
 intro g11
 refine VL.q (Q.assign rfl) ?_
 refine VL.nil ?_
 refine VE.seq ?_
 refine VC.seq ?_
 refine VC.region ?_
 refine VL.q (Q.move rfl) ?_
 refine VL.q (Q.move rfl) ?_
 refine VL.eff (O.append sl23 ze5 rfl (by decide) rfl rfl (by rw [bs_length]; omega) (bs_one l) (by decide) (by unfold maxLen; omega) (by omega) zA (fun _ ho _ => hro.1.only0 ho) ?_)
 intro p14 c14 hc14
 refine VL.q (Q.move rfl) ?_
 refine VL.eff (O.append sl23 ze5 rfl (by decide) rfl rfl (by rw [bs_length]; omega) (bs_one k) (by decide) (by unfold maxLen; omega) (by omega) zA (fun _ ho _ => hro.2.only0 ho) ?_)
 intro p16 c16 hc16
 refine VL.q (Q.assign rfl) ?_
 refine VL.nil ?_
 refine VE.seq ?_
 refine VC.ret ?_
 have e1 : 0 + l.length + k.length = (l ++ k).length := by simp
 rw [e1]
 rw [show ((madeCells (Value.int .u8 0).cells ((l.length + k.length) * 1)).toList.take (0 * 1) ++ bs l ++ bs k) = bs (l ++ k) from by simp [bs_append]]
 refine VE.ret rfl (.tmp rfl .nil) (p16, c16) ?_ ?_ (List.Sublist.refl _)
 ·
  omega
 ·
  first | rfl | (exfalso; simp at *; omega)

theorem append_c (p : Option Addr) (n c : Nat) (l : List UInt8) (hn : l.length = n) (hl : n ≤ 999996) :
  Does Tryz.prog 143 [.slice p n c] [] (fun W => Rd W p (bs l)) (X := Option Addr × Nat) (fun x => (l ++ crcBytes l).length ≤ x.2) (fun x => .slice x.1 (l ++ crcBytes l).length x.2) (fun x => [.row (.slice x.1 (l ++ crcBytes l).length x.2) 5 1 (l ++ crcBytes l).length (bs (l ++ crcBytes l))]) := by
 subst hn
 refine Does.enter Tryz.func143 rfl (m := 20) rfl (by simp) ?_
 intro W0 hro
 have hx := crc32_lt l
 refine VC.seq ?_
 refine VC.region ?_
 refine VL.q (Q.assign rfl) ?_
 refine VL.nil ?_
 refine VE.seq ?_
 refine VC.seq ?_
 refine VC.region ?_
 refine VL.q (Q.move rfl) ?_
 refine VL.eff (O.call0 ok155 rfl rfl (by decide) (crc32_c _ _ _ l rfl (by omega)) (fun _ ho _ => hro.only0 ho) ?_)
 intro x5 y5
 refine VL.q (Q.assign rfl) ?_
 refine VL.nil ?_
 refine VE.seq ?_
 refine VC.seq ?_
 refine VC.region ?_
 refine VL.q (Q.move rfl) ?_
 refine VL.q (Q.move rfl) ?_
 refine VL.q (Q.shrC (s := 24) (m := 16777216) rfl rfl (by decide) (by decide)) ?_
 refine VL.q ((by first | exact Q.convF ti236 ti5 rfl (by simp only [klo]; omega) (by simp only [khi]; omega) | exact Q.convM (M := 256) ti236 ti5 rfl rfl rfl | exact Q.conv ti236 ti5 rfl)) ?_
 refine VL.q (Q.move rfl) ?_
 refine VL.q (Q.shrC (s := 16) (m := 65536) rfl rfl (by decide) (by decide)) ?_
 refine VL.q ((by first | exact Q.convF ti236 ti5 rfl (by simp only [klo]; omega) (by simp only [khi]; omega) | exact Q.convM (M := 256) ti236 ti5 rfl rfl rfl | exact Q.conv ti236 ti5 rfl)) ?_
 refine VL.q (Q.move rfl) ?_
 refine VL.q (Q.shrC (s := 8) (m := 256) rfl rfl (by decide) (by decide)) ?_
 refine VL.q ((by first | exact Q.convF ti236 ti5 rfl (by simp only [klo]; omega) (by simp only [khi]; omega) | exact Q.convM (M := 256) ti236 ti5 rfl rfl rfl | exact Q.conv ti236 ti5 rfl)) ?_
 refine VL.q (Q.move rfl) ?_
 refine VL.q ((by first | exact Q.convF ti236 ti5 rfl (by simp only [klo]; omega) (by simp only [khi]; omega) | exact Q.convM (M := 256) ti236 ti5 rfl rfl rfl | exact Q.conv ti236 ti5 rfl)) ?_
 refine VL.eff (O.buildSlice sl23 ze5 (by decide) zF (by decide) ?_)
 intro g18
 refine VL.eff (O.call0 ok195 rfl rfl (by decide) (join_c _ _ _ _ _ _ l (crcBytes l) rfl rfl (by omega)) (fun _ ho hw => ⟨hro.only0 ho, by rw [crcBytes_bs]; exact Rd.own hw zM (fun j u hj => by simpa using hj)⟩) ?_)
 intro x19 y19
 refine VL.q (Q.assign rfl) ?_
 refine VL.nil ?_
 refine VE.seq ?_
 refine VC.ret ?_
 refine VE.ret rfl (.tmp rfl .nil) x19 ?_ ?_ (List.sublist_append_left _ _)
 ·
  exact y19
 ·
  first | rfl | (exfalso; simp at *; omega)

theorem vgood_c (p q : Option Addr) (n c1 c2 : Nat) (l : List UInt8) (a b c d : UInt8) (hn : l.length = n) (hl : n ≤ 1000000) :
  Does Tryz.prog 154 [.slice p n c1, .slice q 4 c2] [] (fun W => Rd W p (bs l) ∧ Rd W q (bs [a, b, c, d])) (X := Unit) (fun _ => True) (fun _ => .bool (crcOk l [a, b, c, d])) (fun _ => []) := by
 subst hn
 refine Does.enter Tryz.func154 rfl (m := 41) rfl (by simp) ?_
 intro W0 hro
 have hx := crc32_lt l
 obtain ⟨hp, hq⟩ := hro
 obtain ⟨b0, o0, rfl, k0⟩ := hq 0 _ rfl
 obtain ⟨_, _, e, k1⟩ := hq 1 _ rfl
 cases e
 obtain ⟨_, _, e, k2⟩ := hq 2 _ rfl
 cases e
 obtain ⟨_, _, e, k3⟩ := hq 3 _ rfl
 cases e
 refine VC.seq ?_
 refine VC.region ?_
 refine VL.q (Q.assign rfl) ?_
 refine VL.nil ?_
 refine VE.seq ?_
 refine VC.seq ?_
 refine VC.region ?_
 refine VL.q (Q.move rfl) ?_
 refine VL.eff (O.call0 ok155 rfl rfl (by decide) (crc32_c _ _ _ l rfl hl) (fun _ ho _ => hp.only0 ho) ?_)
 intro x7 y7
 refine VL.q (Q.assign rfl) ?_
 refine VL.nil ?_
 refine VE.seq ?_
 refine VC.seq ?_
 refine VC.region ?_
 refine VL.q (Q.move rfl) ?_
 refine VL.q (Q.shrC (s := 24) (m := 16777216) rfl rfl (by decide) (by decide)) ?_
 refine VL.q ((by first | exact Q.convF ti236 ti5 rfl (by simp only [klo]; omega) (by simp only [khi]; omega) | exact Q.convM (M := 256) ti236 ti5 rfl rfl rfl | exact Q.conv ti236 ti5 rfl)) ?_
 refine VL.q (Q.move rfl) ?_
 refine VL.q (Q.indexAddr sl23 (j := 0) rfl rfl rfl (by omega)) ?_
 refine VL.q (Q.load0 ty5 rfl k0 (by simp)) ?_
 refine VL.q (Q.eq rfl rfl) ?_
 refine VL.q (Q.move rfl) ?_
 refine VK.case 15 rfl ?_ ?_
 ·
  intro h15
  refine VL.yes rfl rfl ?_
  refine VL.q (Q.move rfl) ?_
  refine VL.yes rfl rfl ?_
  refine VL.q (Q.shrC (s := 16) (m := 65536) rfl rfl (by decide) (by decide)) ?_
  refine VL.yes rfl rfl ?_
  refine VL.q ((by first | exact Q.convF ti236 ti5 rfl (by simp only [klo]; omega) (by simp only [khi]; omega) | exact Q.convM (M := 256) ti236 ti5 rfl rfl rfl | exact Q.conv ti236 ti5 rfl)) ?_
  refine VL.yes rfl rfl ?_
  refine VL.q (Q.move rfl) ?_
  refine VL.yes rfl rfl ?_
  refine VL.q (Q.indexAddr sl23 (j := 1) rfl rfl rfl (by omega)) ?_
  refine VL.yes rfl rfl ?_
  refine VL.q (Q.load0 ty5 rfl k1 (by simp)) ?_
  refine VL.yes rfl rfl ?_
  refine VL.q (Q.eq rfl rfl) ?_
  refine VL.q (Q.pick_true rfl rfl) ?_
  refine VL.q (Q.move rfl) ?_
  refine VK.case 24 rfl ?_ ?_
  ·
   intro h24
   refine VL.yes rfl rfl ?_
   refine VL.q (Q.move rfl) ?_
   refine VL.yes rfl rfl ?_
   refine VL.q (Q.shrC (s := 8) (m := 256) rfl rfl (by decide) (by decide)) ?_
   refine VL.yes rfl rfl ?_
   refine VL.q ((by first | exact Q.convF ti236 ti5 rfl (by simp only [klo]; omega) (by simp only [khi]; omega) | exact Q.convM (M := 256) ti236 ti5 rfl rfl rfl | exact Q.conv ti236 ti5 rfl)) ?_
   refine VL.yes rfl rfl ?_
   refine VL.q (Q.move rfl) ?_
   refine VL.yes rfl rfl ?_
   refine VL.q (Q.indexAddr sl23 (j := 2) rfl rfl rfl (by omega)) ?_
   refine VL.yes rfl rfl ?_
   refine VL.q (Q.load0 ty5 rfl k2 (by simp)) ?_
   refine VL.yes rfl rfl ?_
   refine VL.q (Q.eq rfl rfl) ?_
   refine VL.q (Q.pick_true rfl rfl) ?_
   refine VL.q (Q.move rfl) ?_
   refine VK.case 33 rfl ?_ ?_
   ·
    intro h33
    refine VL.yes rfl rfl ?_
    refine VL.q (Q.move rfl) ?_
    refine VL.yes rfl rfl ?_
    refine VL.q ((by first | exact Q.convF ti236 ti5 rfl (by simp only [klo]; omega) (by simp only [khi]; omega) | exact Q.convM (M := 256) ti236 ti5 rfl rfl rfl | exact Q.conv ti236 ti5 rfl)) ?_
    refine VL.yes rfl rfl ?_
    refine VL.q (Q.move rfl) ?_
    refine VL.yes rfl rfl ?_
    refine VL.q (Q.indexAddr sl23 (j := 3) rfl rfl rfl (by omega)) ?_
    refine VL.yes rfl rfl ?_
    refine VL.q (Q.load0 ty5 rfl k3 (by simp)) ?_
    refine VL.yes rfl rfl ?_
    refine VL.q (Q.eq rfl rfl) ?_
    refine VL.q (Q.pick_true rfl rfl) ?_
    refine VL.q (Q.assign rfl) ?_
    refine VL.nil ?_
    refine VE.seq ?_
    refine VC.ret ?_
    refine VE.ret rfl (.tmp rfl .nil) () ?_ ?_ (List.nil_sublist _)
    ·
     trivial
    ·
     exact congrArg Value.bool (by rw [crcOk_eq]; simp_all)
   ·
    intro h33
    refine VL.no (by simp) rfl rfl (.inl rfl) ?_
    refine VL.no (by simp) rfl rfl (.inl rfl) ?_
    refine VL.no (by simp) rfl rfl (.inl rfl) ?_
    refine VL.no (by simp) rfl rfl (.inl rfl) ?_
    refine VL.no (by simp) rfl rfl (.inl rfl) ?_
    refine VL.no (by simp) rfl rfl (.inl rfl) ?_
    refine VL.q (Q.pick_false rfl rfl) ?_
    refine VL.q (Q.assign rfl) ?_
    refine VL.nil ?_
    refine VE.seq ?_
    refine VC.ret ?_
    refine VE.ret rfl (.tmp rfl .nil) () ?_ ?_ (List.nil_sublist _)
    ·
     trivial
    ·
     exact congrArg Value.bool (by rw [crcOk_eq]; simp_all)
  ·
   intro h24
   refine VL.no (by simp) rfl rfl (.inl rfl) ?_
   refine VL.no (by simp) rfl rfl (.inl rfl) ?_
   refine VL.no (by simp) rfl rfl (.inl rfl) ?_
   refine VL.no (by simp) rfl rfl (.inl rfl) ?_
   refine VL.no (by simp) rfl rfl (.inl rfl) ?_
   refine VL.no (by simp) rfl rfl (.inl rfl) ?_
   refine VL.no (by simp) rfl rfl (.inl rfl) ?_
   refine VL.q (Q.pick_false rfl rfl) ?_
   refine VL.q (Q.move rfl) ?_
   refine VL.no (by simp) rfl rfl (.inl rfl) ?_
   refine VL.no (by simp) rfl rfl (.inl rfl) ?_
   refine VL.no (by simp) rfl rfl (.inl rfl) ?_
   refine VL.no (by simp) rfl rfl (.inl rfl) ?_
   refine VL.no (by simp) rfl rfl (.inl rfl) ?_
   refine VL.no (by simp) rfl rfl (.inl rfl) ?_
   refine VL.q (Q.pick_false rfl rfl) ?_
   refine VL.q (Q.assign rfl) ?_
   refine VL.nil ?_
   refine VE.seq ?_
   refine VC.ret ?_
   refine VE.ret rfl (.tmp rfl .nil) () ?_ ?_ (List.nil_sublist _)
   ·
    trivial
   ·
    exact congrArg Value.bool (by rw [crcOk_eq]; simp_all)
 ·
  intro h15
  refine VL.no (by simp) rfl rfl (.inl rfl) ?_
  refine VL.no (by simp) rfl rfl (.inl rfl) ?_
  refine VL.no (by simp) rfl rfl (.inl rfl) ?_
  refine VL.no (by simp) rfl rfl (.inl rfl) ?_
  refine VL.no (by simp) rfl rfl (.inl rfl) ?_
  refine VL.no (by simp) rfl rfl (.inl rfl) ?_
  refine VL.no (by simp) rfl rfl (.inl rfl) ?_
  refine VL.q (Q.pick_false rfl rfl) ?_
  refine VL.q (Q.move rfl) ?_
  refine VL.no (by simp) rfl rfl (.inl rfl) ?_
  refine VL.no (by simp) rfl rfl (.inl rfl) ?_
  refine VL.no (by simp) rfl rfl (.inl rfl) ?_
  refine VL.no (by simp) rfl rfl (.inl rfl) ?_
  refine VL.no (by simp) rfl rfl (.inl rfl) ?_
  refine VL.no (by simp) rfl rfl (.inl rfl) ?_
  refine VL.no (by simp) rfl rfl (.inl rfl) ?_
  refine VL.q (Q.pick_false rfl rfl) ?_
  refine VL.q (Q.move rfl) ?_
  refine VL.no (by simp) rfl rfl (.inl rfl) ?_
  refine VL.no (by simp) rfl rfl (.inl rfl) ?_
  refine VL.no (by simp) rfl rfl (.inl rfl) ?_
  refine VL.no (by simp) rfl rfl (.inl rfl) ?_
  refine VL.no (by simp) rfl rfl (.inl rfl) ?_
  refine VL.no (by simp) rfl rfl (.inl rfl) ?_
  refine VL.q (Q.pick_false rfl rfl) ?_
  refine VL.q (Q.assign rfl) ?_
  refine VL.nil ?_
  refine VE.seq ?_
  refine VC.ret ?_
  refine VE.ret rfl (.tmp rfl .nil) () ?_ ?_ (List.nil_sublist _)
  ·
   trivial
  ·
   exact congrArg Value.bool (by rw [crcOk_eq]; simp_all)

theorem front_c (p : Option Addr) (n c : Nat) (l : List UInt8) (hn : l.length = n) (hl : n ≤ 1000000) (hc : n ≤ c) :
  Does Tryz.prog 153 [.slice p n c, .int .i64 4, .func (.func 154) #[] #[]] [] (fun W => Rd W p (bs l)) (X := Option Addr × Nat) (fun x => (verifyP l).1.length ≤ x.2) (fun x => .tuple #[.slice x.1 (verifyP l).1.length x.2, .int .i64 (verifyP l).2]) (fun x => [.row (.slice x.1 (verifyP l).1.length x.2) 5 1 (verifyP l).1.length (bs (verifyP l).1)]) := by
 subst hn
 refine Does.enter Tryz.func153 rfl (m := 30) rfl (by simp) ?_
 intro W0 hro
 refine VC.seq ?_
 refine VC.region ?_
 refine VL.q (Q.assign rfl) ?_
 refine VL.q (Q.assign rfl) ?_
 refine VL.nil ?_
 refine VE.seq ?_
 refine VC.seq ?_
 refine VC.seq ?_
 refine VC.region ?_
 refine VL.q (Q.move rfl) ?_
 refine VL.q (Q.len sl23 rfl) ?_
 refine VL.q (Q.move rfl) ?_
 refine VL.q (Q.lt rfl rfl) ?_
 refine VL.nil ?_
 refine VE.seq ?_
 refine VC.cond rfl ?_ ?_
 ·
  intro h12
  have hv : verifyP l = ([], 10) := by unfold verifyP; rw [if_pos (by have := of_decide_eq_true h12; omega)]
  refine VC.seq ?_
  refine VC.region ?_
  refine VL.q (Q.assign rfl) ?_
  refine VL.q (Q.assign rfl) ?_
  refine VL.nil ?_
  refine VE.seq ?_
  refine VC.ret ?_
  refine VE.then_ret ?_
  rw [hv]
  refine VK.addNil 5 1 ?_
  exact VE.ret rfl (.tmp rfl (.tmp rfl .nil)) (none, 0) (Nat.zero_le _) rfl (.cons_cons _ (List.nil_sublist _))
 ·
  intro h12
  have h4 : 4 ≤ l.length := by have := of_decide_eq_false h12; omega
  obtain ⟨b0, o0, rfl, _⟩ := hro 0 _ (bs_get l 0 (by omega))
  obtain ⟨q0, q1, q2, q3, hq⟩ := four (show (l.drop (l.length - 4)).length = 4 by simp; omega)
  refine VC.skip ?_
  refine VE.seq ?_
  refine VC.seq ?_
  refine VC.region ?_
  refine VL.q (Q.move rfl) ?_
  refine VL.q (Q.len sl23 rfl) ?_
  refine VL.q (Q.move rfl) ?_
  refine VL.q ((by first | exact Q.subI rfl rfl (by omega) (by omega) | exact Q.sub rfl rfl)) ?_
  refine VL.q (Q.assign rfl) ?_
  refine VL.nil ?_
  refine VE.seq ?_
  refine VC.seq ?_
  refine VC.seq ?_
  refine VA.start (Ls := []) (Cs := []) mixed ?_
  refine VA.take 0 rfl (by kernel_rfl) (by kernel_rfl) (by kernel_rfl) (Still.then (Still.then Still.body)) (List.Sublist.refl _) Cells.nil (by decide) (Quiet.c (Q.move rfl)) ?_
  refine VA.take 1 rfl (by kernel_rfl) (by kernel_rfl) (by kernel_rfl) (Still.then (Still.then Still.body)) (List.Sublist.refl _) Cells.nil (by decide) (Quiet.c (Q.move rfl)) ?_
  refine VA.take 2 rfl (by kernel_rfl) (by kernel_rfl) (by kernel_rfl) (Still.then (Still.then Still.body)) (List.Sublist.refl _) Cells.nil (by decide) (Quiet.c (Q.move rfl)) ?_
  refine VA.take 3 rfl (by kernel_rfl) (by kernel_rfl) (by kernel_rfl) (Still.then (Still.then Still.body)) (List.Sublist.refl _) Cells.nil (by decide) (Quiet.c (Q.slc0 sl23 (h := (l.length - 4)) rfl ⟨_, _, rfl, by omega⟩ (by omega))) ?_
  refine VA.take 4 rfl (by kernel_rfl) (by kernel_rfl) (by kernel_rfl) (Still.then (Still.then Still.body)) (List.Sublist.refl _) Cells.nil (by decide) (Quiet.c (Q.move rfl)) ?_
  refine VA.take 5 rfl (by kernel_rfl) (by kernel_rfl) (by kernel_rfl) (Still.then (Still.then Still.body)) (List.Sublist.refl _) Cells.nil (by decide) (Quiet.c (Q.move rfl)) ?_
  refine VA.take 6 rfl (by kernel_rfl) (by kernel_rfl) (by kernel_rfl) (Still.then (Still.then Still.body)) (List.Sublist.refl _) Cells.nil (by decide) (Quiet.c (Q.slcL sl23 (l := (l.length - 4)) (h := l.length) rfl ⟨_, _, rfl, by omega⟩ rfl (by omega) (by omega) (by omega))) ?_
  refine VA.all (rs := [7]) (by kernel_rfl) (by simp) ?_
  refine VA.forall1 ?_
  ·
   refine VA.eff rfl ?_
   have e4 : l.length - (l.length - 4) = 4 := by omega
   rw [e4]
   refine id (O.call0 ok154 rfl rfl (by decide) (vgood_c _ _ _ _ _ (l.take (l.length - 4)) q0 q1 q2 q3 (by simp) (by omega)) (fun _ ho _ => ⟨by rw [bs_take]; exact (hro.only0 ho).take _, by rw [← hq, bs_drop, Nat.mul_one]; exact (hro.only0 ho).drop _⟩) ?_)
   intro x24 y24
   refine VA.next (by repeat (first | exact List.Sublist.refl _ | apply List.Sublist.cons)) Cells.nil ?_
   refine VA.take 8 rfl (by kernel_rfl) (by kernel_rfl) (by kernel_rfl) (Still.then (Still.then Still.body)) (List.Sublist.refl _) Cells.nil (by decide) (Quiet.c (Q.not rfl)) ?_
   refine VA.done (by kernel_rfl) ?_
   refine VE.seq ?_
   refine VC.cond rfl ?_ ?_
   ·
    intro h25
    have hv : verifyP l = ([], 31) := by unfold verifyP; rw [if_neg (by omega), if_neg (by rw [hq]; simpa using h25)]
    refine VC.seq ?_
    refine VC.region ?_
    refine VL.q (Q.assign rfl) ?_
    refine VL.q (Q.assign rfl) ?_
    refine VL.nil ?_
    refine VE.seq ?_
    refine VC.ret ?_
    refine VE.then_ret ?_
    rw [hv]
    refine VK.addNil 5 1 ?_
    exact VE.ret rfl (.tmp rfl (.tmp rfl .nil)) (none, 0) (Nat.zero_le _) rfl (.cons_cons _ (List.nil_sublist _))
   ·
    intro h25
    have hv : verifyP l = (l.take (l.length - 4), 0) := by unfold verifyP; rw [if_neg (by omega), if_pos (by rw [hq]; simpa using h25)]
    refine VC.skip ?_
    refine VE.seq ?_
    refine VC.seq ?_
    refine VC.region ?_
    refine VL.q (Q.move rfl) ?_
    refine VL.q (Q.move rfl) ?_
    refine VL.q (Q.slc0 sl23 (h := (l.length - 4)) rfl ⟨_, _, rfl, by omega⟩ (by omega)) ?_
    refine VL.eff (O.call0 ok195 rfl rfl (by decide) (join_c _ _ _ _ _ _ (l.take (l.length - 4)) [] (by simp) rfl (by omega)) (fun _ ho _ => ⟨by rw [bs_take]; exact (hro.only0 ho).take _, Rd.nil⟩) ?_)
    intro x29 y29
    refine VL.q (Q.assign rfl) ?_
    refine VL.q (Q.assign rfl) ?_
    refine VL.nil ?_
    refine VE.seq ?_
    refine VC.ret ?_
    rw [hv]
    simp only [List.append_nil] at y29
    refine VE.ret rfl (.tmp rfl (.tmp rfl .nil)) x29 y29 (by simp [pack]) ?_
    simp only [List.append_nil]
    exact List.Sublist.refl _

theorem verify_c (p : Option Addr) (n c : Nat) (l : List UInt8) (hn : l.length = n) (hl : n ≤ 1000000) (hc : n ≤ c) :
  Does Tryz.prog 71 [.slice p n c] [] (fun W => Rd W p (bs l)) (X := Option Addr × Nat) (fun x => (verifyP l).1.length ≤ x.2) (fun x => .tuple #[.slice x.1 (verifyP l).1.length x.2, .int .i64 (verifyP l).2]) (fun x => [.row (.slice x.1 (verifyP l).1.length x.2) 5 1 (verifyP l).1.length (bs (verifyP l).1)]) := by
 refine Does.enter Tryz.func71 rfl (m := 8) rfl (by simp) ?_
 intro W0 hro
 refine VC.seq ?_
 refine VC.region ?_
 refine VL.q (Q.assign rfl) ?_
 refine VL.q (Q.assign rfl) ?_
 refine VL.nil ?_
 refine VE.seq ?_
 refine VC.seq ?_
 refine VC.region ?_
 refine VL.q (Q.move rfl) ?_
 refine VL.eff (O.call0 ok153 rfl rfl (by decide) (front_c _ _ _ l hn hl hc) (fun _ ho _ => hro.only0 ho) ?_)
 intro x5 y5
 refine VL.q (Q.extract rfl rfl) ?_
 refine VL.q (Q.extract rfl rfl) ?_
 refine VL.q (Q.assign rfl) ?_
 refine VL.q (Q.assign rfl) ?_
 refine VL.nil ?_
 refine VE.seq ?_
 refine VC.ret ?_
 refine VE.ret rfl (.tmp rfl (.tmp rfl .nil)) x5 ?_ ?_ (List.sublist_append_left _ _)
 ·
  exact y5
 ·
  first | rfl | (exfalso; simp at *; omega)

end Go.Proofs.YtencghlmckbmlaaGreat
