/- The contracts of package deferral. Conditions: those that each bears. -/
import Derived.Test.YtencghlmckbmlaaDoorRows
import Derived.Test.YtencghlmckbmlaaDoorHeader
namespace Go.Proofs.YtencghlmckbmlaaDoor
open Go Go.RowKit Go.Sx
set_option maxRecDepth 100000

theorem ar100 : tyArr Tryd.prog 100 = some (4, 3, 1) := by kernel_rfl
theorem eg118 : Tryd.prog.eqGuardType Tryd.prog.depth 118 = false := by kernel_rfl
theorem eg43 : Tryd.prog.eqGuardType Tryd.prog.depth 43 = false := by kernel_rfl
theorem fa46_0 : tyField Tryd.prog 46 0 = some 0 := by kernel_rfl
theorem fa46_1 : tyField Tryd.prog 46 1 = some 1 := by kernel_rfl
theorem flt118 : flat Tryd.prog 6 118 = some [.int .u8, .int .u8] := by kernel_rfl
theorem flt43 : flat Tryd.prog 6 43 = some [.int .u8, .int .u8, .int .u8, .int .u8, .int .u8, .int .u8] := by kernel_rfl
theorem lay118 : laysOf Tryd.prog 118 = some ([.int .u8 0, .int .u8 0], [(0, 1), (1, 1)]) := by kernel_rfl
theorem ok20 : okFunc Tryd.prog 20 = true := by kernel_rfl
theorem ok37 : okFunc Tryd.prog 37 = true := by kernel_rfl
theorem ok38 : okFunc Tryd.prog 38 = true := by kernel_rfl
theorem ok39 : okFunc Tryd.prog 39 = true := by kernel_rfl
theorem ok40 : okFunc Tryd.prog 40 = true := by kernel_rfl
theorem ty118 : tySz Tryd.prog 118 = some (true, 2) := by kernel_rfl
theorem ty46 : tySz Tryd.prog 46 = some (true, 2) := by kernel_rfl
theorem zo46 : tyZero Tryd.prog 46 = some [.int .i64 0, .int .i64 0] := by kernel_rfl

def untilP (u l : Int) : Int := if 0 < l then (if u < l then u else l) else u
def hearU (u l e d : Int) : Int := if e + d > (if e > untilP u l then 0 else u) then e + d else (if e > untilP u l then 0 else u)
def hearL (rts : Bool) (u l e d ans : Int) : Int := if e + d > (if e > untilP u l then 0 else u) then (if rts then (if (if e > untilP u l then 0 else u) < e + 32 + ans + 18 then e + 32 + ans + 18 else (if e > untilP u l then 0 else u)) else 0) else 0
def navOk (u l : Int) : Prop := (0 ≤ u ∧ u ≤ 2199023255552) ∧ 0 ≤ l ∧ l ≤ 2199023255552
theorem navEq {a b a' b' : Int} (h1 : a = a') (h2 : b = b') : pack [.agg [.int .i64 a, .int .i64 b].toArray, .int .i64 0] = .tuple #[.agg #[.int .i64 a', .int .i64 b'], .int .i64 0] := by rw [h1, h2]; rfl
theorem untilP_bd {u l : Int} (h : navOk u l) : 0 ≤ untilP u l ∧ untilP u l ≤ 2199023255552 := by
  obtain ⟨h1, h2⟩ := h
  unfold untilP
  split
  · split <;> omega
  · omega

theorem time_c (t : Int) (h : 0 ≤ t ∧ t ≤ 2199023255552) :
    Does Tryd.prog 40 [.int .i64 t] [] (fun _ => True) (X := Unit) (fun _ => True) (fun _ => .bool true) (fun _ => []) := by
  refine Does.enter Tryd.func40 rfl (m := 9) rfl (by simp) ?_
  intro W0 hro
  refine VC.seq ?_
  refine VC.region ?_
  refine VL.q (Q.assign rfl) ?_
  refine VL.nil ?_
  refine VE.seq ?_
  refine VC.seq ?_
  refine VC.region ?_
  refine VL.q (Q.move rfl) ?_
  refine VL.quietE (v' := .bool true) (by decide) (Q.ge rfl rfl) (congrArg Value.bool (decide_eq_true (by omega))) ?_
  refine VL.q (Q.move rfl) ?_
  refine VL.yes rfl rfl ?_
  refine VL.q (Q.move rfl) ?_
  refine VL.yes rfl rfl ?_
  refine VL.quietE (v' := .bool true) (by decide) (Q.le rfl rfl) (congrArg Value.bool (decide_eq_true (by omega))) ?_
  refine VL.quietE (v' := .bool true) (by decide) (Q.pick_true rfl rfl) (by rfl) ?_
  refine VL.q (Q.assign rfl) ?_
  refine VL.nil ?_
  refine VE.seq ?_
  refine VC.ret ?_
  refine VE.ret rfl (.tmp rfl .nil) () ?_ ?_ (List.nil_sublist _)
  · trivial
  · first | rfl | (exfalso; simp at *; omega)

theorem ncheck_c (u l : Int) (h : navOk u l) :
    Does Tryd.prog 37 [.agg #[.int .i64 u, .int .i64 l]] [] (fun _ => True) (X := Unit) (fun _ => True) (fun _ => .int .i64 0) (fun _ => []) := by
  obtain ⟨hu, hl⟩ := h
  refine Does.enter Tryd.func37 rfl (m := 13) rfl (by simp) ?_
  intro W0 hro
  refine VC.seq ?_
  refine VC.region ?_
  refine VL.eff (O.box rfl rfl (by decide) ?_)
  intro g1
  refine VL.q (Q.assign rfl) ?_
  refine VL.nil ?_
  refine VE.seq ?_
  refine VC.seq ?_
  refine VC.seq ?_
  refine VC.region ?_
  refine VL.q (Q.fieldAddr fa46_0 rfl) ?_
  refine VL.q (Q.load1 ty3 rfl zM rfl) ?_
  refine VL.eff (O.call0 ok40 rfl rfl (by decide) (time_c _ (by omega)) (fun _ _ _ => trivial) ?_)
  intro x5 y5
  refine VL.quietE (v' := .bool false) (by decide) (Q.not rfl) (by rfl) ?_
  refine VL.q (Q.move rfl) ?_
  refine VL.yes rfl rfl ?_
  refine VL.q (Q.fieldAddr fa46_1 rfl) ?_
  refine VL.yes rfl rfl ?_
  refine VL.q (Q.load1 ty3 rfl zM rfl) ?_
  refine VL.yes rfl rfl ?_
  refine VL.eff (O.call0 ok40 rfl rfl (by decide) (time_c _ (by omega)) (fun _ _ _ => trivial) ?_)
  intro x10 y10
  refine VL.yes rfl rfl ?_
  refine VL.quietE (v' := .bool false) (by decide) (Q.not rfl) (by rfl) ?_
  refine VL.quietE (v' := .bool false) (by decide) (Q.pick_false rfl rfl) (by rfl) ?_
  refine VL.nil ?_
  refine VE.seq ?_
  refine VC.condF rfl ?_
  refine VC.skip ?_
  refine VE.seq ?_
  refine VC.seq ?_
  refine VC.region ?_
  refine VL.q (Q.assign rfl) ?_
  refine VL.nil ?_
  refine VE.seq ?_
  refine VC.ret ?_
  refine VE.ret rfl (.tmp rfl .nil) () ?_ ?_ (List.nil_sublist _)
  · trivial
  · first | rfl | (exfalso; simp at *; omega)

theorem until_c (u l : Int) :
    Does Tryd.prog 38 [.agg #[.int .i64 u, .int .i64 l]] [] (fun _ => True) (X := Unit) (fun _ => True) (fun _ => .int .i64 (untilP u l)) (fun _ => []) := by
  refine Does.enter Tryd.func38 rfl (m := 13) rfl (by simp) ?_
  intro W0 hro
  refine VC.seq ?_
  refine VC.region ?_
  refine VL.eff (O.box rfl rfl (by decide) ?_)
  intro g1
  refine VL.q (Q.assign rfl) ?_
  refine VL.nil ?_
  refine VE.seq ?_
  refine VC.seq ?_
  refine VC.seq ?_
  refine VC.region ?_
  refine VL.q (Q.fieldAddr fa46_1 rfl) ?_
  refine VL.q (Q.load1 ty3 rfl zM rfl) ?_
  refine VL.q (Q.gt rfl rfl) ?_
  refine VL.nil ?_
  refine VE.seq ?_
  refine VC.cond rfl ?_ ?_
  · intro h5
    refine VC.seq ?_
    refine VC.region ?_
    refine VL.q (Q.fieldAddr fa46_1 rfl) ?_
    refine VL.q (Q.load1 ty3 rfl zM rfl) ?_
    refine VL.q (Q.fieldAddr fa46_0 rfl) ?_
    refine VL.q (Q.load1 ty3 rfl zM rfl) ?_
    refine VL.q (Q.min2 rfl rfl) ?_
    refine VL.q (Q.assign rfl) ?_
    refine VL.nil ?_
    refine VE.seq ?_
    refine VC.ret ?_
    refine VE.then_ret ?_
    refine VE.ret rfl (.tmp rfl .nil) () ?_ ?_ (List.nil_sublist _)
    · trivial
    · exact congrArg (Value.int .i64) (by unfold untilP; simp only [decide_eq_true_eq, decide_eq_false_iff_not] at h5; (repeat' split) <;> first | rfl | omega)
  · intro h5
    refine VC.skip ?_
    refine VE.seq ?_
    refine VC.seq ?_
    refine VC.region ?_
    refine VL.q (Q.fieldAddr fa46_0 rfl) ?_
    refine VL.q (Q.load1 ty3 rfl zM rfl) ?_
    refine VL.q (Q.assign rfl) ?_
    refine VL.nil ?_
    refine VE.seq ?_
    refine VC.ret ?_
    refine VE.ret rfl (.tmp rfl .nil) () ?_ ?_ (List.nil_sublist _)
    · trivial
    · exact congrArg (Value.int .i64) (by unfold untilP; simp only [decide_eq_true_eq, decide_eq_false_iff_not] at h5; (repeat' split) <;> first | rfl | omega)

theorem request_rts (D : Nat) :
    Does Tryd.prog 39 [.agg #[.int .u8 1, .int .u8 11, .bool false, .bool false, .bool false, .bool false, .bool false, .bool false, .bool false, .int .i64 (D : Int), .int .u8 2, .int .u8 0, .int .u8 0, .int .u8 0, .int .u8 0, .int .u8 1, .int .u8 2, .int .u8 0, .int .u8 0, .int .u8 0, .int .u8 0, .int .u8 2, .int .u8 0, .int .u8 0, .int .u8 0, .int .u8 0, .int .u8 0, .int .u8 0, .int .u8 0, .int .u8 0, .int .u8 0, .int .u8 0, .int .u8 0, .int .u8 0, .int .i64 0, .int .i64 0, .int .i64 0, .int .u8 0, .bool false, .bool false]] [] (fun _ => True) (X := Unit) (fun _ => True) (fun _ => .bool true) (fun _ => []) := by
  refine Does.enter Tryd.func39 rfl (m := 10) rfl (by simp) ?_
  intro W0 hro
  refine VC.seq ?_
  refine VC.region ?_
  refine VL.eff (O.box rfl rfl (by decide) ?_)
  intro g1
  refine VL.q (Q.assign rfl) ?_
  refine VL.nil ?_
  refine VE.seq ?_
  refine VC.seq ?_
  refine VC.region ?_
  refine VL.q (Q.fieldAddr fa50_0 rfl) ?_
  refine VL.q (Q.load1 ty5 rfl zM rfl) ?_
  refine VL.q (Q.fieldAddr fa50_1 rfl) ?_
  refine VL.q (Q.load1 ty5 rfl zM rfl) ?_
  refine VL.q (Q.build lay118 zF) ?_
  refine VL.q (Q.build lay118 zF) ?_
  refine VL.quietE (v' := .bool true) (by decide) (Q.eqS flt118 (by decide) ty118 eg118 rfl rfl rfl rfl) (by rfl) ?_
  refine VL.q (Q.assign rfl) ?_
  refine VL.nil ?_
  refine VE.seq ?_
  refine VC.ret ?_
  refine VE.ret rfl (.tmp rfl .nil) () ?_ ?_ (List.nil_sublist _)
  · trivial
  · first | rfl | (exfalso; simp at *; omega)

theorem request_cts (D : Nat) :
    Does Tryd.prog 39 [.agg #[.int .u8 1, .int .u8 12, .bool false, .bool false, .bool false, .bool false, .bool false, .bool false, .bool false, .int .i64 (D : Int), .int .u8 2, .int .u8 0, .int .u8 0, .int .u8 0, .int .u8 0, .int .u8 2, .int .u8 0, .int .u8 0, .int .u8 0, .int .u8 0, .int .u8 0, .int .u8 0, .int .u8 0, .int .u8 0, .int .u8 0, .int .u8 0, .int .u8 0, .int .u8 0, .int .u8 0, .int .u8 0, .int .u8 0, .int .u8 0, .int .u8 0, .int .u8 0, .int .i64 0, .int .i64 0, .int .i64 0, .int .u8 0, .bool false, .bool false]] [] (fun _ => True) (X := Unit) (fun _ => True) (fun _ => .bool false) (fun _ => []) := by
  refine Does.enter Tryd.func39 rfl (m := 10) rfl (by simp) ?_
  intro W0 hro
  refine VC.seq ?_
  refine VC.region ?_
  refine VL.eff (O.box rfl rfl (by decide) ?_)
  intro g1
  refine VL.q (Q.assign rfl) ?_
  refine VL.nil ?_
  refine VE.seq ?_
  refine VC.seq ?_
  refine VC.region ?_
  refine VL.q (Q.fieldAddr fa50_0 rfl) ?_
  refine VL.q (Q.load1 ty5 rfl zM rfl) ?_
  refine VL.q (Q.fieldAddr fa50_1 rfl) ?_
  refine VL.q (Q.load1 ty5 rfl zM rfl) ?_
  refine VL.q (Q.build lay118 zF) ?_
  refine VL.q (Q.build lay118 zF) ?_
  refine VL.quietE (v' := .bool false) (by decide) (Q.eqS flt118 (by decide) ty118 eg118 rfl rfl rfl rfl) (by rfl) ?_
  refine VL.q (Q.assign rfl) ?_
  refine VL.nil ?_
  refine VE.seq ?_
  refine VC.ret ?_
  refine VE.ret rfl (.tmp rfl .nil) () ?_ ?_ (List.nil_sublist _)
  · trivial
  · first | rfl | (exfalso; simp at *; omega)

theorem request_data (D : Nat) :
    Does Tryd.prog 39 [.agg #[.int .u8 2, .int .u8 8, .bool false, .bool false, .bool false, .bool false, .bool false, .bool false, .bool false, .int .i64 (D : Int), .int .u8 2, .int .u8 0, .int .u8 0, .int .u8 0, .int .u8 0, .int .u8 1, .int .u8 2, .int .u8 0, .int .u8 0, .int .u8 0, .int .u8 0, .int .u8 2, .int .u8 0, .int .u8 0, .int .u8 0, .int .u8 0, .int .u8 0, .int .u8 0, .int .u8 0, .int .u8 0, .int .u8 0, .int .u8 0, .int .u8 0, .int .u8 0, .int .i64 0, .int .i64 0, .int .i64 0, .int .u8 0, .bool false, .bool false]] [] (fun _ => True) (X := Unit) (fun _ => True) (fun _ => .bool false) (fun _ => []) := by
  refine Does.enter Tryd.func39 rfl (m := 10) rfl (by simp) ?_
  intro W0 hro
  refine VC.seq ?_
  refine VC.region ?_
  refine VL.eff (O.box rfl rfl (by decide) ?_)
  intro g1
  refine VL.q (Q.assign rfl) ?_
  refine VL.nil ?_
  refine VE.seq ?_
  refine VC.seq ?_
  refine VC.region ?_
  refine VL.q (Q.fieldAddr fa50_0 rfl) ?_
  refine VL.q (Q.load1 ty5 rfl zM rfl) ?_
  refine VL.q (Q.fieldAddr fa50_1 rfl) ?_
  refine VL.q (Q.load1 ty5 rfl zM rfl) ?_
  refine VL.q (Q.build lay118 zF) ?_
  refine VL.q (Q.build lay118 zF) ?_
  refine VL.quietE (v' := .bool false) (by decide) (Q.eqS flt118 (by decide) ty118 eg118 rfl rfl rfl rfl) (by rfl) ?_
  refine VL.q (Q.assign rfl) ?_
  refine VL.nil ?_
  refine VE.seq ?_
  refine VC.ret ?_
  refine VE.ret rfl (.tmp rfl .nil) () ?_ ?_ (List.nil_sublist _)
  · trivial
  · first | rfl | (exfalso; simp at *; omega)

theorem request_ack (D : Nat) :
    Does Tryd.prog 39 [.agg #[.int .u8 1, .int .u8 13, .bool false, .bool false, .bool false, .bool false, .bool false, .bool false, .bool false, .int .i64 (D : Int), .int .u8 2, .int .u8 0, .int .u8 0, .int .u8 0, .int .u8 0, .int .u8 2, .int .u8 0, .int .u8 0, .int .u8 0, .int .u8 0, .int .u8 0, .int .u8 0, .int .u8 0, .int .u8 0, .int .u8 0, .int .u8 0, .int .u8 0, .int .u8 0, .int .u8 0, .int .u8 0, .int .u8 0, .int .u8 0, .int .u8 0, .int .u8 0, .int .i64 0, .int .i64 0, .int .i64 0, .int .u8 0, .bool false, .bool false]] [] (fun _ => True) (X := Unit) (fun _ => True) (fun _ => .bool false) (fun _ => []) := by
  refine Does.enter Tryd.func39 rfl (m := 10) rfl (by simp) ?_
  intro W0 hro
  refine VC.seq ?_
  refine VC.region ?_
  refine VL.eff (O.box rfl rfl (by decide) ?_)
  intro g1
  refine VL.q (Q.assign rfl) ?_
  refine VL.nil ?_
  refine VE.seq ?_
  refine VC.seq ?_
  refine VC.region ?_
  refine VL.q (Q.fieldAddr fa50_0 rfl) ?_
  refine VL.q (Q.load1 ty5 rfl zM rfl) ?_
  refine VL.q (Q.fieldAddr fa50_1 rfl) ?_
  refine VL.q (Q.load1 ty5 rfl zM rfl) ?_
  refine VL.q (Q.build lay118 zF) ?_
  refine VL.q (Q.build lay118 zF) ?_
  refine VL.quietE (v' := .bool false) (by decide) (Q.eqS flt118 (by decide) ty118 eg118 rfl rfl rfl rfl) (by rfl) ?_
  refine VL.q (Q.assign rfl) ?_
  refine VL.nil ?_
  refine VE.seq ?_
  refine VC.ret ?_
  refine VE.ret rfl (.tmp rfl .nil) () ?_ ?_ (List.nil_sublist _)
  · trivial
  · first | rfl | (exfalso; simp at *; omega)

theorem request_bar (D : Nat) :
    Does Tryd.prog 39 [.agg #[.int .u8 1, .int .u8 8, .bool false, .bool false, .bool false, .bool false, .bool false, .bool false, .bool false, .int .i64 (D : Int), .int .u8 2, .int .u8 0, .int .u8 0, .int .u8 0, .int .u8 0, .int .u8 1, .int .u8 2, .int .u8 0, .int .u8 0, .int .u8 0, .int .u8 0, .int .u8 2, .int .u8 0, .int .u8 0, .int .u8 0, .int .u8 0, .int .u8 0, .int .u8 0, .int .u8 0, .int .u8 0, .int .u8 0, .int .u8 0, .int .u8 0, .int .u8 0, .int .i64 0, .int .i64 0, .int .i64 0, .int .u8 0, .bool false, .bool false]] [] (fun _ => True) (X := Unit) (fun _ => True) (fun _ => .bool false) (fun _ => []) := by
  refine Does.enter Tryd.func39 rfl (m := 10) rfl (by simp) ?_
  intro W0 hro
  refine VC.seq ?_
  refine VC.region ?_
  refine VL.eff (O.box rfl rfl (by decide) ?_)
  intro g1
  refine VL.q (Q.assign rfl) ?_
  refine VL.nil ?_
  refine VE.seq ?_
  refine VC.seq ?_
  refine VC.region ?_
  refine VL.q (Q.fieldAddr fa50_0 rfl) ?_
  refine VL.q (Q.load1 ty5 rfl zM rfl) ?_
  refine VL.q (Q.fieldAddr fa50_1 rfl) ?_
  refine VL.q (Q.load1 ty5 rfl zM rfl) ?_
  refine VL.q (Q.build lay118 zF) ?_
  refine VL.q (Q.build lay118 zF) ?_
  refine VL.quietE (v' := .bool false) (by decide) (Q.eqS flt118 (by decide) ty118 eg118 rfl rfl rfl rfl) (by rfl) ?_
  refine VL.q (Q.assign rfl) ?_
  refine VL.nil ?_
  refine VE.seq ?_
  refine VC.ret ?_
  refine VE.ret rfl (.tmp rfl .nil) () ?_ ?_ (List.nil_sublist _)
  · trivial
  · first | rfl | (exfalso; simp at *; omega)

theorem request_back (D : Nat) :
    Does Tryd.prog 39 [.agg #[.int .u8 1, .int .u8 9, .bool false, .bool false, .bool false, .bool false, .bool false, .bool false, .bool false, .int .i64 (D : Int), .int .u8 2, .int .u8 0, .int .u8 0, .int .u8 0, .int .u8 0, .int .u8 2, .int .u8 2, .int .u8 0, .int .u8 0, .int .u8 0, .int .u8 0, .int .u8 1, .int .u8 0, .int .u8 0, .int .u8 0, .int .u8 0, .int .u8 0, .int .u8 0, .int .u8 0, .int .u8 0, .int .u8 0, .int .u8 0, .int .u8 0, .int .u8 0, .int .i64 0, .int .i64 0, .int .i64 0, .int .u8 0, .bool false, .bool false]] [] (fun _ => True) (X := Unit) (fun _ => True) (fun _ => .bool false) (fun _ => []) := by
  refine Does.enter Tryd.func39 rfl (m := 10) rfl (by simp) ?_
  intro W0 hro
  refine VC.seq ?_
  refine VC.region ?_
  refine VL.eff (O.box rfl rfl (by decide) ?_)
  intro g1
  refine VL.q (Q.assign rfl) ?_
  refine VL.nil ?_
  refine VE.seq ?_
  refine VC.seq ?_
  refine VC.region ?_
  refine VL.q (Q.fieldAddr fa50_0 rfl) ?_
  refine VL.q (Q.load1 ty5 rfl zM rfl) ?_
  refine VL.q (Q.fieldAddr fa50_1 rfl) ?_
  refine VL.q (Q.load1 ty5 rfl zM rfl) ?_
  refine VL.q (Q.build lay118 zF) ?_
  refine VL.q (Q.build lay118 zF) ?_
  refine VL.quietE (v' := .bool false) (by decide) (Q.eqS flt118 (by decide) ty118 eg118 rfl rfl rfl rfl) (by rfl) ?_
  refine VL.q (Q.assign rfl) ?_
  refine VL.nil ?_
  refine VE.seq ?_
  refine VC.ret ?_
  refine VE.ret rfl (.tmp rfl .nil) () ?_ ?_ (List.nil_sublist _)
  · trivial
  · first | rfl | (exfalso; simp at *; omega)

theorem own_rts (D : Nat) (hD : D ≤ 32767) (e ans : Int) (he : 0 ≤ e ∧ e ≤ 1099511627776) (ha : 0 ≤ ans ∧ ans ≤ 32767) :
    Does Tryd.prog 17 [.agg #[.int .i64 0, .int .i64 0], .agg #[.int .u8 2, .int .u8 0, .int .u8 0, .int .u8 0, .int .u8 0, .int .u8 1], .agg #[.int .u8 1, .int .u8 11, .bool false, .bool false, .bool false, .bool false, .bool false, .bool false, .bool false, .int .i64 (D : Int), .int .u8 2, .int .u8 0, .int .u8 0, .int .u8 0, .int .u8 0, .int .u8 1, .int .u8 2, .int .u8 0, .int .u8 0, .int .u8 0, .int .u8 0, .int .u8 2, .int .u8 0, .int .u8 0, .int .u8 0, .int .u8 0, .int .u8 0, .int .u8 0, .int .u8 0, .int .u8 0, .int .u8 0, .int .u8 0, .int .u8 0, .int .u8 0, .int .i64 0, .int .i64 0, .int .i64 0, .int .u8 0, .bool false, .bool false], .int .i64 e, .int .i64 ans] [] (fun _ => True) (X := Unit) (fun _ => True) (fun _ => .tuple #[.agg #[.int .i64 0, .int .i64 0], .int .i64 0]) (fun _ => []) := by
  have hn : navOk 0 0 := ⟨by omega, by omega⟩
  refine Does.enter Tryd.func17 rfl (m := 79) rfl (by simp) ?_
  intro W0 hro
  refine VC.seq ?_
  refine VC.region ?_
  refine VL.eff (O.box rfl rfl (by decide) ?_)
  intro g5
  refine VL.eff (O.box rfl rfl (by decide) ?_)
  intro g6
  refine VL.eff (O.box rfl rfl (by decide) ?_)
  intro g7
  refine VL.eff (O.alloc zo46 (by decide) ?_)
  intro g10
  refine VL.q (Q.assign rfl) ?_
  refine VL.nil ?_
  refine VE.seq ?_
  refine VC.seq ?_
  refine VC.seq ?_
  refine VC.region ?_
  refine VL.q (Q.loadA ty46 rfl zM zS) ?_
  refine VL.eff (O.call0 ok37 rfl rfl (by decide) (ncheck_c _ _ hn) (fun _ _ _ => trivial) ?_)
  intro x15 y15
  refine VL.q (Q.assign rfl) ?_
  refine VL.nil ?_
  refine VE.seq ?_
  refine VC.seq ?_
  refine VC.region ?_
  refine VL.q (Q.move rfl) ?_
  refine VL.quietE (v' := .bool false) (by decide) (Q.ne rfl rfl) (by rfl) ?_
  refine VL.nil ?_
  refine VE.seq ?_
  refine VC.condF rfl ?_
  refine VC.skip ?_
  refine VE.seq ?_
  refine VC.seq ?_
  refine VC.seq ?_
  refine VC.region ?_
  refine VL.q (Q.move rfl) ?_
  refine VL.quietE (v' := .bool false) (by decide) (Q.lt rfl rfl) (congrArg Value.bool (decide_eq_false (by omega))) ?_
  refine VL.q (Q.move rfl) ?_
  refine VL.yes rfl rfl ?_
  refine VL.q (Q.move rfl) ?_
  refine VL.yes rfl rfl ?_
  refine VL.quietE (v' := .bool false) (by decide) (Q.gt rfl rfl) (congrArg Value.bool (decide_eq_false (by omega))) ?_
  refine VL.quietE (v' := .bool false) (by decide) (Q.pick_false rfl rfl) (by rfl) ?_
  refine VL.q (Q.move rfl) ?_
  refine VL.yes rfl rfl ?_
  refine VL.q (Q.fieldAddr fa50_9 rfl) ?_
  refine VL.yes rfl rfl ?_
  refine VL.q (Q.load1 ty3 rfl zM rfl) ?_
  refine VL.yes rfl rfl ?_
  refine VL.quietE (v' := .bool false) (by decide) (Q.lt rfl rfl) (congrArg Value.bool (decide_eq_false (by omega))) ?_
  refine VL.quietE (v' := .bool false) (by decide) (Q.pick_false rfl rfl) (by rfl) ?_
  refine VL.q (Q.move rfl) ?_
  refine VL.yes rfl rfl ?_
  refine VL.q (Q.fieldAddr fa50_9 rfl) ?_
  refine VL.yes rfl rfl ?_
  refine VL.q (Q.load1 ty3 rfl zM rfl) ?_
  refine VL.yes rfl rfl ?_
  refine VL.quietE (v' := .bool false) (by decide) (Q.gt rfl rfl) (congrArg Value.bool (decide_eq_false (by omega))) ?_
  refine VL.quietE (v' := .bool false) (by decide) (Q.pick_false rfl rfl) (by rfl) ?_
  refine VL.q (Q.move rfl) ?_
  refine VL.yes rfl rfl ?_
  refine VL.q (Q.move rfl) ?_
  refine VL.yes rfl rfl ?_
  refine VL.quietE (v' := .bool false) (by decide) (Q.lt rfl rfl) (congrArg Value.bool (decide_eq_false (by omega))) ?_
  refine VL.quietE (v' := .bool false) (by decide) (Q.pick_false rfl rfl) (by rfl) ?_
  refine VL.q (Q.move rfl) ?_
  refine VL.yes rfl rfl ?_
  refine VL.q (Q.move rfl) ?_
  refine VL.yes rfl rfl ?_
  refine VL.quietE (v' := .bool false) (by decide) (Q.gt rfl rfl) (congrArg Value.bool (decide_eq_false (by omega))) ?_
  refine VL.quietE (v' := .bool false) (by decide) (Q.pick_false rfl rfl) (by rfl) ?_
  refine VL.nil ?_
  refine VE.seq ?_
  refine VC.condF rfl ?_
  refine VC.skip ?_
  refine VE.seq ?_
  refine VC.seq ?_
  refine VC.seq ?_
  refine VC.region ?_
  refine VL.q (Q.move rfl) ?_
  refine VL.q (Q.loadA ty46 rfl zM zS) ?_
  refine VL.eff (O.call0 ok38 rfl rfl (by decide) (until_c _ _) (fun _ _ _ => trivial) ?_)
  intro x47 y47
  refine VL.q (Q.gt rfl rfl) ?_
  refine VL.nil ?_
  refine VE.seq ?_
  refine VC.cond rfl ?_ ?_
  · intro h48
    refine VK.keep (by exact .cons (i := 3) rfl (.cons (i := 4) rfl (.cons (i := 5) rfl (.cons (i := 6) rfl (.cons (i := 7) rfl (.cons (i := 10) rfl (.cons (i := 11) rfl ( .nil)))))))) ?_
    refine VC.region ?_
    refine VL.q (Q.fieldAddr fa46_0 rfl) ?_
    refine VL.eff (O.store ty3 rfl rfl rfl rfl zU zP ?_)
    refine VL.nil ?_
    refine VE.seq ?_
    refine VC.seq ?_
    refine VC.region ?_
    refine VL.q (Q.fieldAddr fa46_1 rfl) ?_
    refine VL.eff (O.store ty3 rfl rfl rfl rfl zU zP ?_)
    refine VL.nil ?_
    refine VE.seq ?_
    refine VC.seq ?_
    refine VC.seq ?_
    refine VC.region ?_
    refine VL.q (Q.move rfl) ?_
    refine VL.q (Q.fieldAddr fa50_9 rfl) ?_
    refine VL.q (Q.load1 ty3 rfl zM rfl) ?_
    refine VL.q ((by first | exact Q.addI rfl rfl (by omega) (by omega) | exact Q.add rfl rfl)) ?_
    refine VL.q (Q.assign rfl) ?_
    refine VL.nil ?_
    refine VE.seq ?_
    refine VC.seq ?_
    refine VC.region ?_
    refine VL.q (Q.fieldAddr fa50_10 rfl) ?_
    refine VL.q (Q.loadA ty43 rfl zM zS) ?_
    refine VL.q (Q.loadA ty43 rfl zM zS) ?_
    refine VL.quietE (v' := .bool false) (by decide) (Q.neS flt43 (by decide) ty43 eg43 rfl rfl rfl rfl) (by rfl) ?_
    refine VL.q (Q.move rfl) ?_
    refine VL.no (by simp) rfl rfl (.inl rfl) ?_
    refine VL.no (by simp) rfl rfl (.inl rfl) ?_
    refine VL.no (by simp) rfl rfl (.inl rfl) ?_
    refine VL.no (by simp) rfl rfl (.inl rfl) ?_
    refine VL.quietE (v' := .bool false) (by decide) (Q.pick_false rfl rfl) (by rfl) ?_
    refine VL.nil ?_
    refine VE.seq ?_
    refine VC.condF rfl ?_
    refine VC.skip ?_
    refine VE.seq ?_
    refine VC.seq ?_
    refine VC.region ?_
    refine VL.q (Q.loadA ty46 rfl zM zS) ?_
    refine VL.eff (O.store ty46 rfl rfl rfl rfl zU zP ?_)
    refine VL.q (Q.assign rfl) ?_
    refine VL.nil ?_
    refine VE.seq ?_
    refine VC.ret ?_
    refine VE.ret rfl (.cell ty46 rfl zM rfl (.tmp rfl .nil)) () ?_ ?_ (List.nil_sublist _)
    · trivial
    · first | rfl | (exfalso; simp at *; omega)
  · intro h48
    refine VC.skip ?_
    refine VE.seq ?_
    refine VC.seq ?_
    refine VK.keep (by exact .cons (i := 3) rfl (.cons (i := 4) rfl (.cons (i := 5) rfl (.cons (i := 6) rfl (.cons (i := 7) rfl (.cons (i := 10) rfl (.cons (i := 11) rfl ( .nil)))))))) ?_
    refine VC.region ?_
    refine VL.q (Q.fieldAddr fa46_1 rfl) ?_
    refine VL.eff (O.store ty3 rfl rfl rfl rfl zU zP ?_)
    refine VL.nil ?_
    refine VE.seq ?_
    refine VC.seq ?_
    refine VC.seq ?_
    refine VC.region ?_
    refine VL.q (Q.move rfl) ?_
    refine VL.q (Q.fieldAddr fa50_9 rfl) ?_
    refine VL.q (Q.load1 ty3 rfl zM rfl) ?_
    refine VL.q ((by first | exact Q.addI rfl rfl (by omega) (by omega) | exact Q.add rfl rfl)) ?_
    refine VL.q (Q.assign rfl) ?_
    refine VL.nil ?_
    refine VE.seq ?_
    refine VC.seq ?_
    refine VC.region ?_
    refine VL.q (Q.fieldAddr fa50_10 rfl) ?_
    refine VL.q (Q.loadA ty43 rfl zM zS) ?_
    refine VL.q (Q.loadA ty43 rfl zM zS) ?_
    refine VL.quietE (v' := .bool false) (by decide) (Q.neS flt43 (by decide) ty43 eg43 rfl rfl rfl rfl) (by rfl) ?_
    refine VL.q (Q.move rfl) ?_
    refine VL.no (by simp) rfl rfl (.inl rfl) ?_
    refine VL.no (by simp) rfl rfl (.inl rfl) ?_
    refine VL.no (by simp) rfl rfl (.inl rfl) ?_
    refine VL.no (by simp) rfl rfl (.inl rfl) ?_
    refine VL.quietE (v' := .bool false) (by decide) (Q.pick_false rfl rfl) (by rfl) ?_
    refine VL.nil ?_
    refine VE.seq ?_
    refine VC.condF rfl ?_
    refine VC.skip ?_
    refine VE.seq ?_
    refine VC.seq ?_
    refine VC.region ?_
    refine VL.q (Q.loadA ty46 rfl zM zS) ?_
    refine VL.eff (O.store ty46 rfl rfl rfl rfl zU zP ?_)
    refine VL.q (Q.assign rfl) ?_
    refine VL.nil ?_
    refine VE.seq ?_
    refine VC.ret ?_
    refine VE.ret rfl (.cell ty46 rfl zM rfl (.tmp rfl .nil)) () ?_ ?_ (List.nil_sublist _)
    · trivial
    · first | rfl | (exfalso; simp at *; omega)

theorem own_cts (D : Nat) (hD : D ≤ 32767) (e ans : Int) (he : 0 ≤ e ∧ e ≤ 1099511627776) (ha : 0 ≤ ans ∧ ans ≤ 32767) :
    Does Tryd.prog 17 [.agg #[.int .i64 0, .int .i64 0], .agg #[.int .u8 2, .int .u8 0, .int .u8 0, .int .u8 0, .int .u8 0, .int .u8 2], .agg #[.int .u8 1, .int .u8 12, .bool false, .bool false, .bool false, .bool false, .bool false, .bool false, .bool false, .int .i64 (D : Int), .int .u8 2, .int .u8 0, .int .u8 0, .int .u8 0, .int .u8 0, .int .u8 2, .int .u8 0, .int .u8 0, .int .u8 0, .int .u8 0, .int .u8 0, .int .u8 0, .int .u8 0, .int .u8 0, .int .u8 0, .int .u8 0, .int .u8 0, .int .u8 0, .int .u8 0, .int .u8 0, .int .u8 0, .int .u8 0, .int .u8 0, .int .u8 0, .int .i64 0, .int .i64 0, .int .i64 0, .int .u8 0, .bool false, .bool false], .int .i64 e, .int .i64 ans] [] (fun _ => True) (X := Unit) (fun _ => True) (fun _ => .tuple #[.agg #[.int .i64 0, .int .i64 0], .int .i64 0]) (fun _ => []) := by
  have hn : navOk 0 0 := ⟨by omega, by omega⟩
  refine Does.enter Tryd.func17 rfl (m := 79) rfl (by simp) ?_
  intro W0 hro
  refine VC.seq ?_
  refine VC.region ?_
  refine VL.eff (O.box rfl rfl (by decide) ?_)
  intro g5
  refine VL.eff (O.box rfl rfl (by decide) ?_)
  intro g6
  refine VL.eff (O.box rfl rfl (by decide) ?_)
  intro g7
  refine VL.eff (O.alloc zo46 (by decide) ?_)
  intro g10
  refine VL.q (Q.assign rfl) ?_
  refine VL.nil ?_
  refine VE.seq ?_
  refine VC.seq ?_
  refine VC.seq ?_
  refine VC.region ?_
  refine VL.q (Q.loadA ty46 rfl zM zS) ?_
  refine VL.eff (O.call0 ok37 rfl rfl (by decide) (ncheck_c _ _ hn) (fun _ _ _ => trivial) ?_)
  intro x15 y15
  refine VL.q (Q.assign rfl) ?_
  refine VL.nil ?_
  refine VE.seq ?_
  refine VC.seq ?_
  refine VC.region ?_
  refine VL.q (Q.move rfl) ?_
  refine VL.quietE (v' := .bool false) (by decide) (Q.ne rfl rfl) (by rfl) ?_
  refine VL.nil ?_
  refine VE.seq ?_
  refine VC.condF rfl ?_
  refine VC.skip ?_
  refine VE.seq ?_
  refine VC.seq ?_
  refine VC.seq ?_
  refine VC.region ?_
  refine VL.q (Q.move rfl) ?_
  refine VL.quietE (v' := .bool false) (by decide) (Q.lt rfl rfl) (congrArg Value.bool (decide_eq_false (by omega))) ?_
  refine VL.q (Q.move rfl) ?_
  refine VL.yes rfl rfl ?_
  refine VL.q (Q.move rfl) ?_
  refine VL.yes rfl rfl ?_
  refine VL.quietE (v' := .bool false) (by decide) (Q.gt rfl rfl) (congrArg Value.bool (decide_eq_false (by omega))) ?_
  refine VL.quietE (v' := .bool false) (by decide) (Q.pick_false rfl rfl) (by rfl) ?_
  refine VL.q (Q.move rfl) ?_
  refine VL.yes rfl rfl ?_
  refine VL.q (Q.fieldAddr fa50_9 rfl) ?_
  refine VL.yes rfl rfl ?_
  refine VL.q (Q.load1 ty3 rfl zM rfl) ?_
  refine VL.yes rfl rfl ?_
  refine VL.quietE (v' := .bool false) (by decide) (Q.lt rfl rfl) (congrArg Value.bool (decide_eq_false (by omega))) ?_
  refine VL.quietE (v' := .bool false) (by decide) (Q.pick_false rfl rfl) (by rfl) ?_
  refine VL.q (Q.move rfl) ?_
  refine VL.yes rfl rfl ?_
  refine VL.q (Q.fieldAddr fa50_9 rfl) ?_
  refine VL.yes rfl rfl ?_
  refine VL.q (Q.load1 ty3 rfl zM rfl) ?_
  refine VL.yes rfl rfl ?_
  refine VL.quietE (v' := .bool false) (by decide) (Q.gt rfl rfl) (congrArg Value.bool (decide_eq_false (by omega))) ?_
  refine VL.quietE (v' := .bool false) (by decide) (Q.pick_false rfl rfl) (by rfl) ?_
  refine VL.q (Q.move rfl) ?_
  refine VL.yes rfl rfl ?_
  refine VL.q (Q.move rfl) ?_
  refine VL.yes rfl rfl ?_
  refine VL.quietE (v' := .bool false) (by decide) (Q.lt rfl rfl) (congrArg Value.bool (decide_eq_false (by omega))) ?_
  refine VL.quietE (v' := .bool false) (by decide) (Q.pick_false rfl rfl) (by rfl) ?_
  refine VL.q (Q.move rfl) ?_
  refine VL.yes rfl rfl ?_
  refine VL.q (Q.move rfl) ?_
  refine VL.yes rfl rfl ?_
  refine VL.quietE (v' := .bool false) (by decide) (Q.gt rfl rfl) (congrArg Value.bool (decide_eq_false (by omega))) ?_
  refine VL.quietE (v' := .bool false) (by decide) (Q.pick_false rfl rfl) (by rfl) ?_
  refine VL.nil ?_
  refine VE.seq ?_
  refine VC.condF rfl ?_
  refine VC.skip ?_
  refine VE.seq ?_
  refine VC.seq ?_
  refine VC.seq ?_
  refine VC.region ?_
  refine VL.q (Q.move rfl) ?_
  refine VL.q (Q.loadA ty46 rfl zM zS) ?_
  refine VL.eff (O.call0 ok38 rfl rfl (by decide) (until_c _ _) (fun _ _ _ => trivial) ?_)
  intro x47 y47
  refine VL.q (Q.gt rfl rfl) ?_
  refine VL.nil ?_
  refine VE.seq ?_
  refine VC.cond rfl ?_ ?_
  · intro h48
    refine VK.keep (by exact .cons (i := 3) rfl (.cons (i := 4) rfl (.cons (i := 5) rfl (.cons (i := 6) rfl (.cons (i := 7) rfl (.cons (i := 10) rfl (.cons (i := 11) rfl ( .nil)))))))) ?_
    refine VC.region ?_
    refine VL.q (Q.fieldAddr fa46_0 rfl) ?_
    refine VL.eff (O.store ty3 rfl rfl rfl rfl zU zP ?_)
    refine VL.nil ?_
    refine VE.seq ?_
    refine VC.seq ?_
    refine VC.region ?_
    refine VL.q (Q.fieldAddr fa46_1 rfl) ?_
    refine VL.eff (O.store ty3 rfl rfl rfl rfl zU zP ?_)
    refine VL.nil ?_
    refine VE.seq ?_
    refine VC.seq ?_
    refine VC.seq ?_
    refine VC.region ?_
    refine VL.q (Q.move rfl) ?_
    refine VL.q (Q.fieldAddr fa50_9 rfl) ?_
    refine VL.q (Q.load1 ty3 rfl zM rfl) ?_
    refine VL.q ((by first | exact Q.addI rfl rfl (by omega) (by omega) | exact Q.add rfl rfl)) ?_
    refine VL.q (Q.assign rfl) ?_
    refine VL.nil ?_
    refine VE.seq ?_
    refine VC.seq ?_
    refine VC.region ?_
    refine VL.q (Q.fieldAddr fa50_10 rfl) ?_
    refine VL.q (Q.loadA ty43 rfl zM zS) ?_
    refine VL.q (Q.loadA ty43 rfl zM zS) ?_
    refine VL.quietE (v' := .bool false) (by decide) (Q.neS flt43 (by decide) ty43 eg43 rfl rfl rfl rfl) (by rfl) ?_
    refine VL.q (Q.move rfl) ?_
    refine VL.no (by simp) rfl rfl (.inl rfl) ?_
    refine VL.no (by simp) rfl rfl (.inl rfl) ?_
    refine VL.no (by simp) rfl rfl (.inl rfl) ?_
    refine VL.no (by simp) rfl rfl (.inl rfl) ?_
    refine VL.quietE (v' := .bool false) (by decide) (Q.pick_false rfl rfl) (by rfl) ?_
    refine VL.nil ?_
    refine VE.seq ?_
    refine VC.condF rfl ?_
    refine VC.skip ?_
    refine VE.seq ?_
    refine VC.seq ?_
    refine VC.region ?_
    refine VL.q (Q.loadA ty46 rfl zM zS) ?_
    refine VL.eff (O.store ty46 rfl rfl rfl rfl zU zP ?_)
    refine VL.q (Q.assign rfl) ?_
    refine VL.nil ?_
    refine VE.seq ?_
    refine VC.ret ?_
    refine VE.ret rfl (.cell ty46 rfl zM rfl (.tmp rfl .nil)) () ?_ ?_ (List.nil_sublist _)
    · trivial
    · first | rfl | (exfalso; simp at *; omega)
  · intro h48
    refine VC.skip ?_
    refine VE.seq ?_
    refine VC.seq ?_
    refine VK.keep (by exact .cons (i := 3) rfl (.cons (i := 4) rfl (.cons (i := 5) rfl (.cons (i := 6) rfl (.cons (i := 7) rfl (.cons (i := 10) rfl (.cons (i := 11) rfl ( .nil)))))))) ?_
    refine VC.region ?_
    refine VL.q (Q.fieldAddr fa46_1 rfl) ?_
    refine VL.eff (O.store ty3 rfl rfl rfl rfl zU zP ?_)
    refine VL.nil ?_
    refine VE.seq ?_
    refine VC.seq ?_
    refine VC.seq ?_
    refine VC.region ?_
    refine VL.q (Q.move rfl) ?_
    refine VL.q (Q.fieldAddr fa50_9 rfl) ?_
    refine VL.q (Q.load1 ty3 rfl zM rfl) ?_
    refine VL.q ((by first | exact Q.addI rfl rfl (by omega) (by omega) | exact Q.add rfl rfl)) ?_
    refine VL.q (Q.assign rfl) ?_
    refine VL.nil ?_
    refine VE.seq ?_
    refine VC.seq ?_
    refine VC.region ?_
    refine VL.q (Q.fieldAddr fa50_10 rfl) ?_
    refine VL.q (Q.loadA ty43 rfl zM zS) ?_
    refine VL.q (Q.loadA ty43 rfl zM zS) ?_
    refine VL.quietE (v' := .bool false) (by decide) (Q.neS flt43 (by decide) ty43 eg43 rfl rfl rfl rfl) (by rfl) ?_
    refine VL.q (Q.move rfl) ?_
    refine VL.no (by simp) rfl rfl (.inl rfl) ?_
    refine VL.no (by simp) rfl rfl (.inl rfl) ?_
    refine VL.no (by simp) rfl rfl (.inl rfl) ?_
    refine VL.no (by simp) rfl rfl (.inl rfl) ?_
    refine VL.quietE (v' := .bool false) (by decide) (Q.pick_false rfl rfl) (by rfl) ?_
    refine VL.nil ?_
    refine VE.seq ?_
    refine VC.condF rfl ?_
    refine VC.skip ?_
    refine VE.seq ?_
    refine VC.seq ?_
    refine VC.region ?_
    refine VL.q (Q.loadA ty46 rfl zM zS) ?_
    refine VL.eff (O.store ty46 rfl rfl rfl rfl zU zP ?_)
    refine VL.q (Q.assign rfl) ?_
    refine VL.nil ?_
    refine VE.seq ?_
    refine VC.ret ?_
    refine VE.ret rfl (.cell ty46 rfl zM rfl (.tmp rfl .nil)) () ?_ ?_ (List.nil_sublist _)
    · trivial
    · first | rfl | (exfalso; simp at *; omega)

theorem own_data (D : Nat) (hD : D ≤ 32767) (e ans : Int) (he : 0 ≤ e ∧ e ≤ 1099511627776) (ha : 0 ≤ ans ∧ ans ≤ 32767) :
    Does Tryd.prog 17 [.agg #[.int .i64 0, .int .i64 0], .agg #[.int .u8 2, .int .u8 0, .int .u8 0, .int .u8 0, .int .u8 0, .int .u8 1], .agg #[.int .u8 2, .int .u8 8, .bool false, .bool false, .bool false, .bool false, .bool false, .bool false, .bool false, .int .i64 (D : Int), .int .u8 2, .int .u8 0, .int .u8 0, .int .u8 0, .int .u8 0, .int .u8 1, .int .u8 2, .int .u8 0, .int .u8 0, .int .u8 0, .int .u8 0, .int .u8 2, .int .u8 0, .int .u8 0, .int .u8 0, .int .u8 0, .int .u8 0, .int .u8 0, .int .u8 0, .int .u8 0, .int .u8 0, .int .u8 0, .int .u8 0, .int .u8 0, .int .i64 0, .int .i64 0, .int .i64 0, .int .u8 0, .bool false, .bool false], .int .i64 e, .int .i64 ans] [] (fun _ => True) (X := Unit) (fun _ => True) (fun _ => .tuple #[.agg #[.int .i64 0, .int .i64 0], .int .i64 0]) (fun _ => []) := by
  have hn : navOk 0 0 := ⟨by omega, by omega⟩
  refine Does.enter Tryd.func17 rfl (m := 79) rfl (by simp) ?_
  intro W0 hro
  refine VC.seq ?_
  refine VC.region ?_
  refine VL.eff (O.box rfl rfl (by decide) ?_)
  intro g5
  refine VL.eff (O.box rfl rfl (by decide) ?_)
  intro g6
  refine VL.eff (O.box rfl rfl (by decide) ?_)
  intro g7
  refine VL.eff (O.alloc zo46 (by decide) ?_)
  intro g10
  refine VL.q (Q.assign rfl) ?_
  refine VL.nil ?_
  refine VE.seq ?_
  refine VC.seq ?_
  refine VC.seq ?_
  refine VC.region ?_
  refine VL.q (Q.loadA ty46 rfl zM zS) ?_
  refine VL.eff (O.call0 ok37 rfl rfl (by decide) (ncheck_c _ _ hn) (fun _ _ _ => trivial) ?_)
  intro x15 y15
  refine VL.q (Q.assign rfl) ?_
  refine VL.nil ?_
  refine VE.seq ?_
  refine VC.seq ?_
  refine VC.region ?_
  refine VL.q (Q.move rfl) ?_
  refine VL.quietE (v' := .bool false) (by decide) (Q.ne rfl rfl) (by rfl) ?_
  refine VL.nil ?_
  refine VE.seq ?_
  refine VC.condF rfl ?_
  refine VC.skip ?_
  refine VE.seq ?_
  refine VC.seq ?_
  refine VC.seq ?_
  refine VC.region ?_
  refine VL.q (Q.move rfl) ?_
  refine VL.quietE (v' := .bool false) (by decide) (Q.lt rfl rfl) (congrArg Value.bool (decide_eq_false (by omega))) ?_
  refine VL.q (Q.move rfl) ?_
  refine VL.yes rfl rfl ?_
  refine VL.q (Q.move rfl) ?_
  refine VL.yes rfl rfl ?_
  refine VL.quietE (v' := .bool false) (by decide) (Q.gt rfl rfl) (congrArg Value.bool (decide_eq_false (by omega))) ?_
  refine VL.quietE (v' := .bool false) (by decide) (Q.pick_false rfl rfl) (by rfl) ?_
  refine VL.q (Q.move rfl) ?_
  refine VL.yes rfl rfl ?_
  refine VL.q (Q.fieldAddr fa50_9 rfl) ?_
  refine VL.yes rfl rfl ?_
  refine VL.q (Q.load1 ty3 rfl zM rfl) ?_
  refine VL.yes rfl rfl ?_
  refine VL.quietE (v' := .bool false) (by decide) (Q.lt rfl rfl) (congrArg Value.bool (decide_eq_false (by omega))) ?_
  refine VL.quietE (v' := .bool false) (by decide) (Q.pick_false rfl rfl) (by rfl) ?_
  refine VL.q (Q.move rfl) ?_
  refine VL.yes rfl rfl ?_
  refine VL.q (Q.fieldAddr fa50_9 rfl) ?_
  refine VL.yes rfl rfl ?_
  refine VL.q (Q.load1 ty3 rfl zM rfl) ?_
  refine VL.yes rfl rfl ?_
  refine VL.quietE (v' := .bool false) (by decide) (Q.gt rfl rfl) (congrArg Value.bool (decide_eq_false (by omega))) ?_
  refine VL.quietE (v' := .bool false) (by decide) (Q.pick_false rfl rfl) (by rfl) ?_
  refine VL.q (Q.move rfl) ?_
  refine VL.yes rfl rfl ?_
  refine VL.q (Q.move rfl) ?_
  refine VL.yes rfl rfl ?_
  refine VL.quietE (v' := .bool false) (by decide) (Q.lt rfl rfl) (congrArg Value.bool (decide_eq_false (by omega))) ?_
  refine VL.quietE (v' := .bool false) (by decide) (Q.pick_false rfl rfl) (by rfl) ?_
  refine VL.q (Q.move rfl) ?_
  refine VL.yes rfl rfl ?_
  refine VL.q (Q.move rfl) ?_
  refine VL.yes rfl rfl ?_
  refine VL.quietE (v' := .bool false) (by decide) (Q.gt rfl rfl) (congrArg Value.bool (decide_eq_false (by omega))) ?_
  refine VL.quietE (v' := .bool false) (by decide) (Q.pick_false rfl rfl) (by rfl) ?_
  refine VL.nil ?_
  refine VE.seq ?_
  refine VC.condF rfl ?_
  refine VC.skip ?_
  refine VE.seq ?_
  refine VC.seq ?_
  refine VC.seq ?_
  refine VC.region ?_
  refine VL.q (Q.move rfl) ?_
  refine VL.q (Q.loadA ty46 rfl zM zS) ?_
  refine VL.eff (O.call0 ok38 rfl rfl (by decide) (until_c _ _) (fun _ _ _ => trivial) ?_)
  intro x47 y47
  refine VL.q (Q.gt rfl rfl) ?_
  refine VL.nil ?_
  refine VE.seq ?_
  refine VC.cond rfl ?_ ?_
  · intro h48
    refine VK.keep (by exact .cons (i := 3) rfl (.cons (i := 4) rfl (.cons (i := 5) rfl (.cons (i := 6) rfl (.cons (i := 7) rfl (.cons (i := 10) rfl (.cons (i := 11) rfl ( .nil)))))))) ?_
    refine VC.region ?_
    refine VL.q (Q.fieldAddr fa46_0 rfl) ?_
    refine VL.eff (O.store ty3 rfl rfl rfl rfl zU zP ?_)
    refine VL.nil ?_
    refine VE.seq ?_
    refine VC.seq ?_
    refine VC.region ?_
    refine VL.q (Q.fieldAddr fa46_1 rfl) ?_
    refine VL.eff (O.store ty3 rfl rfl rfl rfl zU zP ?_)
    refine VL.nil ?_
    refine VE.seq ?_
    refine VC.seq ?_
    refine VC.seq ?_
    refine VC.region ?_
    refine VL.q (Q.move rfl) ?_
    refine VL.q (Q.fieldAddr fa50_9 rfl) ?_
    refine VL.q (Q.load1 ty3 rfl zM rfl) ?_
    refine VL.q ((by first | exact Q.addI rfl rfl (by omega) (by omega) | exact Q.add rfl rfl)) ?_
    refine VL.q (Q.assign rfl) ?_
    refine VL.nil ?_
    refine VE.seq ?_
    refine VC.seq ?_
    refine VC.region ?_
    refine VL.q (Q.fieldAddr fa50_10 rfl) ?_
    refine VL.q (Q.loadA ty43 rfl zM zS) ?_
    refine VL.q (Q.loadA ty43 rfl zM zS) ?_
    refine VL.quietE (v' := .bool false) (by decide) (Q.neS flt43 (by decide) ty43 eg43 rfl rfl rfl rfl) (by rfl) ?_
    refine VL.q (Q.move rfl) ?_
    refine VL.no (by simp) rfl rfl (.inl rfl) ?_
    refine VL.no (by simp) rfl rfl (.inl rfl) ?_
    refine VL.no (by simp) rfl rfl (.inl rfl) ?_
    refine VL.no (by simp) rfl rfl (.inl rfl) ?_
    refine VL.quietE (v' := .bool false) (by decide) (Q.pick_false rfl rfl) (by rfl) ?_
    refine VL.nil ?_
    refine VE.seq ?_
    refine VC.condF rfl ?_
    refine VC.skip ?_
    refine VE.seq ?_
    refine VC.seq ?_
    refine VC.region ?_
    refine VL.q (Q.loadA ty46 rfl zM zS) ?_
    refine VL.eff (O.store ty46 rfl rfl rfl rfl zU zP ?_)
    refine VL.q (Q.assign rfl) ?_
    refine VL.nil ?_
    refine VE.seq ?_
    refine VC.ret ?_
    refine VE.ret rfl (.cell ty46 rfl zM rfl (.tmp rfl .nil)) () ?_ ?_ (List.nil_sublist _)
    · trivial
    · first | rfl | (exfalso; simp at *; omega)
  · intro h48
    refine VC.skip ?_
    refine VE.seq ?_
    refine VC.seq ?_
    refine VK.keep (by exact .cons (i := 3) rfl (.cons (i := 4) rfl (.cons (i := 5) rfl (.cons (i := 6) rfl (.cons (i := 7) rfl (.cons (i := 10) rfl (.cons (i := 11) rfl ( .nil)))))))) ?_
    refine VC.region ?_
    refine VL.q (Q.fieldAddr fa46_1 rfl) ?_
    refine VL.eff (O.store ty3 rfl rfl rfl rfl zU zP ?_)
    refine VL.nil ?_
    refine VE.seq ?_
    refine VC.seq ?_
    refine VC.seq ?_
    refine VC.region ?_
    refine VL.q (Q.move rfl) ?_
    refine VL.q (Q.fieldAddr fa50_9 rfl) ?_
    refine VL.q (Q.load1 ty3 rfl zM rfl) ?_
    refine VL.q ((by first | exact Q.addI rfl rfl (by omega) (by omega) | exact Q.add rfl rfl)) ?_
    refine VL.q (Q.assign rfl) ?_
    refine VL.nil ?_
    refine VE.seq ?_
    refine VC.seq ?_
    refine VC.region ?_
    refine VL.q (Q.fieldAddr fa50_10 rfl) ?_
    refine VL.q (Q.loadA ty43 rfl zM zS) ?_
    refine VL.q (Q.loadA ty43 rfl zM zS) ?_
    refine VL.quietE (v' := .bool false) (by decide) (Q.neS flt43 (by decide) ty43 eg43 rfl rfl rfl rfl) (by rfl) ?_
    refine VL.q (Q.move rfl) ?_
    refine VL.no (by simp) rfl rfl (.inl rfl) ?_
    refine VL.no (by simp) rfl rfl (.inl rfl) ?_
    refine VL.no (by simp) rfl rfl (.inl rfl) ?_
    refine VL.no (by simp) rfl rfl (.inl rfl) ?_
    refine VL.quietE (v' := .bool false) (by decide) (Q.pick_false rfl rfl) (by rfl) ?_
    refine VL.nil ?_
    refine VE.seq ?_
    refine VC.condF rfl ?_
    refine VC.skip ?_
    refine VE.seq ?_
    refine VC.seq ?_
    refine VC.region ?_
    refine VL.q (Q.loadA ty46 rfl zM zS) ?_
    refine VL.eff (O.store ty46 rfl rfl rfl rfl zU zP ?_)
    refine VL.q (Q.assign rfl) ?_
    refine VL.nil ?_
    refine VE.seq ?_
    refine VC.ret ?_
    refine VE.ret rfl (.cell ty46 rfl zM rfl (.tmp rfl .nil)) () ?_ ?_ (List.nil_sublist _)
    · trivial
    · first | rfl | (exfalso; simp at *; omega)

theorem own_ack (D : Nat) (hD : D ≤ 32767) (e ans : Int) (he : 0 ≤ e ∧ e ≤ 1099511627776) (ha : 0 ≤ ans ∧ ans ≤ 32767) :
    Does Tryd.prog 17 [.agg #[.int .i64 0, .int .i64 0], .agg #[.int .u8 2, .int .u8 0, .int .u8 0, .int .u8 0, .int .u8 0, .int .u8 2], .agg #[.int .u8 1, .int .u8 13, .bool false, .bool false, .bool false, .bool false, .bool false, .bool false, .bool false, .int .i64 (D : Int), .int .u8 2, .int .u8 0, .int .u8 0, .int .u8 0, .int .u8 0, .int .u8 2, .int .u8 0, .int .u8 0, .int .u8 0, .int .u8 0, .int .u8 0, .int .u8 0, .int .u8 0, .int .u8 0, .int .u8 0, .int .u8 0, .int .u8 0, .int .u8 0, .int .u8 0, .int .u8 0, .int .u8 0, .int .u8 0, .int .u8 0, .int .u8 0, .int .i64 0, .int .i64 0, .int .i64 0, .int .u8 0, .bool false, .bool false], .int .i64 e, .int .i64 ans] [] (fun _ => True) (X := Unit) (fun _ => True) (fun _ => .tuple #[.agg #[.int .i64 0, .int .i64 0], .int .i64 0]) (fun _ => []) := by
  have hn : navOk 0 0 := ⟨by omega, by omega⟩
  refine Does.enter Tryd.func17 rfl (m := 79) rfl (by simp) ?_
  intro W0 hro
  refine VC.seq ?_
  refine VC.region ?_
  refine VL.eff (O.box rfl rfl (by decide) ?_)
  intro g5
  refine VL.eff (O.box rfl rfl (by decide) ?_)
  intro g6
  refine VL.eff (O.box rfl rfl (by decide) ?_)
  intro g7
  refine VL.eff (O.alloc zo46 (by decide) ?_)
  intro g10
  refine VL.q (Q.assign rfl) ?_
  refine VL.nil ?_
  refine VE.seq ?_
  refine VC.seq ?_
  refine VC.seq ?_
  refine VC.region ?_
  refine VL.q (Q.loadA ty46 rfl zM zS) ?_
  refine VL.eff (O.call0 ok37 rfl rfl (by decide) (ncheck_c _ _ hn) (fun _ _ _ => trivial) ?_)
  intro x15 y15
  refine VL.q (Q.assign rfl) ?_
  refine VL.nil ?_
  refine VE.seq ?_
  refine VC.seq ?_
  refine VC.region ?_
  refine VL.q (Q.move rfl) ?_
  refine VL.quietE (v' := .bool false) (by decide) (Q.ne rfl rfl) (by rfl) ?_
  refine VL.nil ?_
  refine VE.seq ?_
  refine VC.condF rfl ?_
  refine VC.skip ?_
  refine VE.seq ?_
  refine VC.seq ?_
  refine VC.seq ?_
  refine VC.region ?_
  refine VL.q (Q.move rfl) ?_
  refine VL.quietE (v' := .bool false) (by decide) (Q.lt rfl rfl) (congrArg Value.bool (decide_eq_false (by omega))) ?_
  refine VL.q (Q.move rfl) ?_
  refine VL.yes rfl rfl ?_
  refine VL.q (Q.move rfl) ?_
  refine VL.yes rfl rfl ?_
  refine VL.quietE (v' := .bool false) (by decide) (Q.gt rfl rfl) (congrArg Value.bool (decide_eq_false (by omega))) ?_
  refine VL.quietE (v' := .bool false) (by decide) (Q.pick_false rfl rfl) (by rfl) ?_
  refine VL.q (Q.move rfl) ?_
  refine VL.yes rfl rfl ?_
  refine VL.q (Q.fieldAddr fa50_9 rfl) ?_
  refine VL.yes rfl rfl ?_
  refine VL.q (Q.load1 ty3 rfl zM rfl) ?_
  refine VL.yes rfl rfl ?_
  refine VL.quietE (v' := .bool false) (by decide) (Q.lt rfl rfl) (congrArg Value.bool (decide_eq_false (by omega))) ?_
  refine VL.quietE (v' := .bool false) (by decide) (Q.pick_false rfl rfl) (by rfl) ?_
  refine VL.q (Q.move rfl) ?_
  refine VL.yes rfl rfl ?_
  refine VL.q (Q.fieldAddr fa50_9 rfl) ?_
  refine VL.yes rfl rfl ?_
  refine VL.q (Q.load1 ty3 rfl zM rfl) ?_
  refine VL.yes rfl rfl ?_
  refine VL.quietE (v' := .bool false) (by decide) (Q.gt rfl rfl) (congrArg Value.bool (decide_eq_false (by omega))) ?_
  refine VL.quietE (v' := .bool false) (by decide) (Q.pick_false rfl rfl) (by rfl) ?_
  refine VL.q (Q.move rfl) ?_
  refine VL.yes rfl rfl ?_
  refine VL.q (Q.move rfl) ?_
  refine VL.yes rfl rfl ?_
  refine VL.quietE (v' := .bool false) (by decide) (Q.lt rfl rfl) (congrArg Value.bool (decide_eq_false (by omega))) ?_
  refine VL.quietE (v' := .bool false) (by decide) (Q.pick_false rfl rfl) (by rfl) ?_
  refine VL.q (Q.move rfl) ?_
  refine VL.yes rfl rfl ?_
  refine VL.q (Q.move rfl) ?_
  refine VL.yes rfl rfl ?_
  refine VL.quietE (v' := .bool false) (by decide) (Q.gt rfl rfl) (congrArg Value.bool (decide_eq_false (by omega))) ?_
  refine VL.quietE (v' := .bool false) (by decide) (Q.pick_false rfl rfl) (by rfl) ?_
  refine VL.nil ?_
  refine VE.seq ?_
  refine VC.condF rfl ?_
  refine VC.skip ?_
  refine VE.seq ?_
  refine VC.seq ?_
  refine VC.seq ?_
  refine VC.region ?_
  refine VL.q (Q.move rfl) ?_
  refine VL.q (Q.loadA ty46 rfl zM zS) ?_
  refine VL.eff (O.call0 ok38 rfl rfl (by decide) (until_c _ _) (fun _ _ _ => trivial) ?_)
  intro x47 y47
  refine VL.q (Q.gt rfl rfl) ?_
  refine VL.nil ?_
  refine VE.seq ?_
  refine VC.cond rfl ?_ ?_
  · intro h48
    refine VK.keep (by exact .cons (i := 3) rfl (.cons (i := 4) rfl (.cons (i := 5) rfl (.cons (i := 6) rfl (.cons (i := 7) rfl (.cons (i := 10) rfl (.cons (i := 11) rfl ( .nil)))))))) ?_
    refine VC.region ?_
    refine VL.q (Q.fieldAddr fa46_0 rfl) ?_
    refine VL.eff (O.store ty3 rfl rfl rfl rfl zU zP ?_)
    refine VL.nil ?_
    refine VE.seq ?_
    refine VC.seq ?_
    refine VC.region ?_
    refine VL.q (Q.fieldAddr fa46_1 rfl) ?_
    refine VL.eff (O.store ty3 rfl rfl rfl rfl zU zP ?_)
    refine VL.nil ?_
    refine VE.seq ?_
    refine VC.seq ?_
    refine VC.seq ?_
    refine VC.region ?_
    refine VL.q (Q.move rfl) ?_
    refine VL.q (Q.fieldAddr fa50_9 rfl) ?_
    refine VL.q (Q.load1 ty3 rfl zM rfl) ?_
    refine VL.q ((by first | exact Q.addI rfl rfl (by omega) (by omega) | exact Q.add rfl rfl)) ?_
    refine VL.q (Q.assign rfl) ?_
    refine VL.nil ?_
    refine VE.seq ?_
    refine VC.seq ?_
    refine VC.region ?_
    refine VL.q (Q.fieldAddr fa50_10 rfl) ?_
    refine VL.q (Q.loadA ty43 rfl zM zS) ?_
    refine VL.q (Q.loadA ty43 rfl zM zS) ?_
    refine VL.quietE (v' := .bool false) (by decide) (Q.neS flt43 (by decide) ty43 eg43 rfl rfl rfl rfl) (by rfl) ?_
    refine VL.q (Q.move rfl) ?_
    refine VL.no (by simp) rfl rfl (.inl rfl) ?_
    refine VL.no (by simp) rfl rfl (.inl rfl) ?_
    refine VL.no (by simp) rfl rfl (.inl rfl) ?_
    refine VL.no (by simp) rfl rfl (.inl rfl) ?_
    refine VL.quietE (v' := .bool false) (by decide) (Q.pick_false rfl rfl) (by rfl) ?_
    refine VL.nil ?_
    refine VE.seq ?_
    refine VC.condF rfl ?_
    refine VC.skip ?_
    refine VE.seq ?_
    refine VC.seq ?_
    refine VC.region ?_
    refine VL.q (Q.loadA ty46 rfl zM zS) ?_
    refine VL.eff (O.store ty46 rfl rfl rfl rfl zU zP ?_)
    refine VL.q (Q.assign rfl) ?_
    refine VL.nil ?_
    refine VE.seq ?_
    refine VC.ret ?_
    refine VE.ret rfl (.cell ty46 rfl zM rfl (.tmp rfl .nil)) () ?_ ?_ (List.nil_sublist _)
    · trivial
    · first | rfl | (exfalso; simp at *; omega)
  · intro h48
    refine VC.skip ?_
    refine VE.seq ?_
    refine VC.seq ?_
    refine VK.keep (by exact .cons (i := 3) rfl (.cons (i := 4) rfl (.cons (i := 5) rfl (.cons (i := 6) rfl (.cons (i := 7) rfl (.cons (i := 10) rfl (.cons (i := 11) rfl ( .nil)))))))) ?_
    refine VC.region ?_
    refine VL.q (Q.fieldAddr fa46_1 rfl) ?_
    refine VL.eff (O.store ty3 rfl rfl rfl rfl zU zP ?_)
    refine VL.nil ?_
    refine VE.seq ?_
    refine VC.seq ?_
    refine VC.seq ?_
    refine VC.region ?_
    refine VL.q (Q.move rfl) ?_
    refine VL.q (Q.fieldAddr fa50_9 rfl) ?_
    refine VL.q (Q.load1 ty3 rfl zM rfl) ?_
    refine VL.q ((by first | exact Q.addI rfl rfl (by omega) (by omega) | exact Q.add rfl rfl)) ?_
    refine VL.q (Q.assign rfl) ?_
    refine VL.nil ?_
    refine VE.seq ?_
    refine VC.seq ?_
    refine VC.region ?_
    refine VL.q (Q.fieldAddr fa50_10 rfl) ?_
    refine VL.q (Q.loadA ty43 rfl zM zS) ?_
    refine VL.q (Q.loadA ty43 rfl zM zS) ?_
    refine VL.quietE (v' := .bool false) (by decide) (Q.neS flt43 (by decide) ty43 eg43 rfl rfl rfl rfl) (by rfl) ?_
    refine VL.q (Q.move rfl) ?_
    refine VL.no (by simp) rfl rfl (.inl rfl) ?_
    refine VL.no (by simp) rfl rfl (.inl rfl) ?_
    refine VL.no (by simp) rfl rfl (.inl rfl) ?_
    refine VL.no (by simp) rfl rfl (.inl rfl) ?_
    refine VL.quietE (v' := .bool false) (by decide) (Q.pick_false rfl rfl) (by rfl) ?_
    refine VL.nil ?_
    refine VE.seq ?_
    refine VC.condF rfl ?_
    refine VC.skip ?_
    refine VE.seq ?_
    refine VC.seq ?_
    refine VC.region ?_
    refine VL.q (Q.loadA ty46 rfl zM zS) ?_
    refine VL.eff (O.store ty46 rfl rfl rfl rfl zU zP ?_)
    refine VL.q (Q.assign rfl) ?_
    refine VL.nil ?_
    refine VE.seq ?_
    refine VC.ret ?_
    refine VE.ret rfl (.cell ty46 rfl zM rfl (.tmp rfl .nil)) () ?_ ?_ (List.nil_sublist _)
    · trivial
    · first | rfl | (exfalso; simp at *; omega)

theorem own_bar (D : Nat) (hD : D ≤ 32767) (e ans : Int) (he : 0 ≤ e ∧ e ≤ 1099511627776) (ha : 0 ≤ ans ∧ ans ≤ 32767) :
    Does Tryd.prog 17 [.agg #[.int .i64 0, .int .i64 0], .agg #[.int .u8 2, .int .u8 0, .int .u8 0, .int .u8 0, .int .u8 0, .int .u8 1], .agg #[.int .u8 1, .int .u8 8, .bool false, .bool false, .bool false, .bool false, .bool false, .bool false, .bool false, .int .i64 (D : Int), .int .u8 2, .int .u8 0, .int .u8 0, .int .u8 0, .int .u8 0, .int .u8 1, .int .u8 2, .int .u8 0, .int .u8 0, .int .u8 0, .int .u8 0, .int .u8 2, .int .u8 0, .int .u8 0, .int .u8 0, .int .u8 0, .int .u8 0, .int .u8 0, .int .u8 0, .int .u8 0, .int .u8 0, .int .u8 0, .int .u8 0, .int .u8 0, .int .i64 0, .int .i64 0, .int .i64 0, .int .u8 0, .bool false, .bool false], .int .i64 e, .int .i64 ans] [] (fun _ => True) (X := Unit) (fun _ => True) (fun _ => .tuple #[.agg #[.int .i64 0, .int .i64 0], .int .i64 0]) (fun _ => []) := by
  have hn : navOk 0 0 := ⟨by omega, by omega⟩
  refine Does.enter Tryd.func17 rfl (m := 79) rfl (by simp) ?_
  intro W0 hro
  refine VC.seq ?_
  refine VC.region ?_
  refine VL.eff (O.box rfl rfl (by decide) ?_)
  intro g5
  refine VL.eff (O.box rfl rfl (by decide) ?_)
  intro g6
  refine VL.eff (O.box rfl rfl (by decide) ?_)
  intro g7
  refine VL.eff (O.alloc zo46 (by decide) ?_)
  intro g10
  refine VL.q (Q.assign rfl) ?_
  refine VL.nil ?_
  refine VE.seq ?_
  refine VC.seq ?_
  refine VC.seq ?_
  refine VC.region ?_
  refine VL.q (Q.loadA ty46 rfl zM zS) ?_
  refine VL.eff (O.call0 ok37 rfl rfl (by decide) (ncheck_c _ _ hn) (fun _ _ _ => trivial) ?_)
  intro x15 y15
  refine VL.q (Q.assign rfl) ?_
  refine VL.nil ?_
  refine VE.seq ?_
  refine VC.seq ?_
  refine VC.region ?_
  refine VL.q (Q.move rfl) ?_
  refine VL.quietE (v' := .bool false) (by decide) (Q.ne rfl rfl) (by rfl) ?_
  refine VL.nil ?_
  refine VE.seq ?_
  refine VC.condF rfl ?_
  refine VC.skip ?_
  refine VE.seq ?_
  refine VC.seq ?_
  refine VC.seq ?_
  refine VC.region ?_
  refine VL.q (Q.move rfl) ?_
  refine VL.quietE (v' := .bool false) (by decide) (Q.lt rfl rfl) (congrArg Value.bool (decide_eq_false (by omega))) ?_
  refine VL.q (Q.move rfl) ?_
  refine VL.yes rfl rfl ?_
  refine VL.q (Q.move rfl) ?_
  refine VL.yes rfl rfl ?_
  refine VL.quietE (v' := .bool false) (by decide) (Q.gt rfl rfl) (congrArg Value.bool (decide_eq_false (by omega))) ?_
  refine VL.quietE (v' := .bool false) (by decide) (Q.pick_false rfl rfl) (by rfl) ?_
  refine VL.q (Q.move rfl) ?_
  refine VL.yes rfl rfl ?_
  refine VL.q (Q.fieldAddr fa50_9 rfl) ?_
  refine VL.yes rfl rfl ?_
  refine VL.q (Q.load1 ty3 rfl zM rfl) ?_
  refine VL.yes rfl rfl ?_
  refine VL.quietE (v' := .bool false) (by decide) (Q.lt rfl rfl) (congrArg Value.bool (decide_eq_false (by omega))) ?_
  refine VL.quietE (v' := .bool false) (by decide) (Q.pick_false rfl rfl) (by rfl) ?_
  refine VL.q (Q.move rfl) ?_
  refine VL.yes rfl rfl ?_
  refine VL.q (Q.fieldAddr fa50_9 rfl) ?_
  refine VL.yes rfl rfl ?_
  refine VL.q (Q.load1 ty3 rfl zM rfl) ?_
  refine VL.yes rfl rfl ?_
  refine VL.quietE (v' := .bool false) (by decide) (Q.gt rfl rfl) (congrArg Value.bool (decide_eq_false (by omega))) ?_
  refine VL.quietE (v' := .bool false) (by decide) (Q.pick_false rfl rfl) (by rfl) ?_
  refine VL.q (Q.move rfl) ?_
  refine VL.yes rfl rfl ?_
  refine VL.q (Q.move rfl) ?_
  refine VL.yes rfl rfl ?_
  refine VL.quietE (v' := .bool false) (by decide) (Q.lt rfl rfl) (congrArg Value.bool (decide_eq_false (by omega))) ?_
  refine VL.quietE (v' := .bool false) (by decide) (Q.pick_false rfl rfl) (by rfl) ?_
  refine VL.q (Q.move rfl) ?_
  refine VL.yes rfl rfl ?_
  refine VL.q (Q.move rfl) ?_
  refine VL.yes rfl rfl ?_
  refine VL.quietE (v' := .bool false) (by decide) (Q.gt rfl rfl) (congrArg Value.bool (decide_eq_false (by omega))) ?_
  refine VL.quietE (v' := .bool false) (by decide) (Q.pick_false rfl rfl) (by rfl) ?_
  refine VL.nil ?_
  refine VE.seq ?_
  refine VC.condF rfl ?_
  refine VC.skip ?_
  refine VE.seq ?_
  refine VC.seq ?_
  refine VC.seq ?_
  refine VC.region ?_
  refine VL.q (Q.move rfl) ?_
  refine VL.q (Q.loadA ty46 rfl zM zS) ?_
  refine VL.eff (O.call0 ok38 rfl rfl (by decide) (until_c _ _) (fun _ _ _ => trivial) ?_)
  intro x47 y47
  refine VL.q (Q.gt rfl rfl) ?_
  refine VL.nil ?_
  refine VE.seq ?_
  refine VC.cond rfl ?_ ?_
  · intro h48
    refine VK.keep (by exact .cons (i := 3) rfl (.cons (i := 4) rfl (.cons (i := 5) rfl (.cons (i := 6) rfl (.cons (i := 7) rfl (.cons (i := 10) rfl (.cons (i := 11) rfl ( .nil)))))))) ?_
    refine VC.region ?_
    refine VL.q (Q.fieldAddr fa46_0 rfl) ?_
    refine VL.eff (O.store ty3 rfl rfl rfl rfl zU zP ?_)
    refine VL.nil ?_
    refine VE.seq ?_
    refine VC.seq ?_
    refine VC.region ?_
    refine VL.q (Q.fieldAddr fa46_1 rfl) ?_
    refine VL.eff (O.store ty3 rfl rfl rfl rfl zU zP ?_)
    refine VL.nil ?_
    refine VE.seq ?_
    refine VC.seq ?_
    refine VC.seq ?_
    refine VC.region ?_
    refine VL.q (Q.move rfl) ?_
    refine VL.q (Q.fieldAddr fa50_9 rfl) ?_
    refine VL.q (Q.load1 ty3 rfl zM rfl) ?_
    refine VL.q ((by first | exact Q.addI rfl rfl (by omega) (by omega) | exact Q.add rfl rfl)) ?_
    refine VL.q (Q.assign rfl) ?_
    refine VL.nil ?_
    refine VE.seq ?_
    refine VC.seq ?_
    refine VC.region ?_
    refine VL.q (Q.fieldAddr fa50_10 rfl) ?_
    refine VL.q (Q.loadA ty43 rfl zM zS) ?_
    refine VL.q (Q.loadA ty43 rfl zM zS) ?_
    refine VL.quietE (v' := .bool false) (by decide) (Q.neS flt43 (by decide) ty43 eg43 rfl rfl rfl rfl) (by rfl) ?_
    refine VL.q (Q.move rfl) ?_
    refine VL.no (by simp) rfl rfl (.inl rfl) ?_
    refine VL.no (by simp) rfl rfl (.inl rfl) ?_
    refine VL.no (by simp) rfl rfl (.inl rfl) ?_
    refine VL.no (by simp) rfl rfl (.inl rfl) ?_
    refine VL.quietE (v' := .bool false) (by decide) (Q.pick_false rfl rfl) (by rfl) ?_
    refine VL.nil ?_
    refine VE.seq ?_
    refine VC.condF rfl ?_
    refine VC.skip ?_
    refine VE.seq ?_
    refine VC.seq ?_
    refine VC.region ?_
    refine VL.q (Q.loadA ty46 rfl zM zS) ?_
    refine VL.eff (O.store ty46 rfl rfl rfl rfl zU zP ?_)
    refine VL.q (Q.assign rfl) ?_
    refine VL.nil ?_
    refine VE.seq ?_
    refine VC.ret ?_
    refine VE.ret rfl (.cell ty46 rfl zM rfl (.tmp rfl .nil)) () ?_ ?_ (List.nil_sublist _)
    · trivial
    · first | rfl | (exfalso; simp at *; omega)
  · intro h48
    refine VC.skip ?_
    refine VE.seq ?_
    refine VC.seq ?_
    refine VK.keep (by exact .cons (i := 3) rfl (.cons (i := 4) rfl (.cons (i := 5) rfl (.cons (i := 6) rfl (.cons (i := 7) rfl (.cons (i := 10) rfl (.cons (i := 11) rfl ( .nil)))))))) ?_
    refine VC.region ?_
    refine VL.q (Q.fieldAddr fa46_1 rfl) ?_
    refine VL.eff (O.store ty3 rfl rfl rfl rfl zU zP ?_)
    refine VL.nil ?_
    refine VE.seq ?_
    refine VC.seq ?_
    refine VC.seq ?_
    refine VC.region ?_
    refine VL.q (Q.move rfl) ?_
    refine VL.q (Q.fieldAddr fa50_9 rfl) ?_
    refine VL.q (Q.load1 ty3 rfl zM rfl) ?_
    refine VL.q ((by first | exact Q.addI rfl rfl (by omega) (by omega) | exact Q.add rfl rfl)) ?_
    refine VL.q (Q.assign rfl) ?_
    refine VL.nil ?_
    refine VE.seq ?_
    refine VC.seq ?_
    refine VC.region ?_
    refine VL.q (Q.fieldAddr fa50_10 rfl) ?_
    refine VL.q (Q.loadA ty43 rfl zM zS) ?_
    refine VL.q (Q.loadA ty43 rfl zM zS) ?_
    refine VL.quietE (v' := .bool false) (by decide) (Q.neS flt43 (by decide) ty43 eg43 rfl rfl rfl rfl) (by rfl) ?_
    refine VL.q (Q.move rfl) ?_
    refine VL.no (by simp) rfl rfl (.inl rfl) ?_
    refine VL.no (by simp) rfl rfl (.inl rfl) ?_
    refine VL.no (by simp) rfl rfl (.inl rfl) ?_
    refine VL.no (by simp) rfl rfl (.inl rfl) ?_
    refine VL.quietE (v' := .bool false) (by decide) (Q.pick_false rfl rfl) (by rfl) ?_
    refine VL.nil ?_
    refine VE.seq ?_
    refine VC.condF rfl ?_
    refine VC.skip ?_
    refine VE.seq ?_
    refine VC.seq ?_
    refine VC.region ?_
    refine VL.q (Q.loadA ty46 rfl zM zS) ?_
    refine VL.eff (O.store ty46 rfl rfl rfl rfl zU zP ?_)
    refine VL.q (Q.assign rfl) ?_
    refine VL.nil ?_
    refine VE.seq ?_
    refine VC.ret ?_
    refine VE.ret rfl (.cell ty46 rfl zM rfl (.tmp rfl .nil)) () ?_ ?_ (List.nil_sublist _)
    · trivial
    · first | rfl | (exfalso; simp at *; omega)

theorem own_back (D : Nat) (hD : D ≤ 32767) (e ans : Int) (he : 0 ≤ e ∧ e ≤ 1099511627776) (ha : 0 ≤ ans ∧ ans ≤ 32767) :
    Does Tryd.prog 17 [.agg #[.int .i64 0, .int .i64 0], .agg #[.int .u8 2, .int .u8 0, .int .u8 0, .int .u8 0, .int .u8 0, .int .u8 2], .agg #[.int .u8 1, .int .u8 9, .bool false, .bool false, .bool false, .bool false, .bool false, .bool false, .bool false, .int .i64 (D : Int), .int .u8 2, .int .u8 0, .int .u8 0, .int .u8 0, .int .u8 0, .int .u8 2, .int .u8 2, .int .u8 0, .int .u8 0, .int .u8 0, .int .u8 0, .int .u8 1, .int .u8 0, .int .u8 0, .int .u8 0, .int .u8 0, .int .u8 0, .int .u8 0, .int .u8 0, .int .u8 0, .int .u8 0, .int .u8 0, .int .u8 0, .int .u8 0, .int .i64 0, .int .i64 0, .int .i64 0, .int .u8 0, .bool false, .bool false], .int .i64 e, .int .i64 ans] [] (fun _ => True) (X := Unit) (fun _ => True) (fun _ => .tuple #[.agg #[.int .i64 0, .int .i64 0], .int .i64 0]) (fun _ => []) := by
  have hn : navOk 0 0 := ⟨by omega, by omega⟩
  refine Does.enter Tryd.func17 rfl (m := 79) rfl (by simp) ?_
  intro W0 hro
  refine VC.seq ?_
  refine VC.region ?_
  refine VL.eff (O.box rfl rfl (by decide) ?_)
  intro g5
  refine VL.eff (O.box rfl rfl (by decide) ?_)
  intro g6
  refine VL.eff (O.box rfl rfl (by decide) ?_)
  intro g7
  refine VL.eff (O.alloc zo46 (by decide) ?_)
  intro g10
  refine VL.q (Q.assign rfl) ?_
  refine VL.nil ?_
  refine VE.seq ?_
  refine VC.seq ?_
  refine VC.seq ?_
  refine VC.region ?_
  refine VL.q (Q.loadA ty46 rfl zM zS) ?_
  refine VL.eff (O.call0 ok37 rfl rfl (by decide) (ncheck_c _ _ hn) (fun _ _ _ => trivial) ?_)
  intro x15 y15
  refine VL.q (Q.assign rfl) ?_
  refine VL.nil ?_
  refine VE.seq ?_
  refine VC.seq ?_
  refine VC.region ?_
  refine VL.q (Q.move rfl) ?_
  refine VL.quietE (v' := .bool false) (by decide) (Q.ne rfl rfl) (by rfl) ?_
  refine VL.nil ?_
  refine VE.seq ?_
  refine VC.condF rfl ?_
  refine VC.skip ?_
  refine VE.seq ?_
  refine VC.seq ?_
  refine VC.seq ?_
  refine VC.region ?_
  refine VL.q (Q.move rfl) ?_
  refine VL.quietE (v' := .bool false) (by decide) (Q.lt rfl rfl) (congrArg Value.bool (decide_eq_false (by omega))) ?_
  refine VL.q (Q.move rfl) ?_
  refine VL.yes rfl rfl ?_
  refine VL.q (Q.move rfl) ?_
  refine VL.yes rfl rfl ?_
  refine VL.quietE (v' := .bool false) (by decide) (Q.gt rfl rfl) (congrArg Value.bool (decide_eq_false (by omega))) ?_
  refine VL.quietE (v' := .bool false) (by decide) (Q.pick_false rfl rfl) (by rfl) ?_
  refine VL.q (Q.move rfl) ?_
  refine VL.yes rfl rfl ?_
  refine VL.q (Q.fieldAddr fa50_9 rfl) ?_
  refine VL.yes rfl rfl ?_
  refine VL.q (Q.load1 ty3 rfl zM rfl) ?_
  refine VL.yes rfl rfl ?_
  refine VL.quietE (v' := .bool false) (by decide) (Q.lt rfl rfl) (congrArg Value.bool (decide_eq_false (by omega))) ?_
  refine VL.quietE (v' := .bool false) (by decide) (Q.pick_false rfl rfl) (by rfl) ?_
  refine VL.q (Q.move rfl) ?_
  refine VL.yes rfl rfl ?_
  refine VL.q (Q.fieldAddr fa50_9 rfl) ?_
  refine VL.yes rfl rfl ?_
  refine VL.q (Q.load1 ty3 rfl zM rfl) ?_
  refine VL.yes rfl rfl ?_
  refine VL.quietE (v' := .bool false) (by decide) (Q.gt rfl rfl) (congrArg Value.bool (decide_eq_false (by omega))) ?_
  refine VL.quietE (v' := .bool false) (by decide) (Q.pick_false rfl rfl) (by rfl) ?_
  refine VL.q (Q.move rfl) ?_
  refine VL.yes rfl rfl ?_
  refine VL.q (Q.move rfl) ?_
  refine VL.yes rfl rfl ?_
  refine VL.quietE (v' := .bool false) (by decide) (Q.lt rfl rfl) (congrArg Value.bool (decide_eq_false (by omega))) ?_
  refine VL.quietE (v' := .bool false) (by decide) (Q.pick_false rfl rfl) (by rfl) ?_
  refine VL.q (Q.move rfl) ?_
  refine VL.yes rfl rfl ?_
  refine VL.q (Q.move rfl) ?_
  refine VL.yes rfl rfl ?_
  refine VL.quietE (v' := .bool false) (by decide) (Q.gt rfl rfl) (congrArg Value.bool (decide_eq_false (by omega))) ?_
  refine VL.quietE (v' := .bool false) (by decide) (Q.pick_false rfl rfl) (by rfl) ?_
  refine VL.nil ?_
  refine VE.seq ?_
  refine VC.condF rfl ?_
  refine VC.skip ?_
  refine VE.seq ?_
  refine VC.seq ?_
  refine VC.seq ?_
  refine VC.region ?_
  refine VL.q (Q.move rfl) ?_
  refine VL.q (Q.loadA ty46 rfl zM zS) ?_
  refine VL.eff (O.call0 ok38 rfl rfl (by decide) (until_c _ _) (fun _ _ _ => trivial) ?_)
  intro x47 y47
  refine VL.q (Q.gt rfl rfl) ?_
  refine VL.nil ?_
  refine VE.seq ?_
  refine VC.cond rfl ?_ ?_
  · intro h48
    refine VK.keep (by exact .cons (i := 3) rfl (.cons (i := 4) rfl (.cons (i := 5) rfl (.cons (i := 6) rfl (.cons (i := 7) rfl (.cons (i := 10) rfl (.cons (i := 11) rfl ( .nil)))))))) ?_
    refine VC.region ?_
    refine VL.q (Q.fieldAddr fa46_0 rfl) ?_
    refine VL.eff (O.store ty3 rfl rfl rfl rfl zU zP ?_)
    refine VL.nil ?_
    refine VE.seq ?_
    refine VC.seq ?_
    refine VC.region ?_
    refine VL.q (Q.fieldAddr fa46_1 rfl) ?_
    refine VL.eff (O.store ty3 rfl rfl rfl rfl zU zP ?_)
    refine VL.nil ?_
    refine VE.seq ?_
    refine VC.seq ?_
    refine VC.seq ?_
    refine VC.region ?_
    refine VL.q (Q.move rfl) ?_
    refine VL.q (Q.fieldAddr fa50_9 rfl) ?_
    refine VL.q (Q.load1 ty3 rfl zM rfl) ?_
    refine VL.q ((by first | exact Q.addI rfl rfl (by omega) (by omega) | exact Q.add rfl rfl)) ?_
    refine VL.q (Q.assign rfl) ?_
    refine VL.nil ?_
    refine VE.seq ?_
    refine VC.seq ?_
    refine VC.region ?_
    refine VL.q (Q.fieldAddr fa50_10 rfl) ?_
    refine VL.q (Q.loadA ty43 rfl zM zS) ?_
    refine VL.q (Q.loadA ty43 rfl zM zS) ?_
    refine VL.quietE (v' := .bool false) (by decide) (Q.neS flt43 (by decide) ty43 eg43 rfl rfl rfl rfl) (by rfl) ?_
    refine VL.q (Q.move rfl) ?_
    refine VL.no (by simp) rfl rfl (.inl rfl) ?_
    refine VL.no (by simp) rfl rfl (.inl rfl) ?_
    refine VL.no (by simp) rfl rfl (.inl rfl) ?_
    refine VL.no (by simp) rfl rfl (.inl rfl) ?_
    refine VL.quietE (v' := .bool false) (by decide) (Q.pick_false rfl rfl) (by rfl) ?_
    refine VL.nil ?_
    refine VE.seq ?_
    refine VC.condF rfl ?_
    refine VC.skip ?_
    refine VE.seq ?_
    refine VC.seq ?_
    refine VC.region ?_
    refine VL.q (Q.loadA ty46 rfl zM zS) ?_
    refine VL.eff (O.store ty46 rfl rfl rfl rfl zU zP ?_)
    refine VL.q (Q.assign rfl) ?_
    refine VL.nil ?_
    refine VE.seq ?_
    refine VC.ret ?_
    refine VE.ret rfl (.cell ty46 rfl zM rfl (.tmp rfl .nil)) () ?_ ?_ (List.nil_sublist _)
    · trivial
    · first | rfl | (exfalso; simp at *; omega)
  · intro h48
    refine VC.skip ?_
    refine VE.seq ?_
    refine VC.seq ?_
    refine VK.keep (by exact .cons (i := 3) rfl (.cons (i := 4) rfl (.cons (i := 5) rfl (.cons (i := 6) rfl (.cons (i := 7) rfl (.cons (i := 10) rfl (.cons (i := 11) rfl ( .nil)))))))) ?_
    refine VC.region ?_
    refine VL.q (Q.fieldAddr fa46_1 rfl) ?_
    refine VL.eff (O.store ty3 rfl rfl rfl rfl zU zP ?_)
    refine VL.nil ?_
    refine VE.seq ?_
    refine VC.seq ?_
    refine VC.seq ?_
    refine VC.region ?_
    refine VL.q (Q.move rfl) ?_
    refine VL.q (Q.fieldAddr fa50_9 rfl) ?_
    refine VL.q (Q.load1 ty3 rfl zM rfl) ?_
    refine VL.q ((by first | exact Q.addI rfl rfl (by omega) (by omega) | exact Q.add rfl rfl)) ?_
    refine VL.q (Q.assign rfl) ?_
    refine VL.nil ?_
    refine VE.seq ?_
    refine VC.seq ?_
    refine VC.region ?_
    refine VL.q (Q.fieldAddr fa50_10 rfl) ?_
    refine VL.q (Q.loadA ty43 rfl zM zS) ?_
    refine VL.q (Q.loadA ty43 rfl zM zS) ?_
    refine VL.quietE (v' := .bool false) (by decide) (Q.neS flt43 (by decide) ty43 eg43 rfl rfl rfl rfl) (by rfl) ?_
    refine VL.q (Q.move rfl) ?_
    refine VL.no (by simp) rfl rfl (.inl rfl) ?_
    refine VL.no (by simp) rfl rfl (.inl rfl) ?_
    refine VL.no (by simp) rfl rfl (.inl rfl) ?_
    refine VL.no (by simp) rfl rfl (.inl rfl) ?_
    refine VL.quietE (v' := .bool false) (by decide) (Q.pick_false rfl rfl) (by rfl) ?_
    refine VL.nil ?_
    refine VE.seq ?_
    refine VC.condF rfl ?_
    refine VC.skip ?_
    refine VE.seq ?_
    refine VC.seq ?_
    refine VC.region ?_
    refine VL.q (Q.loadA ty46 rfl zM zS) ?_
    refine VL.eff (O.store ty46 rfl rfl rfl rfl zU zP ?_)
    refine VL.q (Q.assign rfl) ?_
    refine VL.nil ?_
    refine VE.seq ?_
    refine VC.ret ?_
    refine VE.ret rfl (.cell ty46 rfl zM rfl (.tmp rfl .nil)) () ?_ ?_ (List.nil_sublist _)
    · trivial
    · first | rfl | (exfalso; simp at *; omega)

theorem heard_rts (u l : Int) (h : navOk u l) (D : Nat) (hD : D ≤ 32767) (e ans : Int) (he : 0 ≤ e ∧ e ≤ 1099511627776) (ha : 0 ≤ ans ∧ ans ≤ 32767) :
    Does Tryd.prog 17 [.agg #[.int .i64 u, .int .i64 l], .agg #[.int .u8 2, .int .u8 0, .int .u8 0, .int .u8 0, .int .u8 0, .int .u8 3], .agg #[.int .u8 1, .int .u8 11, .bool false, .bool false, .bool false, .bool false, .bool false, .bool false, .bool false, .int .i64 (D : Int), .int .u8 2, .int .u8 0, .int .u8 0, .int .u8 0, .int .u8 0, .int .u8 1, .int .u8 2, .int .u8 0, .int .u8 0, .int .u8 0, .int .u8 0, .int .u8 2, .int .u8 0, .int .u8 0, .int .u8 0, .int .u8 0, .int .u8 0, .int .u8 0, .int .u8 0, .int .u8 0, .int .u8 0, .int .u8 0, .int .u8 0, .int .u8 0, .int .i64 0, .int .i64 0, .int .i64 0, .int .u8 0, .bool false, .bool false], .int .i64 e, .int .i64 ans] [] (fun _ => True) (X := Unit) (fun _ => True) (fun _ => .tuple #[.agg #[.int .i64 (hearU u l e D), .int .i64 (hearL true u l e D ans)], .int .i64 0]) (fun _ => []) := by
  have hn := h
  obtain ⟨hu, hl⟩ := h
  refine Does.enter Tryd.func17 rfl (m := 79) rfl (by simp) ?_
  intro W0 hro
  refine VC.seq ?_
  refine VC.region ?_
  refine VL.eff (O.box rfl rfl (by decide) ?_)
  intro g5
  refine VL.eff (O.box rfl rfl (by decide) ?_)
  intro g6
  refine VL.eff (O.box rfl rfl (by decide) ?_)
  intro g7
  refine VL.eff (O.alloc zo46 (by decide) ?_)
  intro g10
  refine VL.q (Q.assign rfl) ?_
  refine VL.nil ?_
  refine VE.seq ?_
  refine VC.seq ?_
  refine VC.seq ?_
  refine VC.region ?_
  refine VL.q (Q.loadA ty46 rfl zM zS) ?_
  refine VL.eff (O.call0 ok37 rfl rfl (by decide) (ncheck_c _ _ hn) (fun _ _ _ => trivial) ?_)
  intro x15 y15
  refine VL.q (Q.assign rfl) ?_
  refine VL.nil ?_
  refine VE.seq ?_
  refine VC.seq ?_
  refine VC.region ?_
  refine VL.q (Q.move rfl) ?_
  refine VL.quietE (v' := .bool false) (by decide) (Q.ne rfl rfl) (by rfl) ?_
  refine VL.nil ?_
  refine VE.seq ?_
  refine VC.condF rfl ?_
  refine VC.skip ?_
  refine VE.seq ?_
  refine VC.seq ?_
  refine VC.seq ?_
  refine VC.region ?_
  refine VL.q (Q.move rfl) ?_
  refine VL.quietE (v' := .bool false) (by decide) (Q.lt rfl rfl) (congrArg Value.bool (decide_eq_false (by omega))) ?_
  refine VL.q (Q.move rfl) ?_
  refine VL.yes rfl rfl ?_
  refine VL.q (Q.move rfl) ?_
  refine VL.yes rfl rfl ?_
  refine VL.quietE (v' := .bool false) (by decide) (Q.gt rfl rfl) (congrArg Value.bool (decide_eq_false (by omega))) ?_
  refine VL.quietE (v' := .bool false) (by decide) (Q.pick_false rfl rfl) (by rfl) ?_
  refine VL.q (Q.move rfl) ?_
  refine VL.yes rfl rfl ?_
  refine VL.q (Q.fieldAddr fa50_9 rfl) ?_
  refine VL.yes rfl rfl ?_
  refine VL.q (Q.load1 ty3 rfl zM rfl) ?_
  refine VL.yes rfl rfl ?_
  refine VL.quietE (v' := .bool false) (by decide) (Q.lt rfl rfl) (congrArg Value.bool (decide_eq_false (by omega))) ?_
  refine VL.quietE (v' := .bool false) (by decide) (Q.pick_false rfl rfl) (by rfl) ?_
  refine VL.q (Q.move rfl) ?_
  refine VL.yes rfl rfl ?_
  refine VL.q (Q.fieldAddr fa50_9 rfl) ?_
  refine VL.yes rfl rfl ?_
  refine VL.q (Q.load1 ty3 rfl zM rfl) ?_
  refine VL.yes rfl rfl ?_
  refine VL.quietE (v' := .bool false) (by decide) (Q.gt rfl rfl) (congrArg Value.bool (decide_eq_false (by omega))) ?_
  refine VL.quietE (v' := .bool false) (by decide) (Q.pick_false rfl rfl) (by rfl) ?_
  refine VL.q (Q.move rfl) ?_
  refine VL.yes rfl rfl ?_
  refine VL.q (Q.move rfl) ?_
  refine VL.yes rfl rfl ?_
  refine VL.quietE (v' := .bool false) (by decide) (Q.lt rfl rfl) (congrArg Value.bool (decide_eq_false (by omega))) ?_
  refine VL.quietE (v' := .bool false) (by decide) (Q.pick_false rfl rfl) (by rfl) ?_
  refine VL.q (Q.move rfl) ?_
  refine VL.yes rfl rfl ?_
  refine VL.q (Q.move rfl) ?_
  refine VL.yes rfl rfl ?_
  refine VL.quietE (v' := .bool false) (by decide) (Q.gt rfl rfl) (congrArg Value.bool (decide_eq_false (by omega))) ?_
  refine VL.quietE (v' := .bool false) (by decide) (Q.pick_false rfl rfl) (by rfl) ?_
  refine VL.nil ?_
  refine VE.seq ?_
  refine VC.condF rfl ?_
  refine VC.skip ?_
  refine VE.seq ?_
  refine VC.seq ?_
  refine VC.seq ?_
  refine VC.region ?_
  refine VL.q (Q.move rfl) ?_
  refine VL.q (Q.loadA ty46 rfl zM zS) ?_
  refine VL.eff (O.call0 ok38 rfl rfl (by decide) (until_c _ _) (fun _ _ _ => trivial) ?_)
  intro x47 y47
  refine VL.q (Q.gt rfl rfl) ?_
  refine VL.nil ?_
  refine VE.seq ?_
  refine VC.cond rfl ?_ ?_
  · intro h48
    refine VK.keep (by exact .cons (i := 3) rfl (.cons (i := 4) rfl (.cons (i := 5) rfl (.cons (i := 6) rfl (.cons (i := 7) rfl (.cons (i := 10) rfl (.cons (i := 11) rfl ( .nil)))))))) ?_
    refine VC.region ?_
    refine VL.q (Q.fieldAddr fa46_0 rfl) ?_
    refine VL.eff (O.store ty3 rfl rfl rfl rfl zU zP ?_)
    refine VL.nil ?_
    refine VE.seq ?_
    refine VC.seq ?_
    refine VC.region ?_
    refine VL.q (Q.fieldAddr fa46_1 rfl) ?_
    refine VL.eff (O.store ty3 rfl rfl rfl rfl zU zP ?_)
    refine VL.nil ?_
    refine VE.seq ?_
    refine VC.seq ?_
    refine VC.seq ?_
    refine VC.region ?_
    refine VL.q (Q.move rfl) ?_
    refine VL.q (Q.fieldAddr fa50_9 rfl) ?_
    refine VL.q (Q.load1 ty3 rfl zM rfl) ?_
    refine VL.q ((by first | exact Q.addI rfl rfl (by omega) (by omega) | exact Q.add rfl rfl)) ?_
    refine VL.q (Q.assign rfl) ?_
    refine VL.nil ?_
    refine VE.seq ?_
    refine VC.seq ?_
    refine VC.region ?_
    refine VL.q (Q.fieldAddr fa50_10 rfl) ?_
    refine VL.q (Q.loadA ty43 rfl zM zS) ?_
    refine VL.q (Q.loadA ty43 rfl zM zS) ?_
    refine VL.quietE (v' := .bool true) (by decide) (Q.neS flt43 (by decide) ty43 eg43 rfl rfl rfl rfl) (by rfl) ?_
    refine VL.q (Q.move rfl) ?_
    refine VL.yes rfl rfl ?_
    refine VL.q (Q.move rfl) ?_
    refine VL.yes rfl rfl ?_
    refine VL.q (Q.fieldAddr fa46_0 rfl) ?_
    refine VL.yes rfl rfl ?_
    refine VL.q (Q.load1 ty3 rfl zM rfl) ?_
    refine VL.yes rfl rfl ?_
    refine VL.q (Q.gt rfl rfl) ?_
    refine VL.q (Q.pick_true rfl rfl) ?_
    refine VL.nil ?_
    refine VE.seq ?_
    refine VC.cond rfl ?_ ?_
    · intro h64
      refine VC.seq ?_
      refine VC.seq ?_
      refine VC.region ?_
      refine VL.q (Q.loadA ty50 rfl zM zS) ?_
      refine VL.eff (O.call0 ok39 rfl rfl (by decide) (request_rts D) (fun _ _ _ => trivial) ?_)
      intro x66 y66
      refine VL.nil ?_
      refine VE.seq ?_
      refine VC.condT rfl ?_
      refine VC.region ?_
      refine VL.q (Q.fieldAddr fa46_0 rfl) ?_
      refine VL.q (Q.load1 ty3 rfl zM rfl) ?_
      refine VL.q (Q.move rfl) ?_
      refine VL.q ((by first | exact Q.addI rfl rfl (by omega) (by omega) | exact Q.add rfl rfl)) ?_
      refine VL.q (Q.move rfl) ?_
      refine VL.q ((by first | exact Q.addI rfl rfl (by omega) (by omega) | exact Q.add rfl rfl)) ?_
      refine VL.q ((by first | exact Q.addI rfl rfl (by omega) (by omega) | exact Q.add rfl rfl)) ?_
      refine VL.q (Q.max2 rfl rfl) ?_
      refine VL.q (Q.fieldAddr fa46_1 rfl) ?_
      refine VL.eff (O.store ty3 rfl rfl rfl rfl zU zP ?_)
      refine VL.nil ?_
      refine VE.seq ?_
      refine VC.region ?_
      refine VL.q (Q.move rfl) ?_
      refine VL.q (Q.fieldAddr fa46_0 rfl) ?_
      refine VL.eff (O.store ty3 rfl rfl rfl rfl zU zP ?_)
      refine VL.nil ?_
      refine VE.seq ?_
      refine VC.seq ?_
      refine VC.region ?_
      refine VL.q (Q.loadA ty46 rfl zM zS) ?_
      refine VL.eff (O.store ty46 rfl rfl rfl rfl zU zP ?_)
      refine VL.q (Q.assign rfl) ?_
      refine VL.nil ?_
      refine VE.seq ?_
      refine VC.ret ?_
      refine VE.ret rfl (.cell ty46 rfl zM rfl (.tmp rfl .nil)) () ?_ ?_ (List.nil_sublist _)
      · trivial
      · refine navEq ?_ ?_ <;> simp only [hearU, hearL, if_true, Bool.false_eq_true, if_false] <;> simp only [decide_eq_true_eq, decide_eq_false_iff_not] at * <;> (repeat' split) <;> omega
    · intro h64
      refine VC.skip ?_
      refine VE.seq ?_
      refine VC.seq ?_
      refine VC.region ?_
      refine VL.q (Q.loadA ty46 rfl zM zS) ?_
      refine VL.eff (O.store ty46 rfl rfl rfl rfl zU zP ?_)
      refine VL.q (Q.assign rfl) ?_
      refine VL.nil ?_
      refine VE.seq ?_
      refine VC.ret ?_
      refine VE.ret rfl (.cell ty46 rfl zM rfl (.tmp rfl .nil)) () ?_ ?_ (List.nil_sublist _)
      · trivial
      · refine navEq ?_ ?_ <;> simp only [hearU, hearL, if_true, Bool.false_eq_true, if_false] <;> simp only [decide_eq_true_eq, decide_eq_false_iff_not] at * <;> (repeat' split) <;> omega
  · intro h48
    refine VC.skip ?_
    refine VE.seq ?_
    refine VC.seq ?_
    refine VK.keep (by exact .cons (i := 3) rfl (.cons (i := 4) rfl (.cons (i := 5) rfl (.cons (i := 6) rfl (.cons (i := 7) rfl (.cons (i := 10) rfl (.cons (i := 11) rfl ( .nil)))))))) ?_
    refine VC.region ?_
    refine VL.q (Q.fieldAddr fa46_1 rfl) ?_
    refine VL.eff (O.store ty3 rfl rfl rfl rfl zU zP ?_)
    refine VL.nil ?_
    refine VE.seq ?_
    refine VC.seq ?_
    refine VC.seq ?_
    refine VC.region ?_
    refine VL.q (Q.move rfl) ?_
    refine VL.q (Q.fieldAddr fa50_9 rfl) ?_
    refine VL.q (Q.load1 ty3 rfl zM rfl) ?_
    refine VL.q ((by first | exact Q.addI rfl rfl (by omega) (by omega) | exact Q.add rfl rfl)) ?_
    refine VL.q (Q.assign rfl) ?_
    refine VL.nil ?_
    refine VE.seq ?_
    refine VC.seq ?_
    refine VC.region ?_
    refine VL.q (Q.fieldAddr fa50_10 rfl) ?_
    refine VL.q (Q.loadA ty43 rfl zM zS) ?_
    refine VL.q (Q.loadA ty43 rfl zM zS) ?_
    refine VL.quietE (v' := .bool true) (by decide) (Q.neS flt43 (by decide) ty43 eg43 rfl rfl rfl rfl) (by rfl) ?_
    refine VL.q (Q.move rfl) ?_
    refine VL.yes rfl rfl ?_
    refine VL.q (Q.move rfl) ?_
    refine VL.yes rfl rfl ?_
    refine VL.q (Q.fieldAddr fa46_0 rfl) ?_
    refine VL.yes rfl rfl ?_
    refine VL.q (Q.load1 ty3 rfl zM rfl) ?_
    refine VL.yes rfl rfl ?_
    refine VL.q (Q.gt rfl rfl) ?_
    refine VL.q (Q.pick_true rfl rfl) ?_
    refine VL.nil ?_
    refine VE.seq ?_
    refine VC.cond rfl ?_ ?_
    · intro h64
      refine VC.seq ?_
      refine VC.seq ?_
      refine VC.region ?_
      refine VL.q (Q.loadA ty50 rfl zM zS) ?_
      refine VL.eff (O.call0 ok39 rfl rfl (by decide) (request_rts D) (fun _ _ _ => trivial) ?_)
      intro x66_1 y66_1
      refine VL.nil ?_
      refine VE.seq ?_
      refine VC.condT rfl ?_
      refine VC.region ?_
      refine VL.q (Q.fieldAddr fa46_0 rfl) ?_
      refine VL.q (Q.load1 ty3 rfl zM rfl) ?_
      refine VL.q (Q.move rfl) ?_
      refine VL.q ((by first | exact Q.addI rfl rfl (by omega) (by omega) | exact Q.add rfl rfl)) ?_
      refine VL.q (Q.move rfl) ?_
      refine VL.q ((by first | exact Q.addI rfl rfl (by omega) (by omega) | exact Q.add rfl rfl)) ?_
      refine VL.q ((by first | exact Q.addI rfl rfl (by omega) (by omega) | exact Q.add rfl rfl)) ?_
      refine VL.q (Q.max2 rfl rfl) ?_
      refine VL.q (Q.fieldAddr fa46_1 rfl) ?_
      refine VL.eff (O.store ty3 rfl rfl rfl rfl zU zP ?_)
      refine VL.nil ?_
      refine VE.seq ?_
      refine VC.region ?_
      refine VL.q (Q.move rfl) ?_
      refine VL.q (Q.fieldAddr fa46_0 rfl) ?_
      refine VL.eff (O.store ty3 rfl rfl rfl rfl zU zP ?_)
      refine VL.nil ?_
      refine VE.seq ?_
      refine VC.seq ?_
      refine VC.region ?_
      refine VL.q (Q.loadA ty46 rfl zM zS) ?_
      refine VL.eff (O.store ty46 rfl rfl rfl rfl zU zP ?_)
      refine VL.q (Q.assign rfl) ?_
      refine VL.nil ?_
      refine VE.seq ?_
      refine VC.ret ?_
      refine VE.ret rfl (.cell ty46 rfl zM rfl (.tmp rfl .nil)) () ?_ ?_ (List.nil_sublist _)
      · trivial
      · refine navEq ?_ ?_ <;> simp only [hearU, hearL, if_true, Bool.false_eq_true, if_false] <;> simp only [decide_eq_true_eq, decide_eq_false_iff_not] at * <;> (repeat' split) <;> omega
    · intro h64
      refine VC.skip ?_
      refine VE.seq ?_
      refine VC.seq ?_
      refine VC.region ?_
      refine VL.q (Q.loadA ty46 rfl zM zS) ?_
      refine VL.eff (O.store ty46 rfl rfl rfl rfl zU zP ?_)
      refine VL.q (Q.assign rfl) ?_
      refine VL.nil ?_
      refine VE.seq ?_
      refine VC.ret ?_
      refine VE.ret rfl (.cell ty46 rfl zM rfl (.tmp rfl .nil)) () ?_ ?_ (List.nil_sublist _)
      · trivial
      · refine navEq ?_ ?_ <;> simp only [hearU, hearL, if_true, Bool.false_eq_true, if_false] <;> simp only [decide_eq_true_eq, decide_eq_false_iff_not] at * <;> (repeat' split) <;> omega

theorem heard_cts (u l : Int) (h : navOk u l) (D : Nat) (hD : D ≤ 32767) (e ans : Int) (he : 0 ≤ e ∧ e ≤ 1099511627776) (ha : 0 ≤ ans ∧ ans ≤ 32767) :
    Does Tryd.prog 17 [.agg #[.int .i64 u, .int .i64 l], .agg #[.int .u8 2, .int .u8 0, .int .u8 0, .int .u8 0, .int .u8 0, .int .u8 3], .agg #[.int .u8 1, .int .u8 12, .bool false, .bool false, .bool false, .bool false, .bool false, .bool false, .bool false, .int .i64 (D : Int), .int .u8 2, .int .u8 0, .int .u8 0, .int .u8 0, .int .u8 0, .int .u8 2, .int .u8 0, .int .u8 0, .int .u8 0, .int .u8 0, .int .u8 0, .int .u8 0, .int .u8 0, .int .u8 0, .int .u8 0, .int .u8 0, .int .u8 0, .int .u8 0, .int .u8 0, .int .u8 0, .int .u8 0, .int .u8 0, .int .u8 0, .int .u8 0, .int .i64 0, .int .i64 0, .int .i64 0, .int .u8 0, .bool false, .bool false], .int .i64 e, .int .i64 ans] [] (fun _ => True) (X := Unit) (fun _ => True) (fun _ => .tuple #[.agg #[.int .i64 (hearU u l e D), .int .i64 (hearL false u l e D ans)], .int .i64 0]) (fun _ => []) := by
  have hn := h
  obtain ⟨hu, hl⟩ := h
  refine Does.enter Tryd.func17 rfl (m := 79) rfl (by simp) ?_
  intro W0 hro
  refine VC.seq ?_
  refine VC.region ?_
  refine VL.eff (O.box rfl rfl (by decide) ?_)
  intro g5
  refine VL.eff (O.box rfl rfl (by decide) ?_)
  intro g6
  refine VL.eff (O.box rfl rfl (by decide) ?_)
  intro g7
  refine VL.eff (O.alloc zo46 (by decide) ?_)
  intro g10
  refine VL.q (Q.assign rfl) ?_
  refine VL.nil ?_
  refine VE.seq ?_
  refine VC.seq ?_
  refine VC.seq ?_
  refine VC.region ?_
  refine VL.q (Q.loadA ty46 rfl zM zS) ?_
  refine VL.eff (O.call0 ok37 rfl rfl (by decide) (ncheck_c _ _ hn) (fun _ _ _ => trivial) ?_)
  intro x15 y15
  refine VL.q (Q.assign rfl) ?_
  refine VL.nil ?_
  refine VE.seq ?_
  refine VC.seq ?_
  refine VC.region ?_
  refine VL.q (Q.move rfl) ?_
  refine VL.quietE (v' := .bool false) (by decide) (Q.ne rfl rfl) (by rfl) ?_
  refine VL.nil ?_
  refine VE.seq ?_
  refine VC.condF rfl ?_
  refine VC.skip ?_
  refine VE.seq ?_
  refine VC.seq ?_
  refine VC.seq ?_
  refine VC.region ?_
  refine VL.q (Q.move rfl) ?_
  refine VL.quietE (v' := .bool false) (by decide) (Q.lt rfl rfl) (congrArg Value.bool (decide_eq_false (by omega))) ?_
  refine VL.q (Q.move rfl) ?_
  refine VL.yes rfl rfl ?_
  refine VL.q (Q.move rfl) ?_
  refine VL.yes rfl rfl ?_
  refine VL.quietE (v' := .bool false) (by decide) (Q.gt rfl rfl) (congrArg Value.bool (decide_eq_false (by omega))) ?_
  refine VL.quietE (v' := .bool false) (by decide) (Q.pick_false rfl rfl) (by rfl) ?_
  refine VL.q (Q.move rfl) ?_
  refine VL.yes rfl rfl ?_
  refine VL.q (Q.fieldAddr fa50_9 rfl) ?_
  refine VL.yes rfl rfl ?_
  refine VL.q (Q.load1 ty3 rfl zM rfl) ?_
  refine VL.yes rfl rfl ?_
  refine VL.quietE (v' := .bool false) (by decide) (Q.lt rfl rfl) (congrArg Value.bool (decide_eq_false (by omega))) ?_
  refine VL.quietE (v' := .bool false) (by decide) (Q.pick_false rfl rfl) (by rfl) ?_
  refine VL.q (Q.move rfl) ?_
  refine VL.yes rfl rfl ?_
  refine VL.q (Q.fieldAddr fa50_9 rfl) ?_
  refine VL.yes rfl rfl ?_
  refine VL.q (Q.load1 ty3 rfl zM rfl) ?_
  refine VL.yes rfl rfl ?_
  refine VL.quietE (v' := .bool false) (by decide) (Q.gt rfl rfl) (congrArg Value.bool (decide_eq_false (by omega))) ?_
  refine VL.quietE (v' := .bool false) (by decide) (Q.pick_false rfl rfl) (by rfl) ?_
  refine VL.q (Q.move rfl) ?_
  refine VL.yes rfl rfl ?_
  refine VL.q (Q.move rfl) ?_
  refine VL.yes rfl rfl ?_
  refine VL.quietE (v' := .bool false) (by decide) (Q.lt rfl rfl) (congrArg Value.bool (decide_eq_false (by omega))) ?_
  refine VL.quietE (v' := .bool false) (by decide) (Q.pick_false rfl rfl) (by rfl) ?_
  refine VL.q (Q.move rfl) ?_
  refine VL.yes rfl rfl ?_
  refine VL.q (Q.move rfl) ?_
  refine VL.yes rfl rfl ?_
  refine VL.quietE (v' := .bool false) (by decide) (Q.gt rfl rfl) (congrArg Value.bool (decide_eq_false (by omega))) ?_
  refine VL.quietE (v' := .bool false) (by decide) (Q.pick_false rfl rfl) (by rfl) ?_
  refine VL.nil ?_
  refine VE.seq ?_
  refine VC.condF rfl ?_
  refine VC.skip ?_
  refine VE.seq ?_
  refine VC.seq ?_
  refine VC.seq ?_
  refine VC.region ?_
  refine VL.q (Q.move rfl) ?_
  refine VL.q (Q.loadA ty46 rfl zM zS) ?_
  refine VL.eff (O.call0 ok38 rfl rfl (by decide) (until_c _ _) (fun _ _ _ => trivial) ?_)
  intro x47 y47
  refine VL.q (Q.gt rfl rfl) ?_
  refine VL.nil ?_
  refine VE.seq ?_
  refine VC.cond rfl ?_ ?_
  · intro h48
    refine VK.keep (by exact .cons (i := 3) rfl (.cons (i := 4) rfl (.cons (i := 5) rfl (.cons (i := 6) rfl (.cons (i := 7) rfl (.cons (i := 10) rfl (.cons (i := 11) rfl ( .nil)))))))) ?_
    refine VC.region ?_
    refine VL.q (Q.fieldAddr fa46_0 rfl) ?_
    refine VL.eff (O.store ty3 rfl rfl rfl rfl zU zP ?_)
    refine VL.nil ?_
    refine VE.seq ?_
    refine VC.seq ?_
    refine VC.region ?_
    refine VL.q (Q.fieldAddr fa46_1 rfl) ?_
    refine VL.eff (O.store ty3 rfl rfl rfl rfl zU zP ?_)
    refine VL.nil ?_
    refine VE.seq ?_
    refine VC.seq ?_
    refine VC.seq ?_
    refine VC.region ?_
    refine VL.q (Q.move rfl) ?_
    refine VL.q (Q.fieldAddr fa50_9 rfl) ?_
    refine VL.q (Q.load1 ty3 rfl zM rfl) ?_
    refine VL.q ((by first | exact Q.addI rfl rfl (by omega) (by omega) | exact Q.add rfl rfl)) ?_
    refine VL.q (Q.assign rfl) ?_
    refine VL.nil ?_
    refine VE.seq ?_
    refine VC.seq ?_
    refine VC.region ?_
    refine VL.q (Q.fieldAddr fa50_10 rfl) ?_
    refine VL.q (Q.loadA ty43 rfl zM zS) ?_
    refine VL.q (Q.loadA ty43 rfl zM zS) ?_
    refine VL.quietE (v' := .bool true) (by decide) (Q.neS flt43 (by decide) ty43 eg43 rfl rfl rfl rfl) (by rfl) ?_
    refine VL.q (Q.move rfl) ?_
    refine VL.yes rfl rfl ?_
    refine VL.q (Q.move rfl) ?_
    refine VL.yes rfl rfl ?_
    refine VL.q (Q.fieldAddr fa46_0 rfl) ?_
    refine VL.yes rfl rfl ?_
    refine VL.q (Q.load1 ty3 rfl zM rfl) ?_
    refine VL.yes rfl rfl ?_
    refine VL.q (Q.gt rfl rfl) ?_
    refine VL.q (Q.pick_true rfl rfl) ?_
    refine VL.nil ?_
    refine VE.seq ?_
    refine VC.cond rfl ?_ ?_
    · intro h64
      refine VC.seq ?_
      refine VC.seq ?_
      refine VC.region ?_
      refine VL.q (Q.loadA ty50 rfl zM zS) ?_
      refine VL.eff (O.call0 ok39 rfl rfl (by decide) (request_cts D) (fun _ _ _ => trivial) ?_)
      intro x66 y66
      refine VL.nil ?_
      refine VE.seq ?_
      refine VC.condF rfl ?_
      refine VC.skip ?_
      refine VE.seq ?_
      refine VC.region ?_
      refine VL.q (Q.move rfl) ?_
      refine VL.q (Q.fieldAddr fa46_0 rfl) ?_
      refine VL.eff (O.store ty3 rfl rfl rfl rfl zU zP ?_)
      refine VL.nil ?_
      refine VE.seq ?_
      refine VC.seq ?_
      refine VC.region ?_
      refine VL.q (Q.loadA ty46 rfl zM zS) ?_
      refine VL.eff (O.store ty46 rfl rfl rfl rfl zU zP ?_)
      refine VL.q (Q.assign rfl) ?_
      refine VL.nil ?_
      refine VE.seq ?_
      refine VC.ret ?_
      refine VE.ret rfl (.cell ty46 rfl zM rfl (.tmp rfl .nil)) () ?_ ?_ (List.nil_sublist _)
      · trivial
      · refine navEq ?_ ?_ <;> simp only [hearU, hearL, if_true, Bool.false_eq_true, if_false] <;> simp only [decide_eq_true_eq, decide_eq_false_iff_not] at * <;> (repeat' split) <;> omega
    · intro h64
      refine VC.skip ?_
      refine VE.seq ?_
      refine VC.seq ?_
      refine VC.region ?_
      refine VL.q (Q.loadA ty46 rfl zM zS) ?_
      refine VL.eff (O.store ty46 rfl rfl rfl rfl zU zP ?_)
      refine VL.q (Q.assign rfl) ?_
      refine VL.nil ?_
      refine VE.seq ?_
      refine VC.ret ?_
      refine VE.ret rfl (.cell ty46 rfl zM rfl (.tmp rfl .nil)) () ?_ ?_ (List.nil_sublist _)
      · trivial
      · refine navEq ?_ ?_ <;> simp only [hearU, hearL, if_true, Bool.false_eq_true, if_false] <;> simp only [decide_eq_true_eq, decide_eq_false_iff_not] at * <;> (repeat' split) <;> omega
  · intro h48
    refine VC.skip ?_
    refine VE.seq ?_
    refine VC.seq ?_
    refine VK.keep (by exact .cons (i := 3) rfl (.cons (i := 4) rfl (.cons (i := 5) rfl (.cons (i := 6) rfl (.cons (i := 7) rfl (.cons (i := 10) rfl (.cons (i := 11) rfl ( .nil)))))))) ?_
    refine VC.region ?_
    refine VL.q (Q.fieldAddr fa46_1 rfl) ?_
    refine VL.eff (O.store ty3 rfl rfl rfl rfl zU zP ?_)
    refine VL.nil ?_
    refine VE.seq ?_
    refine VC.seq ?_
    refine VC.seq ?_
    refine VC.region ?_
    refine VL.q (Q.move rfl) ?_
    refine VL.q (Q.fieldAddr fa50_9 rfl) ?_
    refine VL.q (Q.load1 ty3 rfl zM rfl) ?_
    refine VL.q ((by first | exact Q.addI rfl rfl (by omega) (by omega) | exact Q.add rfl rfl)) ?_
    refine VL.q (Q.assign rfl) ?_
    refine VL.nil ?_
    refine VE.seq ?_
    refine VC.seq ?_
    refine VC.region ?_
    refine VL.q (Q.fieldAddr fa50_10 rfl) ?_
    refine VL.q (Q.loadA ty43 rfl zM zS) ?_
    refine VL.q (Q.loadA ty43 rfl zM zS) ?_
    refine VL.quietE (v' := .bool true) (by decide) (Q.neS flt43 (by decide) ty43 eg43 rfl rfl rfl rfl) (by rfl) ?_
    refine VL.q (Q.move rfl) ?_
    refine VL.yes rfl rfl ?_
    refine VL.q (Q.move rfl) ?_
    refine VL.yes rfl rfl ?_
    refine VL.q (Q.fieldAddr fa46_0 rfl) ?_
    refine VL.yes rfl rfl ?_
    refine VL.q (Q.load1 ty3 rfl zM rfl) ?_
    refine VL.yes rfl rfl ?_
    refine VL.q (Q.gt rfl rfl) ?_
    refine VL.q (Q.pick_true rfl rfl) ?_
    refine VL.nil ?_
    refine VE.seq ?_
    refine VC.cond rfl ?_ ?_
    · intro h64
      refine VC.seq ?_
      refine VC.seq ?_
      refine VC.region ?_
      refine VL.q (Q.loadA ty50 rfl zM zS) ?_
      refine VL.eff (O.call0 ok39 rfl rfl (by decide) (request_cts D) (fun _ _ _ => trivial) ?_)
      intro x66_1 y66_1
      refine VL.nil ?_
      refine VE.seq ?_
      refine VC.condF rfl ?_
      refine VC.skip ?_
      refine VE.seq ?_
      refine VC.region ?_
      refine VL.q (Q.move rfl) ?_
      refine VL.q (Q.fieldAddr fa46_0 rfl) ?_
      refine VL.eff (O.store ty3 rfl rfl rfl rfl zU zP ?_)
      refine VL.nil ?_
      refine VE.seq ?_
      refine VC.seq ?_
      refine VC.region ?_
      refine VL.q (Q.loadA ty46 rfl zM zS) ?_
      refine VL.eff (O.store ty46 rfl rfl rfl rfl zU zP ?_)
      refine VL.q (Q.assign rfl) ?_
      refine VL.nil ?_
      refine VE.seq ?_
      refine VC.ret ?_
      refine VE.ret rfl (.cell ty46 rfl zM rfl (.tmp rfl .nil)) () ?_ ?_ (List.nil_sublist _)
      · trivial
      · refine navEq ?_ ?_ <;> simp only [hearU, hearL, if_true, Bool.false_eq_true, if_false] <;> simp only [decide_eq_true_eq, decide_eq_false_iff_not] at * <;> (repeat' split) <;> omega
    · intro h64
      refine VC.skip ?_
      refine VE.seq ?_
      refine VC.seq ?_
      refine VC.region ?_
      refine VL.q (Q.loadA ty46 rfl zM zS) ?_
      refine VL.eff (O.store ty46 rfl rfl rfl rfl zU zP ?_)
      refine VL.q (Q.assign rfl) ?_
      refine VL.nil ?_
      refine VE.seq ?_
      refine VC.ret ?_
      refine VE.ret rfl (.cell ty46 rfl zM rfl (.tmp rfl .nil)) () ?_ ?_ (List.nil_sublist _)
      · trivial
      · refine navEq ?_ ?_ <;> simp only [hearU, hearL, if_true, Bool.false_eq_true, if_false] <;> simp only [decide_eq_true_eq, decide_eq_false_iff_not] at * <;> (repeat' split) <;> omega

theorem heard_data (u l : Int) (h : navOk u l) (D : Nat) (hD : D ≤ 32767) (e ans : Int) (he : 0 ≤ e ∧ e ≤ 1099511627776) (ha : 0 ≤ ans ∧ ans ≤ 32767) :
    Does Tryd.prog 17 [.agg #[.int .i64 u, .int .i64 l], .agg #[.int .u8 2, .int .u8 0, .int .u8 0, .int .u8 0, .int .u8 0, .int .u8 3], .agg #[.int .u8 2, .int .u8 8, .bool false, .bool false, .bool false, .bool false, .bool false, .bool false, .bool false, .int .i64 (D : Int), .int .u8 2, .int .u8 0, .int .u8 0, .int .u8 0, .int .u8 0, .int .u8 1, .int .u8 2, .int .u8 0, .int .u8 0, .int .u8 0, .int .u8 0, .int .u8 2, .int .u8 0, .int .u8 0, .int .u8 0, .int .u8 0, .int .u8 0, .int .u8 0, .int .u8 0, .int .u8 0, .int .u8 0, .int .u8 0, .int .u8 0, .int .u8 0, .int .i64 0, .int .i64 0, .int .i64 0, .int .u8 0, .bool false, .bool false], .int .i64 e, .int .i64 ans] [] (fun _ => True) (X := Unit) (fun _ => True) (fun _ => .tuple #[.agg #[.int .i64 (hearU u l e D), .int .i64 (hearL false u l e D ans)], .int .i64 0]) (fun _ => []) := by
  have hn := h
  obtain ⟨hu, hl⟩ := h
  refine Does.enter Tryd.func17 rfl (m := 79) rfl (by simp) ?_
  intro W0 hro
  refine VC.seq ?_
  refine VC.region ?_
  refine VL.eff (O.box rfl rfl (by decide) ?_)
  intro g5
  refine VL.eff (O.box rfl rfl (by decide) ?_)
  intro g6
  refine VL.eff (O.box rfl rfl (by decide) ?_)
  intro g7
  refine VL.eff (O.alloc zo46 (by decide) ?_)
  intro g10
  refine VL.q (Q.assign rfl) ?_
  refine VL.nil ?_
  refine VE.seq ?_
  refine VC.seq ?_
  refine VC.seq ?_
  refine VC.region ?_
  refine VL.q (Q.loadA ty46 rfl zM zS) ?_
  refine VL.eff (O.call0 ok37 rfl rfl (by decide) (ncheck_c _ _ hn) (fun _ _ _ => trivial) ?_)
  intro x15 y15
  refine VL.q (Q.assign rfl) ?_
  refine VL.nil ?_
  refine VE.seq ?_
  refine VC.seq ?_
  refine VC.region ?_
  refine VL.q (Q.move rfl) ?_
  refine VL.quietE (v' := .bool false) (by decide) (Q.ne rfl rfl) (by rfl) ?_
  refine VL.nil ?_
  refine VE.seq ?_
  refine VC.condF rfl ?_
  refine VC.skip ?_
  refine VE.seq ?_
  refine VC.seq ?_
  refine VC.seq ?_
  refine VC.region ?_
  refine VL.q (Q.move rfl) ?_
  refine VL.quietE (v' := .bool false) (by decide) (Q.lt rfl rfl) (congrArg Value.bool (decide_eq_false (by omega))) ?_
  refine VL.q (Q.move rfl) ?_
  refine VL.yes rfl rfl ?_
  refine VL.q (Q.move rfl) ?_
  refine VL.yes rfl rfl ?_
  refine VL.quietE (v' := .bool false) (by decide) (Q.gt rfl rfl) (congrArg Value.bool (decide_eq_false (by omega))) ?_
  refine VL.quietE (v' := .bool false) (by decide) (Q.pick_false rfl rfl) (by rfl) ?_
  refine VL.q (Q.move rfl) ?_
  refine VL.yes rfl rfl ?_
  refine VL.q (Q.fieldAddr fa50_9 rfl) ?_
  refine VL.yes rfl rfl ?_
  refine VL.q (Q.load1 ty3 rfl zM rfl) ?_
  refine VL.yes rfl rfl ?_
  refine VL.quietE (v' := .bool false) (by decide) (Q.lt rfl rfl) (congrArg Value.bool (decide_eq_false (by omega))) ?_
  refine VL.quietE (v' := .bool false) (by decide) (Q.pick_false rfl rfl) (by rfl) ?_
  refine VL.q (Q.move rfl) ?_
  refine VL.yes rfl rfl ?_
  refine VL.q (Q.fieldAddr fa50_9 rfl) ?_
  refine VL.yes rfl rfl ?_
  refine VL.q (Q.load1 ty3 rfl zM rfl) ?_
  refine VL.yes rfl rfl ?_
  refine VL.quietE (v' := .bool false) (by decide) (Q.gt rfl rfl) (congrArg Value.bool (decide_eq_false (by omega))) ?_
  refine VL.quietE (v' := .bool false) (by decide) (Q.pick_false rfl rfl) (by rfl) ?_
  refine VL.q (Q.move rfl) ?_
  refine VL.yes rfl rfl ?_
  refine VL.q (Q.move rfl) ?_
  refine VL.yes rfl rfl ?_
  refine VL.quietE (v' := .bool false) (by decide) (Q.lt rfl rfl) (congrArg Value.bool (decide_eq_false (by omega))) ?_
  refine VL.quietE (v' := .bool false) (by decide) (Q.pick_false rfl rfl) (by rfl) ?_
  refine VL.q (Q.move rfl) ?_
  refine VL.yes rfl rfl ?_
  refine VL.q (Q.move rfl) ?_
  refine VL.yes rfl rfl ?_
  refine VL.quietE (v' := .bool false) (by decide) (Q.gt rfl rfl) (congrArg Value.bool (decide_eq_false (by omega))) ?_
  refine VL.quietE (v' := .bool false) (by decide) (Q.pick_false rfl rfl) (by rfl) ?_
  refine VL.nil ?_
  refine VE.seq ?_
  refine VC.condF rfl ?_
  refine VC.skip ?_
  refine VE.seq ?_
  refine VC.seq ?_
  refine VC.seq ?_
  refine VC.region ?_
  refine VL.q (Q.move rfl) ?_
  refine VL.q (Q.loadA ty46 rfl zM zS) ?_
  refine VL.eff (O.call0 ok38 rfl rfl (by decide) (until_c _ _) (fun _ _ _ => trivial) ?_)
  intro x47 y47
  refine VL.q (Q.gt rfl rfl) ?_
  refine VL.nil ?_
  refine VE.seq ?_
  refine VC.cond rfl ?_ ?_
  · intro h48
    refine VK.keep (by exact .cons (i := 3) rfl (.cons (i := 4) rfl (.cons (i := 5) rfl (.cons (i := 6) rfl (.cons (i := 7) rfl (.cons (i := 10) rfl (.cons (i := 11) rfl ( .nil)))))))) ?_
    refine VC.region ?_
    refine VL.q (Q.fieldAddr fa46_0 rfl) ?_
    refine VL.eff (O.store ty3 rfl rfl rfl rfl zU zP ?_)
    refine VL.nil ?_
    refine VE.seq ?_
    refine VC.seq ?_
    refine VC.region ?_
    refine VL.q (Q.fieldAddr fa46_1 rfl) ?_
    refine VL.eff (O.store ty3 rfl rfl rfl rfl zU zP ?_)
    refine VL.nil ?_
    refine VE.seq ?_
    refine VC.seq ?_
    refine VC.seq ?_
    refine VC.region ?_
    refine VL.q (Q.move rfl) ?_
    refine VL.q (Q.fieldAddr fa50_9 rfl) ?_
    refine VL.q (Q.load1 ty3 rfl zM rfl) ?_
    refine VL.q ((by first | exact Q.addI rfl rfl (by omega) (by omega) | exact Q.add rfl rfl)) ?_
    refine VL.q (Q.assign rfl) ?_
    refine VL.nil ?_
    refine VE.seq ?_
    refine VC.seq ?_
    refine VC.region ?_
    refine VL.q (Q.fieldAddr fa50_10 rfl) ?_
    refine VL.q (Q.loadA ty43 rfl zM zS) ?_
    refine VL.q (Q.loadA ty43 rfl zM zS) ?_
    refine VL.quietE (v' := .bool true) (by decide) (Q.neS flt43 (by decide) ty43 eg43 rfl rfl rfl rfl) (by rfl) ?_
    refine VL.q (Q.move rfl) ?_
    refine VL.yes rfl rfl ?_
    refine VL.q (Q.move rfl) ?_
    refine VL.yes rfl rfl ?_
    refine VL.q (Q.fieldAddr fa46_0 rfl) ?_
    refine VL.yes rfl rfl ?_
    refine VL.q (Q.load1 ty3 rfl zM rfl) ?_
    refine VL.yes rfl rfl ?_
    refine VL.q (Q.gt rfl rfl) ?_
    refine VL.q (Q.pick_true rfl rfl) ?_
    refine VL.nil ?_
    refine VE.seq ?_
    refine VC.cond rfl ?_ ?_
    · intro h64
      refine VC.seq ?_
      refine VC.seq ?_
      refine VC.region ?_
      refine VL.q (Q.loadA ty50 rfl zM zS) ?_
      refine VL.eff (O.call0 ok39 rfl rfl (by decide) (request_data D) (fun _ _ _ => trivial) ?_)
      intro x66 y66
      refine VL.nil ?_
      refine VE.seq ?_
      refine VC.condF rfl ?_
      refine VC.skip ?_
      refine VE.seq ?_
      refine VC.region ?_
      refine VL.q (Q.move rfl) ?_
      refine VL.q (Q.fieldAddr fa46_0 rfl) ?_
      refine VL.eff (O.store ty3 rfl rfl rfl rfl zU zP ?_)
      refine VL.nil ?_
      refine VE.seq ?_
      refine VC.seq ?_
      refine VC.region ?_
      refine VL.q (Q.loadA ty46 rfl zM zS) ?_
      refine VL.eff (O.store ty46 rfl rfl rfl rfl zU zP ?_)
      refine VL.q (Q.assign rfl) ?_
      refine VL.nil ?_
      refine VE.seq ?_
      refine VC.ret ?_
      refine VE.ret rfl (.cell ty46 rfl zM rfl (.tmp rfl .nil)) () ?_ ?_ (List.nil_sublist _)
      · trivial
      · refine navEq ?_ ?_ <;> simp only [hearU, hearL, if_true, Bool.false_eq_true, if_false] <;> simp only [decide_eq_true_eq, decide_eq_false_iff_not] at * <;> (repeat' split) <;> omega
    · intro h64
      refine VC.skip ?_
      refine VE.seq ?_
      refine VC.seq ?_
      refine VC.region ?_
      refine VL.q (Q.loadA ty46 rfl zM zS) ?_
      refine VL.eff (O.store ty46 rfl rfl rfl rfl zU zP ?_)
      refine VL.q (Q.assign rfl) ?_
      refine VL.nil ?_
      refine VE.seq ?_
      refine VC.ret ?_
      refine VE.ret rfl (.cell ty46 rfl zM rfl (.tmp rfl .nil)) () ?_ ?_ (List.nil_sublist _)
      · trivial
      · refine navEq ?_ ?_ <;> simp only [hearU, hearL, if_true, Bool.false_eq_true, if_false] <;> simp only [decide_eq_true_eq, decide_eq_false_iff_not] at * <;> (repeat' split) <;> omega
  · intro h48
    refine VC.skip ?_
    refine VE.seq ?_
    refine VC.seq ?_
    refine VK.keep (by exact .cons (i := 3) rfl (.cons (i := 4) rfl (.cons (i := 5) rfl (.cons (i := 6) rfl (.cons (i := 7) rfl (.cons (i := 10) rfl (.cons (i := 11) rfl ( .nil)))))))) ?_
    refine VC.region ?_
    refine VL.q (Q.fieldAddr fa46_1 rfl) ?_
    refine VL.eff (O.store ty3 rfl rfl rfl rfl zU zP ?_)
    refine VL.nil ?_
    refine VE.seq ?_
    refine VC.seq ?_
    refine VC.seq ?_
    refine VC.region ?_
    refine VL.q (Q.move rfl) ?_
    refine VL.q (Q.fieldAddr fa50_9 rfl) ?_
    refine VL.q (Q.load1 ty3 rfl zM rfl) ?_
    refine VL.q ((by first | exact Q.addI rfl rfl (by omega) (by omega) | exact Q.add rfl rfl)) ?_
    refine VL.q (Q.assign rfl) ?_
    refine VL.nil ?_
    refine VE.seq ?_
    refine VC.seq ?_
    refine VC.region ?_
    refine VL.q (Q.fieldAddr fa50_10 rfl) ?_
    refine VL.q (Q.loadA ty43 rfl zM zS) ?_
    refine VL.q (Q.loadA ty43 rfl zM zS) ?_
    refine VL.quietE (v' := .bool true) (by decide) (Q.neS flt43 (by decide) ty43 eg43 rfl rfl rfl rfl) (by rfl) ?_
    refine VL.q (Q.move rfl) ?_
    refine VL.yes rfl rfl ?_
    refine VL.q (Q.move rfl) ?_
    refine VL.yes rfl rfl ?_
    refine VL.q (Q.fieldAddr fa46_0 rfl) ?_
    refine VL.yes rfl rfl ?_
    refine VL.q (Q.load1 ty3 rfl zM rfl) ?_
    refine VL.yes rfl rfl ?_
    refine VL.q (Q.gt rfl rfl) ?_
    refine VL.q (Q.pick_true rfl rfl) ?_
    refine VL.nil ?_
    refine VE.seq ?_
    refine VC.cond rfl ?_ ?_
    · intro h64
      refine VC.seq ?_
      refine VC.seq ?_
      refine VC.region ?_
      refine VL.q (Q.loadA ty50 rfl zM zS) ?_
      refine VL.eff (O.call0 ok39 rfl rfl (by decide) (request_data D) (fun _ _ _ => trivial) ?_)
      intro x66_1 y66_1
      refine VL.nil ?_
      refine VE.seq ?_
      refine VC.condF rfl ?_
      refine VC.skip ?_
      refine VE.seq ?_
      refine VC.region ?_
      refine VL.q (Q.move rfl) ?_
      refine VL.q (Q.fieldAddr fa46_0 rfl) ?_
      refine VL.eff (O.store ty3 rfl rfl rfl rfl zU zP ?_)
      refine VL.nil ?_
      refine VE.seq ?_
      refine VC.seq ?_
      refine VC.region ?_
      refine VL.q (Q.loadA ty46 rfl zM zS) ?_
      refine VL.eff (O.store ty46 rfl rfl rfl rfl zU zP ?_)
      refine VL.q (Q.assign rfl) ?_
      refine VL.nil ?_
      refine VE.seq ?_
      refine VC.ret ?_
      refine VE.ret rfl (.cell ty46 rfl zM rfl (.tmp rfl .nil)) () ?_ ?_ (List.nil_sublist _)
      · trivial
      · refine navEq ?_ ?_ <;> simp only [hearU, hearL, if_true, Bool.false_eq_true, if_false] <;> simp only [decide_eq_true_eq, decide_eq_false_iff_not] at * <;> (repeat' split) <;> omega
    · intro h64
      refine VC.skip ?_
      refine VE.seq ?_
      refine VC.seq ?_
      refine VC.region ?_
      refine VL.q (Q.loadA ty46 rfl zM zS) ?_
      refine VL.eff (O.store ty46 rfl rfl rfl rfl zU zP ?_)
      refine VL.q (Q.assign rfl) ?_
      refine VL.nil ?_
      refine VE.seq ?_
      refine VC.ret ?_
      refine VE.ret rfl (.cell ty46 rfl zM rfl (.tmp rfl .nil)) () ?_ ?_ (List.nil_sublist _)
      · trivial
      · refine navEq ?_ ?_ <;> simp only [hearU, hearL, if_true, Bool.false_eq_true, if_false] <;> simp only [decide_eq_true_eq, decide_eq_false_iff_not] at * <;> (repeat' split) <;> omega

theorem heard_ack (u l : Int) (h : navOk u l) (D : Nat) (hD : D ≤ 32767) (e ans : Int) (he : 0 ≤ e ∧ e ≤ 1099511627776) (ha : 0 ≤ ans ∧ ans ≤ 32767) :
    Does Tryd.prog 17 [.agg #[.int .i64 u, .int .i64 l], .agg #[.int .u8 2, .int .u8 0, .int .u8 0, .int .u8 0, .int .u8 0, .int .u8 3], .agg #[.int .u8 1, .int .u8 13, .bool false, .bool false, .bool false, .bool false, .bool false, .bool false, .bool false, .int .i64 (D : Int), .int .u8 2, .int .u8 0, .int .u8 0, .int .u8 0, .int .u8 0, .int .u8 2, .int .u8 0, .int .u8 0, .int .u8 0, .int .u8 0, .int .u8 0, .int .u8 0, .int .u8 0, .int .u8 0, .int .u8 0, .int .u8 0, .int .u8 0, .int .u8 0, .int .u8 0, .int .u8 0, .int .u8 0, .int .u8 0, .int .u8 0, .int .u8 0, .int .i64 0, .int .i64 0, .int .i64 0, .int .u8 0, .bool false, .bool false], .int .i64 e, .int .i64 ans] [] (fun _ => True) (X := Unit) (fun _ => True) (fun _ => .tuple #[.agg #[.int .i64 (hearU u l e D), .int .i64 (hearL false u l e D ans)], .int .i64 0]) (fun _ => []) := by
  have hn := h
  obtain ⟨hu, hl⟩ := h
  refine Does.enter Tryd.func17 rfl (m := 79) rfl (by simp) ?_
  intro W0 hro
  refine VC.seq ?_
  refine VC.region ?_
  refine VL.eff (O.box rfl rfl (by decide) ?_)
  intro g5
  refine VL.eff (O.box rfl rfl (by decide) ?_)
  intro g6
  refine VL.eff (O.box rfl rfl (by decide) ?_)
  intro g7
  refine VL.eff (O.alloc zo46 (by decide) ?_)
  intro g10
  refine VL.q (Q.assign rfl) ?_
  refine VL.nil ?_
  refine VE.seq ?_
  refine VC.seq ?_
  refine VC.seq ?_
  refine VC.region ?_
  refine VL.q (Q.loadA ty46 rfl zM zS) ?_
  refine VL.eff (O.call0 ok37 rfl rfl (by decide) (ncheck_c _ _ hn) (fun _ _ _ => trivial) ?_)
  intro x15 y15
  refine VL.q (Q.assign rfl) ?_
  refine VL.nil ?_
  refine VE.seq ?_
  refine VC.seq ?_
  refine VC.region ?_
  refine VL.q (Q.move rfl) ?_
  refine VL.quietE (v' := .bool false) (by decide) (Q.ne rfl rfl) (by rfl) ?_
  refine VL.nil ?_
  refine VE.seq ?_
  refine VC.condF rfl ?_
  refine VC.skip ?_
  refine VE.seq ?_
  refine VC.seq ?_
  refine VC.seq ?_
  refine VC.region ?_
  refine VL.q (Q.move rfl) ?_
  refine VL.quietE (v' := .bool false) (by decide) (Q.lt rfl rfl) (congrArg Value.bool (decide_eq_false (by omega))) ?_
  refine VL.q (Q.move rfl) ?_
  refine VL.yes rfl rfl ?_
  refine VL.q (Q.move rfl) ?_
  refine VL.yes rfl rfl ?_
  refine VL.quietE (v' := .bool false) (by decide) (Q.gt rfl rfl) (congrArg Value.bool (decide_eq_false (by omega))) ?_
  refine VL.quietE (v' := .bool false) (by decide) (Q.pick_false rfl rfl) (by rfl) ?_
  refine VL.q (Q.move rfl) ?_
  refine VL.yes rfl rfl ?_
  refine VL.q (Q.fieldAddr fa50_9 rfl) ?_
  refine VL.yes rfl rfl ?_
  refine VL.q (Q.load1 ty3 rfl zM rfl) ?_
  refine VL.yes rfl rfl ?_
  refine VL.quietE (v' := .bool false) (by decide) (Q.lt rfl rfl) (congrArg Value.bool (decide_eq_false (by omega))) ?_
  refine VL.quietE (v' := .bool false) (by decide) (Q.pick_false rfl rfl) (by rfl) ?_
  refine VL.q (Q.move rfl) ?_
  refine VL.yes rfl rfl ?_
  refine VL.q (Q.fieldAddr fa50_9 rfl) ?_
  refine VL.yes rfl rfl ?_
  refine VL.q (Q.load1 ty3 rfl zM rfl) ?_
  refine VL.yes rfl rfl ?_
  refine VL.quietE (v' := .bool false) (by decide) (Q.gt rfl rfl) (congrArg Value.bool (decide_eq_false (by omega))) ?_
  refine VL.quietE (v' := .bool false) (by decide) (Q.pick_false rfl rfl) (by rfl) ?_
  refine VL.q (Q.move rfl) ?_
  refine VL.yes rfl rfl ?_
  refine VL.q (Q.move rfl) ?_
  refine VL.yes rfl rfl ?_
  refine VL.quietE (v' := .bool false) (by decide) (Q.lt rfl rfl) (congrArg Value.bool (decide_eq_false (by omega))) ?_
  refine VL.quietE (v' := .bool false) (by decide) (Q.pick_false rfl rfl) (by rfl) ?_
  refine VL.q (Q.move rfl) ?_
  refine VL.yes rfl rfl ?_
  refine VL.q (Q.move rfl) ?_
  refine VL.yes rfl rfl ?_
  refine VL.quietE (v' := .bool false) (by decide) (Q.gt rfl rfl) (congrArg Value.bool (decide_eq_false (by omega))) ?_
  refine VL.quietE (v' := .bool false) (by decide) (Q.pick_false rfl rfl) (by rfl) ?_
  refine VL.nil ?_
  refine VE.seq ?_
  refine VC.condF rfl ?_
  refine VC.skip ?_
  refine VE.seq ?_
  refine VC.seq ?_
  refine VC.seq ?_
  refine VC.region ?_
  refine VL.q (Q.move rfl) ?_
  refine VL.q (Q.loadA ty46 rfl zM zS) ?_
  refine VL.eff (O.call0 ok38 rfl rfl (by decide) (until_c _ _) (fun _ _ _ => trivial) ?_)
  intro x47 y47
  refine VL.q (Q.gt rfl rfl) ?_
  refine VL.nil ?_
  refine VE.seq ?_
  refine VC.cond rfl ?_ ?_
  · intro h48
    refine VK.keep (by exact .cons (i := 3) rfl (.cons (i := 4) rfl (.cons (i := 5) rfl (.cons (i := 6) rfl (.cons (i := 7) rfl (.cons (i := 10) rfl (.cons (i := 11) rfl ( .nil)))))))) ?_
    refine VC.region ?_
    refine VL.q (Q.fieldAddr fa46_0 rfl) ?_
    refine VL.eff (O.store ty3 rfl rfl rfl rfl zU zP ?_)
    refine VL.nil ?_
    refine VE.seq ?_
    refine VC.seq ?_
    refine VC.region ?_
    refine VL.q (Q.fieldAddr fa46_1 rfl) ?_
    refine VL.eff (O.store ty3 rfl rfl rfl rfl zU zP ?_)
    refine VL.nil ?_
    refine VE.seq ?_
    refine VC.seq ?_
    refine VC.seq ?_
    refine VC.region ?_
    refine VL.q (Q.move rfl) ?_
    refine VL.q (Q.fieldAddr fa50_9 rfl) ?_
    refine VL.q (Q.load1 ty3 rfl zM rfl) ?_
    refine VL.q ((by first | exact Q.addI rfl rfl (by omega) (by omega) | exact Q.add rfl rfl)) ?_
    refine VL.q (Q.assign rfl) ?_
    refine VL.nil ?_
    refine VE.seq ?_
    refine VC.seq ?_
    refine VC.region ?_
    refine VL.q (Q.fieldAddr fa50_10 rfl) ?_
    refine VL.q (Q.loadA ty43 rfl zM zS) ?_
    refine VL.q (Q.loadA ty43 rfl zM zS) ?_
    refine VL.quietE (v' := .bool true) (by decide) (Q.neS flt43 (by decide) ty43 eg43 rfl rfl rfl rfl) (by rfl) ?_
    refine VL.q (Q.move rfl) ?_
    refine VL.yes rfl rfl ?_
    refine VL.q (Q.move rfl) ?_
    refine VL.yes rfl rfl ?_
    refine VL.q (Q.fieldAddr fa46_0 rfl) ?_
    refine VL.yes rfl rfl ?_
    refine VL.q (Q.load1 ty3 rfl zM rfl) ?_
    refine VL.yes rfl rfl ?_
    refine VL.q (Q.gt rfl rfl) ?_
    refine VL.q (Q.pick_true rfl rfl) ?_
    refine VL.nil ?_
    refine VE.seq ?_
    refine VC.cond rfl ?_ ?_
    · intro h64
      refine VC.seq ?_
      refine VC.seq ?_
      refine VC.region ?_
      refine VL.q (Q.loadA ty50 rfl zM zS) ?_
      refine VL.eff (O.call0 ok39 rfl rfl (by decide) (request_ack D) (fun _ _ _ => trivial) ?_)
      intro x66 y66
      refine VL.nil ?_
      refine VE.seq ?_
      refine VC.condF rfl ?_
      refine VC.skip ?_
      refine VE.seq ?_
      refine VC.region ?_
      refine VL.q (Q.move rfl) ?_
      refine VL.q (Q.fieldAddr fa46_0 rfl) ?_
      refine VL.eff (O.store ty3 rfl rfl rfl rfl zU zP ?_)
      refine VL.nil ?_
      refine VE.seq ?_
      refine VC.seq ?_
      refine VC.region ?_
      refine VL.q (Q.loadA ty46 rfl zM zS) ?_
      refine VL.eff (O.store ty46 rfl rfl rfl rfl zU zP ?_)
      refine VL.q (Q.assign rfl) ?_
      refine VL.nil ?_
      refine VE.seq ?_
      refine VC.ret ?_
      refine VE.ret rfl (.cell ty46 rfl zM rfl (.tmp rfl .nil)) () ?_ ?_ (List.nil_sublist _)
      · trivial
      · refine navEq ?_ ?_ <;> simp only [hearU, hearL, if_true, Bool.false_eq_true, if_false] <;> simp only [decide_eq_true_eq, decide_eq_false_iff_not] at * <;> (repeat' split) <;> omega
    · intro h64
      refine VC.skip ?_
      refine VE.seq ?_
      refine VC.seq ?_
      refine VC.region ?_
      refine VL.q (Q.loadA ty46 rfl zM zS) ?_
      refine VL.eff (O.store ty46 rfl rfl rfl rfl zU zP ?_)
      refine VL.q (Q.assign rfl) ?_
      refine VL.nil ?_
      refine VE.seq ?_
      refine VC.ret ?_
      refine VE.ret rfl (.cell ty46 rfl zM rfl (.tmp rfl .nil)) () ?_ ?_ (List.nil_sublist _)
      · trivial
      · refine navEq ?_ ?_ <;> simp only [hearU, hearL, if_true, Bool.false_eq_true, if_false] <;> simp only [decide_eq_true_eq, decide_eq_false_iff_not] at * <;> (repeat' split) <;> omega
  · intro h48
    refine VC.skip ?_
    refine VE.seq ?_
    refine VC.seq ?_
    refine VK.keep (by exact .cons (i := 3) rfl (.cons (i := 4) rfl (.cons (i := 5) rfl (.cons (i := 6) rfl (.cons (i := 7) rfl (.cons (i := 10) rfl (.cons (i := 11) rfl ( .nil)))))))) ?_
    refine VC.region ?_
    refine VL.q (Q.fieldAddr fa46_1 rfl) ?_
    refine VL.eff (O.store ty3 rfl rfl rfl rfl zU zP ?_)
    refine VL.nil ?_
    refine VE.seq ?_
    refine VC.seq ?_
    refine VC.seq ?_
    refine VC.region ?_
    refine VL.q (Q.move rfl) ?_
    refine VL.q (Q.fieldAddr fa50_9 rfl) ?_
    refine VL.q (Q.load1 ty3 rfl zM rfl) ?_
    refine VL.q ((by first | exact Q.addI rfl rfl (by omega) (by omega) | exact Q.add rfl rfl)) ?_
    refine VL.q (Q.assign rfl) ?_
    refine VL.nil ?_
    refine VE.seq ?_
    refine VC.seq ?_
    refine VC.region ?_
    refine VL.q (Q.fieldAddr fa50_10 rfl) ?_
    refine VL.q (Q.loadA ty43 rfl zM zS) ?_
    refine VL.q (Q.loadA ty43 rfl zM zS) ?_
    refine VL.quietE (v' := .bool true) (by decide) (Q.neS flt43 (by decide) ty43 eg43 rfl rfl rfl rfl) (by rfl) ?_
    refine VL.q (Q.move rfl) ?_
    refine VL.yes rfl rfl ?_
    refine VL.q (Q.move rfl) ?_
    refine VL.yes rfl rfl ?_
    refine VL.q (Q.fieldAddr fa46_0 rfl) ?_
    refine VL.yes rfl rfl ?_
    refine VL.q (Q.load1 ty3 rfl zM rfl) ?_
    refine VL.yes rfl rfl ?_
    refine VL.q (Q.gt rfl rfl) ?_
    refine VL.q (Q.pick_true rfl rfl) ?_
    refine VL.nil ?_
    refine VE.seq ?_
    refine VC.cond rfl ?_ ?_
    · intro h64
      refine VC.seq ?_
      refine VC.seq ?_
      refine VC.region ?_
      refine VL.q (Q.loadA ty50 rfl zM zS) ?_
      refine VL.eff (O.call0 ok39 rfl rfl (by decide) (request_ack D) (fun _ _ _ => trivial) ?_)
      intro x66_1 y66_1
      refine VL.nil ?_
      refine VE.seq ?_
      refine VC.condF rfl ?_
      refine VC.skip ?_
      refine VE.seq ?_
      refine VC.region ?_
      refine VL.q (Q.move rfl) ?_
      refine VL.q (Q.fieldAddr fa46_0 rfl) ?_
      refine VL.eff (O.store ty3 rfl rfl rfl rfl zU zP ?_)
      refine VL.nil ?_
      refine VE.seq ?_
      refine VC.seq ?_
      refine VC.region ?_
      refine VL.q (Q.loadA ty46 rfl zM zS) ?_
      refine VL.eff (O.store ty46 rfl rfl rfl rfl zU zP ?_)
      refine VL.q (Q.assign rfl) ?_
      refine VL.nil ?_
      refine VE.seq ?_
      refine VC.ret ?_
      refine VE.ret rfl (.cell ty46 rfl zM rfl (.tmp rfl .nil)) () ?_ ?_ (List.nil_sublist _)
      · trivial
      · refine navEq ?_ ?_ <;> simp only [hearU, hearL, if_true, Bool.false_eq_true, if_false] <;> simp only [decide_eq_true_eq, decide_eq_false_iff_not] at * <;> (repeat' split) <;> omega
    · intro h64
      refine VC.skip ?_
      refine VE.seq ?_
      refine VC.seq ?_
      refine VC.region ?_
      refine VL.q (Q.loadA ty46 rfl zM zS) ?_
      refine VL.eff (O.store ty46 rfl rfl rfl rfl zU zP ?_)
      refine VL.q (Q.assign rfl) ?_
      refine VL.nil ?_
      refine VE.seq ?_
      refine VC.ret ?_
      refine VE.ret rfl (.cell ty46 rfl zM rfl (.tmp rfl .nil)) () ?_ ?_ (List.nil_sublist _)
      · trivial
      · refine navEq ?_ ?_ <;> simp only [hearU, hearL, if_true, Bool.false_eq_true, if_false] <;> simp only [decide_eq_true_eq, decide_eq_false_iff_not] at * <;> (repeat' split) <;> omega

theorem heard_bar (u l : Int) (h : navOk u l) (D : Nat) (hD : D ≤ 32767) (e ans : Int) (he : 0 ≤ e ∧ e ≤ 1099511627776) (ha : 0 ≤ ans ∧ ans ≤ 32767) :
    Does Tryd.prog 17 [.agg #[.int .i64 u, .int .i64 l], .agg #[.int .u8 2, .int .u8 0, .int .u8 0, .int .u8 0, .int .u8 0, .int .u8 3], .agg #[.int .u8 1, .int .u8 8, .bool false, .bool false, .bool false, .bool false, .bool false, .bool false, .bool false, .int .i64 (D : Int), .int .u8 2, .int .u8 0, .int .u8 0, .int .u8 0, .int .u8 0, .int .u8 1, .int .u8 2, .int .u8 0, .int .u8 0, .int .u8 0, .int .u8 0, .int .u8 2, .int .u8 0, .int .u8 0, .int .u8 0, .int .u8 0, .int .u8 0, .int .u8 0, .int .u8 0, .int .u8 0, .int .u8 0, .int .u8 0, .int .u8 0, .int .u8 0, .int .i64 0, .int .i64 0, .int .i64 0, .int .u8 0, .bool false, .bool false], .int .i64 e, .int .i64 ans] [] (fun _ => True) (X := Unit) (fun _ => True) (fun _ => .tuple #[.agg #[.int .i64 (hearU u l e D), .int .i64 (hearL false u l e D ans)], .int .i64 0]) (fun _ => []) := by
  have hn := h
  obtain ⟨hu, hl⟩ := h
  refine Does.enter Tryd.func17 rfl (m := 79) rfl (by simp) ?_
  intro W0 hro
  refine VC.seq ?_
  refine VC.region ?_
  refine VL.eff (O.box rfl rfl (by decide) ?_)
  intro g5
  refine VL.eff (O.box rfl rfl (by decide) ?_)
  intro g6
  refine VL.eff (O.box rfl rfl (by decide) ?_)
  intro g7
  refine VL.eff (O.alloc zo46 (by decide) ?_)
  intro g10
  refine VL.q (Q.assign rfl) ?_
  refine VL.nil ?_
  refine VE.seq ?_
  refine VC.seq ?_
  refine VC.seq ?_
  refine VC.region ?_
  refine VL.q (Q.loadA ty46 rfl zM zS) ?_
  refine VL.eff (O.call0 ok37 rfl rfl (by decide) (ncheck_c _ _ hn) (fun _ _ _ => trivial) ?_)
  intro x15 y15
  refine VL.q (Q.assign rfl) ?_
  refine VL.nil ?_
  refine VE.seq ?_
  refine VC.seq ?_
  refine VC.region ?_
  refine VL.q (Q.move rfl) ?_
  refine VL.quietE (v' := .bool false) (by decide) (Q.ne rfl rfl) (by rfl) ?_
  refine VL.nil ?_
  refine VE.seq ?_
  refine VC.condF rfl ?_
  refine VC.skip ?_
  refine VE.seq ?_
  refine VC.seq ?_
  refine VC.seq ?_
  refine VC.region ?_
  refine VL.q (Q.move rfl) ?_
  refine VL.quietE (v' := .bool false) (by decide) (Q.lt rfl rfl) (congrArg Value.bool (decide_eq_false (by omega))) ?_
  refine VL.q (Q.move rfl) ?_
  refine VL.yes rfl rfl ?_
  refine VL.q (Q.move rfl) ?_
  refine VL.yes rfl rfl ?_
  refine VL.quietE (v' := .bool false) (by decide) (Q.gt rfl rfl) (congrArg Value.bool (decide_eq_false (by omega))) ?_
  refine VL.quietE (v' := .bool false) (by decide) (Q.pick_false rfl rfl) (by rfl) ?_
  refine VL.q (Q.move rfl) ?_
  refine VL.yes rfl rfl ?_
  refine VL.q (Q.fieldAddr fa50_9 rfl) ?_
  refine VL.yes rfl rfl ?_
  refine VL.q (Q.load1 ty3 rfl zM rfl) ?_
  refine VL.yes rfl rfl ?_
  refine VL.quietE (v' := .bool false) (by decide) (Q.lt rfl rfl) (congrArg Value.bool (decide_eq_false (by omega))) ?_
  refine VL.quietE (v' := .bool false) (by decide) (Q.pick_false rfl rfl) (by rfl) ?_
  refine VL.q (Q.move rfl) ?_
  refine VL.yes rfl rfl ?_
  refine VL.q (Q.fieldAddr fa50_9 rfl) ?_
  refine VL.yes rfl rfl ?_
  refine VL.q (Q.load1 ty3 rfl zM rfl) ?_
  refine VL.yes rfl rfl ?_
  refine VL.quietE (v' := .bool false) (by decide) (Q.gt rfl rfl) (congrArg Value.bool (decide_eq_false (by omega))) ?_
  refine VL.quietE (v' := .bool false) (by decide) (Q.pick_false rfl rfl) (by rfl) ?_
  refine VL.q (Q.move rfl) ?_
  refine VL.yes rfl rfl ?_
  refine VL.q (Q.move rfl) ?_
  refine VL.yes rfl rfl ?_
  refine VL.quietE (v' := .bool false) (by decide) (Q.lt rfl rfl) (congrArg Value.bool (decide_eq_false (by omega))) ?_
  refine VL.quietE (v' := .bool false) (by decide) (Q.pick_false rfl rfl) (by rfl) ?_
  refine VL.q (Q.move rfl) ?_
  refine VL.yes rfl rfl ?_
  refine VL.q (Q.move rfl) ?_
  refine VL.yes rfl rfl ?_
  refine VL.quietE (v' := .bool false) (by decide) (Q.gt rfl rfl) (congrArg Value.bool (decide_eq_false (by omega))) ?_
  refine VL.quietE (v' := .bool false) (by decide) (Q.pick_false rfl rfl) (by rfl) ?_
  refine VL.nil ?_
  refine VE.seq ?_
  refine VC.condF rfl ?_
  refine VC.skip ?_
  refine VE.seq ?_
  refine VC.seq ?_
  refine VC.seq ?_
  refine VC.region ?_
  refine VL.q (Q.move rfl) ?_
  refine VL.q (Q.loadA ty46 rfl zM zS) ?_
  refine VL.eff (O.call0 ok38 rfl rfl (by decide) (until_c _ _) (fun _ _ _ => trivial) ?_)
  intro x47 y47
  refine VL.q (Q.gt rfl rfl) ?_
  refine VL.nil ?_
  refine VE.seq ?_
  refine VC.cond rfl ?_ ?_
  · intro h48
    refine VK.keep (by exact .cons (i := 3) rfl (.cons (i := 4) rfl (.cons (i := 5) rfl (.cons (i := 6) rfl (.cons (i := 7) rfl (.cons (i := 10) rfl (.cons (i := 11) rfl ( .nil)))))))) ?_
    refine VC.region ?_
    refine VL.q (Q.fieldAddr fa46_0 rfl) ?_
    refine VL.eff (O.store ty3 rfl rfl rfl rfl zU zP ?_)
    refine VL.nil ?_
    refine VE.seq ?_
    refine VC.seq ?_
    refine VC.region ?_
    refine VL.q (Q.fieldAddr fa46_1 rfl) ?_
    refine VL.eff (O.store ty3 rfl rfl rfl rfl zU zP ?_)
    refine VL.nil ?_
    refine VE.seq ?_
    refine VC.seq ?_
    refine VC.seq ?_
    refine VC.region ?_
    refine VL.q (Q.move rfl) ?_
    refine VL.q (Q.fieldAddr fa50_9 rfl) ?_
    refine VL.q (Q.load1 ty3 rfl zM rfl) ?_
    refine VL.q ((by first | exact Q.addI rfl rfl (by omega) (by omega) | exact Q.add rfl rfl)) ?_
    refine VL.q (Q.assign rfl) ?_
    refine VL.nil ?_
    refine VE.seq ?_
    refine VC.seq ?_
    refine VC.region ?_
    refine VL.q (Q.fieldAddr fa50_10 rfl) ?_
    refine VL.q (Q.loadA ty43 rfl zM zS) ?_
    refine VL.q (Q.loadA ty43 rfl zM zS) ?_
    refine VL.quietE (v' := .bool true) (by decide) (Q.neS flt43 (by decide) ty43 eg43 rfl rfl rfl rfl) (by rfl) ?_
    refine VL.q (Q.move rfl) ?_
    refine VL.yes rfl rfl ?_
    refine VL.q (Q.move rfl) ?_
    refine VL.yes rfl rfl ?_
    refine VL.q (Q.fieldAddr fa46_0 rfl) ?_
    refine VL.yes rfl rfl ?_
    refine VL.q (Q.load1 ty3 rfl zM rfl) ?_
    refine VL.yes rfl rfl ?_
    refine VL.q (Q.gt rfl rfl) ?_
    refine VL.q (Q.pick_true rfl rfl) ?_
    refine VL.nil ?_
    refine VE.seq ?_
    refine VC.cond rfl ?_ ?_
    · intro h64
      refine VC.seq ?_
      refine VC.seq ?_
      refine VC.region ?_
      refine VL.q (Q.loadA ty50 rfl zM zS) ?_
      refine VL.eff (O.call0 ok39 rfl rfl (by decide) (request_bar D) (fun _ _ _ => trivial) ?_)
      intro x66 y66
      refine VL.nil ?_
      refine VE.seq ?_
      refine VC.condF rfl ?_
      refine VC.skip ?_
      refine VE.seq ?_
      refine VC.region ?_
      refine VL.q (Q.move rfl) ?_
      refine VL.q (Q.fieldAddr fa46_0 rfl) ?_
      refine VL.eff (O.store ty3 rfl rfl rfl rfl zU zP ?_)
      refine VL.nil ?_
      refine VE.seq ?_
      refine VC.seq ?_
      refine VC.region ?_
      refine VL.q (Q.loadA ty46 rfl zM zS) ?_
      refine VL.eff (O.store ty46 rfl rfl rfl rfl zU zP ?_)
      refine VL.q (Q.assign rfl) ?_
      refine VL.nil ?_
      refine VE.seq ?_
      refine VC.ret ?_
      refine VE.ret rfl (.cell ty46 rfl zM rfl (.tmp rfl .nil)) () ?_ ?_ (List.nil_sublist _)
      · trivial
      · refine navEq ?_ ?_ <;> simp only [hearU, hearL, if_true, Bool.false_eq_true, if_false] <;> simp only [decide_eq_true_eq, decide_eq_false_iff_not] at * <;> (repeat' split) <;> omega
    · intro h64
      refine VC.skip ?_
      refine VE.seq ?_
      refine VC.seq ?_
      refine VC.region ?_
      refine VL.q (Q.loadA ty46 rfl zM zS) ?_
      refine VL.eff (O.store ty46 rfl rfl rfl rfl zU zP ?_)
      refine VL.q (Q.assign rfl) ?_
      refine VL.nil ?_
      refine VE.seq ?_
      refine VC.ret ?_
      refine VE.ret rfl (.cell ty46 rfl zM rfl (.tmp rfl .nil)) () ?_ ?_ (List.nil_sublist _)
      · trivial
      · refine navEq ?_ ?_ <;> simp only [hearU, hearL, if_true, Bool.false_eq_true, if_false] <;> simp only [decide_eq_true_eq, decide_eq_false_iff_not] at * <;> (repeat' split) <;> omega
  · intro h48
    refine VC.skip ?_
    refine VE.seq ?_
    refine VC.seq ?_
    refine VK.keep (by exact .cons (i := 3) rfl (.cons (i := 4) rfl (.cons (i := 5) rfl (.cons (i := 6) rfl (.cons (i := 7) rfl (.cons (i := 10) rfl (.cons (i := 11) rfl ( .nil)))))))) ?_
    refine VC.region ?_
    refine VL.q (Q.fieldAddr fa46_1 rfl) ?_
    refine VL.eff (O.store ty3 rfl rfl rfl rfl zU zP ?_)
    refine VL.nil ?_
    refine VE.seq ?_
    refine VC.seq ?_
    refine VC.seq ?_
    refine VC.region ?_
    refine VL.q (Q.move rfl) ?_
    refine VL.q (Q.fieldAddr fa50_9 rfl) ?_
    refine VL.q (Q.load1 ty3 rfl zM rfl) ?_
    refine VL.q ((by first | exact Q.addI rfl rfl (by omega) (by omega) | exact Q.add rfl rfl)) ?_
    refine VL.q (Q.assign rfl) ?_
    refine VL.nil ?_
    refine VE.seq ?_
    refine VC.seq ?_
    refine VC.region ?_
    refine VL.q (Q.fieldAddr fa50_10 rfl) ?_
    refine VL.q (Q.loadA ty43 rfl zM zS) ?_
    refine VL.q (Q.loadA ty43 rfl zM zS) ?_
    refine VL.quietE (v' := .bool true) (by decide) (Q.neS flt43 (by decide) ty43 eg43 rfl rfl rfl rfl) (by rfl) ?_
    refine VL.q (Q.move rfl) ?_
    refine VL.yes rfl rfl ?_
    refine VL.q (Q.move rfl) ?_
    refine VL.yes rfl rfl ?_
    refine VL.q (Q.fieldAddr fa46_0 rfl) ?_
    refine VL.yes rfl rfl ?_
    refine VL.q (Q.load1 ty3 rfl zM rfl) ?_
    refine VL.yes rfl rfl ?_
    refine VL.q (Q.gt rfl rfl) ?_
    refine VL.q (Q.pick_true rfl rfl) ?_
    refine VL.nil ?_
    refine VE.seq ?_
    refine VC.cond rfl ?_ ?_
    · intro h64
      refine VC.seq ?_
      refine VC.seq ?_
      refine VC.region ?_
      refine VL.q (Q.loadA ty50 rfl zM zS) ?_
      refine VL.eff (O.call0 ok39 rfl rfl (by decide) (request_bar D) (fun _ _ _ => trivial) ?_)
      intro x66_1 y66_1
      refine VL.nil ?_
      refine VE.seq ?_
      refine VC.condF rfl ?_
      refine VC.skip ?_
      refine VE.seq ?_
      refine VC.region ?_
      refine VL.q (Q.move rfl) ?_
      refine VL.q (Q.fieldAddr fa46_0 rfl) ?_
      refine VL.eff (O.store ty3 rfl rfl rfl rfl zU zP ?_)
      refine VL.nil ?_
      refine VE.seq ?_
      refine VC.seq ?_
      refine VC.region ?_
      refine VL.q (Q.loadA ty46 rfl zM zS) ?_
      refine VL.eff (O.store ty46 rfl rfl rfl rfl zU zP ?_)
      refine VL.q (Q.assign rfl) ?_
      refine VL.nil ?_
      refine VE.seq ?_
      refine VC.ret ?_
      refine VE.ret rfl (.cell ty46 rfl zM rfl (.tmp rfl .nil)) () ?_ ?_ (List.nil_sublist _)
      · trivial
      · refine navEq ?_ ?_ <;> simp only [hearU, hearL, if_true, Bool.false_eq_true, if_false] <;> simp only [decide_eq_true_eq, decide_eq_false_iff_not] at * <;> (repeat' split) <;> omega
    · intro h64
      refine VC.skip ?_
      refine VE.seq ?_
      refine VC.seq ?_
      refine VC.region ?_
      refine VL.q (Q.loadA ty46 rfl zM zS) ?_
      refine VL.eff (O.store ty46 rfl rfl rfl rfl zU zP ?_)
      refine VL.q (Q.assign rfl) ?_
      refine VL.nil ?_
      refine VE.seq ?_
      refine VC.ret ?_
      refine VE.ret rfl (.cell ty46 rfl zM rfl (.tmp rfl .nil)) () ?_ ?_ (List.nil_sublist _)
      · trivial
      · refine navEq ?_ ?_ <;> simp only [hearU, hearL, if_true, Bool.false_eq_true, if_false] <;> simp only [decide_eq_true_eq, decide_eq_false_iff_not] at * <;> (repeat' split) <;> omega

theorem heard_back (u l : Int) (h : navOk u l) (D : Nat) (hD : D ≤ 32767) (e ans : Int) (he : 0 ≤ e ∧ e ≤ 1099511627776) (ha : 0 ≤ ans ∧ ans ≤ 32767) :
    Does Tryd.prog 17 [.agg #[.int .i64 u, .int .i64 l], .agg #[.int .u8 2, .int .u8 0, .int .u8 0, .int .u8 0, .int .u8 0, .int .u8 3], .agg #[.int .u8 1, .int .u8 9, .bool false, .bool false, .bool false, .bool false, .bool false, .bool false, .bool false, .int .i64 (D : Int), .int .u8 2, .int .u8 0, .int .u8 0, .int .u8 0, .int .u8 0, .int .u8 2, .int .u8 2, .int .u8 0, .int .u8 0, .int .u8 0, .int .u8 0, .int .u8 1, .int .u8 0, .int .u8 0, .int .u8 0, .int .u8 0, .int .u8 0, .int .u8 0, .int .u8 0, .int .u8 0, .int .u8 0, .int .u8 0, .int .u8 0, .int .u8 0, .int .i64 0, .int .i64 0, .int .i64 0, .int .u8 0, .bool false, .bool false], .int .i64 e, .int .i64 ans] [] (fun _ => True) (X := Unit) (fun _ => True) (fun _ => .tuple #[.agg #[.int .i64 (hearU u l e D), .int .i64 (hearL false u l e D ans)], .int .i64 0]) (fun _ => []) := by
  have hn := h
  obtain ⟨hu, hl⟩ := h
  refine Does.enter Tryd.func17 rfl (m := 79) rfl (by simp) ?_
  intro W0 hro
  refine VC.seq ?_
  refine VC.region ?_
  refine VL.eff (O.box rfl rfl (by decide) ?_)
  intro g5
  refine VL.eff (O.box rfl rfl (by decide) ?_)
  intro g6
  refine VL.eff (O.box rfl rfl (by decide) ?_)
  intro g7
  refine VL.eff (O.alloc zo46 (by decide) ?_)
  intro g10
  refine VL.q (Q.assign rfl) ?_
  refine VL.nil ?_
  refine VE.seq ?_
  refine VC.seq ?_
  refine VC.seq ?_
  refine VC.region ?_
  refine VL.q (Q.loadA ty46 rfl zM zS) ?_
  refine VL.eff (O.call0 ok37 rfl rfl (by decide) (ncheck_c _ _ hn) (fun _ _ _ => trivial) ?_)
  intro x15 y15
  refine VL.q (Q.assign rfl) ?_
  refine VL.nil ?_
  refine VE.seq ?_
  refine VC.seq ?_
  refine VC.region ?_
  refine VL.q (Q.move rfl) ?_
  refine VL.quietE (v' := .bool false) (by decide) (Q.ne rfl rfl) (by rfl) ?_
  refine VL.nil ?_
  refine VE.seq ?_
  refine VC.condF rfl ?_
  refine VC.skip ?_
  refine VE.seq ?_
  refine VC.seq ?_
  refine VC.seq ?_
  refine VC.region ?_
  refine VL.q (Q.move rfl) ?_
  refine VL.quietE (v' := .bool false) (by decide) (Q.lt rfl rfl) (congrArg Value.bool (decide_eq_false (by omega))) ?_
  refine VL.q (Q.move rfl) ?_
  refine VL.yes rfl rfl ?_
  refine VL.q (Q.move rfl) ?_
  refine VL.yes rfl rfl ?_
  refine VL.quietE (v' := .bool false) (by decide) (Q.gt rfl rfl) (congrArg Value.bool (decide_eq_false (by omega))) ?_
  refine VL.quietE (v' := .bool false) (by decide) (Q.pick_false rfl rfl) (by rfl) ?_
  refine VL.q (Q.move rfl) ?_
  refine VL.yes rfl rfl ?_
  refine VL.q (Q.fieldAddr fa50_9 rfl) ?_
  refine VL.yes rfl rfl ?_
  refine VL.q (Q.load1 ty3 rfl zM rfl) ?_
  refine VL.yes rfl rfl ?_
  refine VL.quietE (v' := .bool false) (by decide) (Q.lt rfl rfl) (congrArg Value.bool (decide_eq_false (by omega))) ?_
  refine VL.quietE (v' := .bool false) (by decide) (Q.pick_false rfl rfl) (by rfl) ?_
  refine VL.q (Q.move rfl) ?_
  refine VL.yes rfl rfl ?_
  refine VL.q (Q.fieldAddr fa50_9 rfl) ?_
  refine VL.yes rfl rfl ?_
  refine VL.q (Q.load1 ty3 rfl zM rfl) ?_
  refine VL.yes rfl rfl ?_
  refine VL.quietE (v' := .bool false) (by decide) (Q.gt rfl rfl) (congrArg Value.bool (decide_eq_false (by omega))) ?_
  refine VL.quietE (v' := .bool false) (by decide) (Q.pick_false rfl rfl) (by rfl) ?_
  refine VL.q (Q.move rfl) ?_
  refine VL.yes rfl rfl ?_
  refine VL.q (Q.move rfl) ?_
  refine VL.yes rfl rfl ?_
  refine VL.quietE (v' := .bool false) (by decide) (Q.lt rfl rfl) (congrArg Value.bool (decide_eq_false (by omega))) ?_
  refine VL.quietE (v' := .bool false) (by decide) (Q.pick_false rfl rfl) (by rfl) ?_
  refine VL.q (Q.move rfl) ?_
  refine VL.yes rfl rfl ?_
  refine VL.q (Q.move rfl) ?_
  refine VL.yes rfl rfl ?_
  refine VL.quietE (v' := .bool false) (by decide) (Q.gt rfl rfl) (congrArg Value.bool (decide_eq_false (by omega))) ?_
  refine VL.quietE (v' := .bool false) (by decide) (Q.pick_false rfl rfl) (by rfl) ?_
  refine VL.nil ?_
  refine VE.seq ?_
  refine VC.condF rfl ?_
  refine VC.skip ?_
  refine VE.seq ?_
  refine VC.seq ?_
  refine VC.seq ?_
  refine VC.region ?_
  refine VL.q (Q.move rfl) ?_
  refine VL.q (Q.loadA ty46 rfl zM zS) ?_
  refine VL.eff (O.call0 ok38 rfl rfl (by decide) (until_c _ _) (fun _ _ _ => trivial) ?_)
  intro x47 y47
  refine VL.q (Q.gt rfl rfl) ?_
  refine VL.nil ?_
  refine VE.seq ?_
  refine VC.cond rfl ?_ ?_
  · intro h48
    refine VK.keep (by exact .cons (i := 3) rfl (.cons (i := 4) rfl (.cons (i := 5) rfl (.cons (i := 6) rfl (.cons (i := 7) rfl (.cons (i := 10) rfl (.cons (i := 11) rfl ( .nil)))))))) ?_
    refine VC.region ?_
    refine VL.q (Q.fieldAddr fa46_0 rfl) ?_
    refine VL.eff (O.store ty3 rfl rfl rfl rfl zU zP ?_)
    refine VL.nil ?_
    refine VE.seq ?_
    refine VC.seq ?_
    refine VC.region ?_
    refine VL.q (Q.fieldAddr fa46_1 rfl) ?_
    refine VL.eff (O.store ty3 rfl rfl rfl rfl zU zP ?_)
    refine VL.nil ?_
    refine VE.seq ?_
    refine VC.seq ?_
    refine VC.seq ?_
    refine VC.region ?_
    refine VL.q (Q.move rfl) ?_
    refine VL.q (Q.fieldAddr fa50_9 rfl) ?_
    refine VL.q (Q.load1 ty3 rfl zM rfl) ?_
    refine VL.q ((by first | exact Q.addI rfl rfl (by omega) (by omega) | exact Q.add rfl rfl)) ?_
    refine VL.q (Q.assign rfl) ?_
    refine VL.nil ?_
    refine VE.seq ?_
    refine VC.seq ?_
    refine VC.region ?_
    refine VL.q (Q.fieldAddr fa50_10 rfl) ?_
    refine VL.q (Q.loadA ty43 rfl zM zS) ?_
    refine VL.q (Q.loadA ty43 rfl zM zS) ?_
    refine VL.quietE (v' := .bool true) (by decide) (Q.neS flt43 (by decide) ty43 eg43 rfl rfl rfl rfl) (by rfl) ?_
    refine VL.q (Q.move rfl) ?_
    refine VL.yes rfl rfl ?_
    refine VL.q (Q.move rfl) ?_
    refine VL.yes rfl rfl ?_
    refine VL.q (Q.fieldAddr fa46_0 rfl) ?_
    refine VL.yes rfl rfl ?_
    refine VL.q (Q.load1 ty3 rfl zM rfl) ?_
    refine VL.yes rfl rfl ?_
    refine VL.q (Q.gt rfl rfl) ?_
    refine VL.q (Q.pick_true rfl rfl) ?_
    refine VL.nil ?_
    refine VE.seq ?_
    refine VC.cond rfl ?_ ?_
    · intro h64
      refine VC.seq ?_
      refine VC.seq ?_
      refine VC.region ?_
      refine VL.q (Q.loadA ty50 rfl zM zS) ?_
      refine VL.eff (O.call0 ok39 rfl rfl (by decide) (request_back D) (fun _ _ _ => trivial) ?_)
      intro x66 y66
      refine VL.nil ?_
      refine VE.seq ?_
      refine VC.condF rfl ?_
      refine VC.skip ?_
      refine VE.seq ?_
      refine VC.region ?_
      refine VL.q (Q.move rfl) ?_
      refine VL.q (Q.fieldAddr fa46_0 rfl) ?_
      refine VL.eff (O.store ty3 rfl rfl rfl rfl zU zP ?_)
      refine VL.nil ?_
      refine VE.seq ?_
      refine VC.seq ?_
      refine VC.region ?_
      refine VL.q (Q.loadA ty46 rfl zM zS) ?_
      refine VL.eff (O.store ty46 rfl rfl rfl rfl zU zP ?_)
      refine VL.q (Q.assign rfl) ?_
      refine VL.nil ?_
      refine VE.seq ?_
      refine VC.ret ?_
      refine VE.ret rfl (.cell ty46 rfl zM rfl (.tmp rfl .nil)) () ?_ ?_ (List.nil_sublist _)
      · trivial
      · refine navEq ?_ ?_ <;> simp only [hearU, hearL, if_true, Bool.false_eq_true, if_false] <;> simp only [decide_eq_true_eq, decide_eq_false_iff_not] at * <;> (repeat' split) <;> omega
    · intro h64
      refine VC.skip ?_
      refine VE.seq ?_
      refine VC.seq ?_
      refine VC.region ?_
      refine VL.q (Q.loadA ty46 rfl zM zS) ?_
      refine VL.eff (O.store ty46 rfl rfl rfl rfl zU zP ?_)
      refine VL.q (Q.assign rfl) ?_
      refine VL.nil ?_
      refine VE.seq ?_
      refine VC.ret ?_
      refine VE.ret rfl (.cell ty46 rfl zM rfl (.tmp rfl .nil)) () ?_ ?_ (List.nil_sublist _)
      · trivial
      · refine navEq ?_ ?_ <;> simp only [hearU, hearL, if_true, Bool.false_eq_true, if_false] <;> simp only [decide_eq_true_eq, decide_eq_false_iff_not] at * <;> (repeat' split) <;> omega
  · intro h48
    refine VC.skip ?_
    refine VE.seq ?_
    refine VC.seq ?_
    refine VK.keep (by exact .cons (i := 3) rfl (.cons (i := 4) rfl (.cons (i := 5) rfl (.cons (i := 6) rfl (.cons (i := 7) rfl (.cons (i := 10) rfl (.cons (i := 11) rfl ( .nil)))))))) ?_
    refine VC.region ?_
    refine VL.q (Q.fieldAddr fa46_1 rfl) ?_
    refine VL.eff (O.store ty3 rfl rfl rfl rfl zU zP ?_)
    refine VL.nil ?_
    refine VE.seq ?_
    refine VC.seq ?_
    refine VC.seq ?_
    refine VC.region ?_
    refine VL.q (Q.move rfl) ?_
    refine VL.q (Q.fieldAddr fa50_9 rfl) ?_
    refine VL.q (Q.load1 ty3 rfl zM rfl) ?_
    refine VL.q ((by first | exact Q.addI rfl rfl (by omega) (by omega) | exact Q.add rfl rfl)) ?_
    refine VL.q (Q.assign rfl) ?_
    refine VL.nil ?_
    refine VE.seq ?_
    refine VC.seq ?_
    refine VC.region ?_
    refine VL.q (Q.fieldAddr fa50_10 rfl) ?_
    refine VL.q (Q.loadA ty43 rfl zM zS) ?_
    refine VL.q (Q.loadA ty43 rfl zM zS) ?_
    refine VL.quietE (v' := .bool true) (by decide) (Q.neS flt43 (by decide) ty43 eg43 rfl rfl rfl rfl) (by rfl) ?_
    refine VL.q (Q.move rfl) ?_
    refine VL.yes rfl rfl ?_
    refine VL.q (Q.move rfl) ?_
    refine VL.yes rfl rfl ?_
    refine VL.q (Q.fieldAddr fa46_0 rfl) ?_
    refine VL.yes rfl rfl ?_
    refine VL.q (Q.load1 ty3 rfl zM rfl) ?_
    refine VL.yes rfl rfl ?_
    refine VL.q (Q.gt rfl rfl) ?_
    refine VL.q (Q.pick_true rfl rfl) ?_
    refine VL.nil ?_
    refine VE.seq ?_
    refine VC.cond rfl ?_ ?_
    · intro h64
      refine VC.seq ?_
      refine VC.seq ?_
      refine VC.region ?_
      refine VL.q (Q.loadA ty50 rfl zM zS) ?_
      refine VL.eff (O.call0 ok39 rfl rfl (by decide) (request_back D) (fun _ _ _ => trivial) ?_)
      intro x66_1 y66_1
      refine VL.nil ?_
      refine VE.seq ?_
      refine VC.condF rfl ?_
      refine VC.skip ?_
      refine VE.seq ?_
      refine VC.region ?_
      refine VL.q (Q.move rfl) ?_
      refine VL.q (Q.fieldAddr fa46_0 rfl) ?_
      refine VL.eff (O.store ty3 rfl rfl rfl rfl zU zP ?_)
      refine VL.nil ?_
      refine VE.seq ?_
      refine VC.seq ?_
      refine VC.region ?_
      refine VL.q (Q.loadA ty46 rfl zM zS) ?_
      refine VL.eff (O.store ty46 rfl rfl rfl rfl zU zP ?_)
      refine VL.q (Q.assign rfl) ?_
      refine VL.nil ?_
      refine VE.seq ?_
      refine VC.ret ?_
      refine VE.ret rfl (.cell ty46 rfl zM rfl (.tmp rfl .nil)) () ?_ ?_ (List.nil_sublist _)
      · trivial
      · refine navEq ?_ ?_ <;> simp only [hearU, hearL, if_true, Bool.false_eq_true, if_false] <;> simp only [decide_eq_true_eq, decide_eq_false_iff_not] at * <;> (repeat' split) <;> omega
    · intro h64
      refine VC.skip ?_
      refine VE.seq ?_
      refine VC.seq ?_
      refine VC.region ?_
      refine VL.q (Q.loadA ty46 rfl zM zS) ?_
      refine VL.eff (O.store ty46 rfl rfl rfl rfl zU zP ?_)
      refine VL.q (Q.assign rfl) ?_
      refine VL.nil ?_
      refine VE.seq ?_
      refine VC.ret ?_
      refine VE.ret rfl (.cell ty46 rfl zM rfl (.tmp rfl .nil)) () ?_ ?_ (List.nil_sublist _)
      · trivial
      · refine navEq ?_ ?_ <;> simp only [hearU, hearL, if_true, Bool.false_eq_true, if_false] <;> simp only [decide_eq_true_eq, decide_eq_false_iff_not] at * <;> (repeat' split) <;> omega

theorem until2_c (u l : Int) (h : navOk u l) :
    Does Tryd.prog 18 [.agg #[.int .i64 u, .int .i64 l]] [] (fun _ => True) (X := Unit) (fun _ => True) (fun _ => .tuple #[.int .i64 (untilP u l), .int .i64 0]) (fun _ => []) := by
  have hn := h
  refine Does.enter Tryd.func18 rfl (m := 12) rfl (by simp) ?_
  intro W0 hro
  refine VC.seq ?_
  refine VC.region ?_
  refine VL.eff (O.box rfl rfl (by decide) ?_)
  intro g1
  refine VL.q (Q.assign rfl) ?_
  refine VL.q (Q.assign rfl) ?_
  refine VL.nil ?_
  refine VE.seq ?_
  refine VC.seq ?_
  refine VC.seq ?_
  refine VC.region ?_
  refine VL.q (Q.loadA ty46 rfl zM zS) ?_
  refine VL.eff (O.call0 ok37 rfl rfl (by decide) (ncheck_c _ _ hn) (fun _ _ _ => trivial) ?_)
  intro x6 y6
  refine VL.q (Q.assign rfl) ?_
  refine VL.nil ?_
  refine VE.seq ?_
  refine VC.seq ?_
  refine VC.region ?_
  refine VL.q (Q.move rfl) ?_
  refine VL.quietE (v' := .bool false) (by decide) (Q.ne rfl rfl) (by rfl) ?_
  refine VL.nil ?_
  refine VE.seq ?_
  refine VC.condF rfl ?_
  refine VC.skip ?_
  refine VE.seq ?_
  refine VC.seq ?_
  refine VC.region ?_
  refine VL.q (Q.loadA ty46 rfl zM zS) ?_
  refine VL.eff (O.call0 ok38 rfl rfl (by decide) (until_c _ _) (fun _ _ _ => trivial) ?_)
  intro x11 y11
  refine VL.q (Q.assign rfl) ?_
  refine VL.q (Q.assign rfl) ?_
  refine VL.nil ?_
  refine VE.seq ?_
  refine VC.ret ?_
  refine VE.ret rfl (.tmp rfl (.tmp rfl .nil)) () ?_ ?_ (List.nil_sublist _)
  · trivial
  · first | rfl | (exfalso; simp at *; omega)

theorem reserved_c (u l : Int) (h : navOk u l) (t : Int) (ht : 0 ≤ t ∧ t ≤ 2199023255552) :
    Does Tryd.prog 19 [.agg #[.int .i64 u, .int .i64 l], .int .i64 t] [] (fun _ => True) (X := Unit) (fun _ => True) (fun _ => .tuple #[.bool (decide (t < untilP u l)), .int .i64 0]) (fun _ => []) := by
  have hn := h
  refine Does.enter Tryd.func19 rfl (m := 19) rfl (by simp) ?_
  intro W0 hro
  refine VC.seq ?_
  refine VC.region ?_
  refine VL.eff (O.box rfl rfl (by decide) ?_)
  intro g2
  refine VL.q (Q.assign rfl) ?_
  refine VL.q (Q.assign rfl) ?_
  refine VL.nil ?_
  refine VE.seq ?_
  refine VC.seq ?_
  refine VC.seq ?_
  refine VC.region ?_
  refine VL.q (Q.loadA ty46 rfl zM zS) ?_
  refine VL.eff (O.call0 ok37 rfl rfl (by decide) (ncheck_c _ _ hn) (fun _ _ _ => trivial) ?_)
  intro x8 y8
  refine VL.q (Q.assign rfl) ?_
  refine VL.nil ?_
  refine VE.seq ?_
  refine VC.seq ?_
  refine VC.region ?_
  refine VL.q (Q.move rfl) ?_
  refine VL.quietE (v' := .bool false) (by decide) (Q.ne rfl rfl) (by rfl) ?_
  refine VL.nil ?_
  refine VE.seq ?_
  refine VC.condF rfl ?_
  refine VC.skip ?_
  refine VE.seq ?_
  refine VC.seq ?_
  refine VC.seq ?_
  refine VC.region ?_
  refine VL.q (Q.move rfl) ?_
  refine VL.eff (O.call0 ok40 rfl rfl (by decide) (time_c _ (by omega)) (fun _ _ _ => trivial) ?_)
  intro x13 y13
  refine VL.quietE (v' := .bool false) (by decide) (Q.not rfl) (by rfl) ?_
  refine VL.nil ?_
  refine VE.seq ?_
  refine VC.condF rfl ?_
  refine VC.skip ?_
  refine VE.seq ?_
  refine VC.seq ?_
  refine VC.region ?_
  refine VL.q (Q.move rfl) ?_
  refine VL.q (Q.loadA ty46 rfl zM zS) ?_
  refine VL.eff (O.call0 ok38 rfl rfl (by decide) (until_c _ _) (fun _ _ _ => trivial) ?_)
  intro x17 y17
  refine VL.q (Q.lt rfl rfl) ?_
  refine VL.q (Q.assign rfl) ?_
  refine VL.q (Q.assign rfl) ?_
  refine VL.nil ?_
  refine VE.seq ?_
  refine VC.ret ?_
  refine VE.ret rfl (.tmp rfl (.tmp rfl .nil)) () ?_ ?_ (List.nil_sublist _)
  · trivial
  · first | rfl | (exfalso; simp at *; omega)

theorem space_0  :
    Does Tryd.prog 20 [.int .u8 0] [] (fun W => Rd W (some ⟨1, 0, none⟩) [.int .i64 7, .int .i64 3, .int .i64 2, .int .i64 2]) (X := Unit) (fun _ => True) (fun _ => .tuple #[.int .i64 79, .int .i64 0]) (fun _ => []) := by
  refine Does.enter Tryd.func20 rfl (m := 12) rfl (by simp) ?_
  intro W0 hro
  refine VC.seq ?_
  refine VC.region ?_
  refine VL.q (Q.assign rfl) ?_
  refine VL.q (Q.assign rfl) ?_
  refine VL.nil ?_
  refine VE.seq ?_
  refine VC.seq ?_
  refine VC.seq ?_
  refine VC.region ?_
  refine VL.q (Q.move rfl) ?_
  refine VL.quietE (v' := .int .i64 0) (by decide) ((by first | exact Q.convF ti5 ti3 rfl (by simp only [klo]; omega) (by simp only [khi]; omega) | exact Q.convM (M := 0) ti5 ti3 rfl rfl rfl | exact Q.conv ti5 ti3 rfl)) (by rfl) ?_
  refine VL.quietE (v' := .bool false) (by decide) (Q.ge rfl rfl) (by rfl) ?_
  refine VL.nil ?_
  refine VE.seq ?_
  refine VC.condF rfl ?_
  refine VC.skip ?_
  refine VE.seq ?_
  refine VC.seq ?_
  refine VC.region ?_
  refine VL.q (Q.move rfl) ?_
  refine VL.q (Q.indexAddrA ar100 (j := 0) rfl rfl rfl (by omega)) ?_
  refine VL.q (Q.load0 ty3 rfl (Rd.at (j := 0) hro rfl) (by simp)) ?_
  refine VL.quietE (v' := .int .i64 63) (by decide) ((by first | exact Q.mulI rfl rfl (by omega) (by omega) | exact Q.mul rfl rfl)) (by rfl) ?_
  refine VL.quietE (v' := .int .i64 79) (by decide) ((by first | exact Q.addI rfl rfl (by omega) (by omega) | exact Q.add rfl rfl)) (by rfl) ?_
  refine VL.q (Q.assign rfl) ?_
  refine VL.q (Q.assign rfl) ?_
  refine VL.nil ?_
  refine VE.seq ?_
  refine VC.ret ?_
  refine VE.ret rfl (.tmp rfl (.tmp rfl .nil)) () ?_ ?_ (List.nil_sublist _)
  · trivial
  · first | rfl | (exfalso; simp at *; omega)

theorem earliest_0 (u l : Int) (h : navOk u l) (t : Int) (ht : 0 ≤ t ∧ t ≤ 2199023255552) :
    Does Tryd.prog 21 [.agg #[.int .i64 u, .int .i64 l], .int .i64 t, .int .u8 0] [] (fun W => Rd W (some ⟨1, 0, none⟩) [.int .i64 7, .int .i64 3, .int .i64 2, .int .i64 2]) (X := Unit) (fun _ => True) (fun _ => .tuple #[.int .i64 ((if t < untilP u l then untilP u l else t) + 79), .int .i64 0]) (fun _ => []) := by
  have hn := h
  have hb := untilP_bd h
  refine Does.enter Tryd.func21 rfl (m := 34) rfl (by simp) ?_
  intro W0 hro
  refine VC.seq ?_
  refine VC.region ?_
  refine VL.eff (O.box rfl rfl (by decide) ?_)
  intro g3
  refine VL.q (Q.assign rfl) ?_
  refine VL.q (Q.assign rfl) ?_
  refine VL.nil ?_
  refine VE.seq ?_
  refine VC.seq ?_
  refine VC.seq ?_
  refine VC.region ?_
  refine VL.q (Q.loadA ty46 rfl zM zS) ?_
  refine VL.eff (O.call0 ok37 rfl rfl (by decide) (ncheck_c _ _ hn) (fun _ _ _ => trivial) ?_)
  intro x12 y12
  refine VL.q (Q.assign rfl) ?_
  refine VL.nil ?_
  refine VE.seq ?_
  refine VC.seq ?_
  refine VC.region ?_
  refine VL.q (Q.move rfl) ?_
  refine VL.quietE (v' := .bool false) (by decide) (Q.ne rfl rfl) (by rfl) ?_
  refine VL.nil ?_
  refine VE.seq ?_
  refine VC.condF rfl ?_
  refine VC.skip ?_
  refine VE.seq ?_
  refine VC.seq ?_
  refine VC.region ?_
  refine VL.q (Q.move rfl) ?_
  refine VL.eff (O.call0 ok20 rfl rfl (by decide) (space_0) (fun _ ho _ => hro.only0 ho) ?_)
  intro x18 y18
  refine VL.q (Q.move rfl) ?_
  refine VL.q (Q.extract rfl rfl) ?_
  refine VL.q (Q.extract rfl rfl) ?_
  refine VL.q (Q.assign rfl) ?_
  refine VL.q (Q.assign rfl) ?_
  refine VL.nil ?_
  refine VE.seq ?_
  refine VC.seq ?_
  refine VC.seq ?_
  refine VC.region ?_
  refine VL.q (Q.move rfl) ?_
  refine VL.quietE (v' := .bool false) (by decide) (Q.ne rfl rfl) (by rfl) ?_
  refine VL.q (Q.move rfl) ?_
  refine VL.yes rfl rfl ?_
  refine VL.q (Q.move rfl) ?_
  refine VL.yes rfl rfl ?_
  refine VL.eff (O.call0 ok40 rfl rfl (by decide) (time_c _ (by omega)) (fun _ _ _ => trivial) ?_)
  intro x25 y25
  refine VL.yes rfl rfl ?_
  refine VL.quietE (v' := .bool false) (by decide) (Q.not rfl) (by rfl) ?_
  refine VL.quietE (v' := .bool false) (by decide) (Q.pick_false rfl rfl) (by rfl) ?_
  refine VL.nil ?_
  refine VE.seq ?_
  refine VC.condF rfl ?_
  refine VC.skip ?_
  refine VE.seq ?_
  refine VC.seq ?_
  refine VC.region ?_
  refine VL.q (Q.move rfl) ?_
  refine VL.q (Q.loadA ty46 rfl zM zS) ?_
  refine VL.eff (O.call0 ok38 rfl rfl (by decide) (until_c _ _) (fun _ _ _ => trivial) ?_)
  intro x30 y30
  refine VL.q (Q.max2 rfl rfl) ?_
  refine VL.q (Q.move rfl) ?_
  refine VL.q (Q.addI rfl rfl (by split <;> omega) (by split <;> omega)) ?_
  refine VL.q (Q.assign rfl) ?_
  refine VL.q (Q.assign rfl) ?_
  refine VL.nil ?_
  refine VE.seq ?_
  refine VC.ret ?_
  refine VE.ret rfl (.tmp rfl (.tmp rfl .nil)) () ?_ ?_ (List.nil_sublist _)
  · trivial
  · first | rfl | (exfalso; simp at *; omega)

theorem space_1  :
    Does Tryd.prog 20 [.int .u8 1] [] (fun W => Rd W (some ⟨1, 0, none⟩) [.int .i64 7, .int .i64 3, .int .i64 2, .int .i64 2]) (X := Unit) (fun _ => True) (fun _ => .tuple #[.int .i64 43, .int .i64 0]) (fun _ => []) := by
  refine Does.enter Tryd.func20 rfl (m := 12) rfl (by simp) ?_
  intro W0 hro
  refine VC.seq ?_
  refine VC.region ?_
  refine VL.q (Q.assign rfl) ?_
  refine VL.q (Q.assign rfl) ?_
  refine VL.nil ?_
  refine VE.seq ?_
  refine VC.seq ?_
  refine VC.seq ?_
  refine VC.region ?_
  refine VL.q (Q.move rfl) ?_
  refine VL.quietE (v' := .int .i64 1) (by decide) ((by first | exact Q.convF ti5 ti3 rfl (by simp only [klo]; omega) (by simp only [khi]; omega) | exact Q.convM (M := 0) ti5 ti3 rfl rfl rfl | exact Q.conv ti5 ti3 rfl)) (by rfl) ?_
  refine VL.quietE (v' := .bool false) (by decide) (Q.ge rfl rfl) (by rfl) ?_
  refine VL.nil ?_
  refine VE.seq ?_
  refine VC.condF rfl ?_
  refine VC.skip ?_
  refine VE.seq ?_
  refine VC.seq ?_
  refine VC.region ?_
  refine VL.q (Q.move rfl) ?_
  refine VL.q (Q.indexAddrA ar100 (j := 1) rfl rfl rfl (by omega)) ?_
  refine VL.q (Q.load0 ty3 rfl (Rd.at (j := 1) hro rfl) (by simp)) ?_
  refine VL.quietE (v' := .int .i64 27) (by decide) ((by first | exact Q.mulI rfl rfl (by omega) (by omega) | exact Q.mul rfl rfl)) (by rfl) ?_
  refine VL.quietE (v' := .int .i64 43) (by decide) ((by first | exact Q.addI rfl rfl (by omega) (by omega) | exact Q.add rfl rfl)) (by rfl) ?_
  refine VL.q (Q.assign rfl) ?_
  refine VL.q (Q.assign rfl) ?_
  refine VL.nil ?_
  refine VE.seq ?_
  refine VC.ret ?_
  refine VE.ret rfl (.tmp rfl (.tmp rfl .nil)) () ?_ ?_ (List.nil_sublist _)
  · trivial
  · first | rfl | (exfalso; simp at *; omega)

theorem earliest_1 (u l : Int) (h : navOk u l) (t : Int) (ht : 0 ≤ t ∧ t ≤ 2199023255552) :
    Does Tryd.prog 21 [.agg #[.int .i64 u, .int .i64 l], .int .i64 t, .int .u8 1] [] (fun W => Rd W (some ⟨1, 0, none⟩) [.int .i64 7, .int .i64 3, .int .i64 2, .int .i64 2]) (X := Unit) (fun _ => True) (fun _ => .tuple #[.int .i64 ((if t < untilP u l then untilP u l else t) + 43), .int .i64 0]) (fun _ => []) := by
  have hn := h
  have hb := untilP_bd h
  refine Does.enter Tryd.func21 rfl (m := 34) rfl (by simp) ?_
  intro W0 hro
  refine VC.seq ?_
  refine VC.region ?_
  refine VL.eff (O.box rfl rfl (by decide) ?_)
  intro g3
  refine VL.q (Q.assign rfl) ?_
  refine VL.q (Q.assign rfl) ?_
  refine VL.nil ?_
  refine VE.seq ?_
  refine VC.seq ?_
  refine VC.seq ?_
  refine VC.region ?_
  refine VL.q (Q.loadA ty46 rfl zM zS) ?_
  refine VL.eff (O.call0 ok37 rfl rfl (by decide) (ncheck_c _ _ hn) (fun _ _ _ => trivial) ?_)
  intro x12 y12
  refine VL.q (Q.assign rfl) ?_
  refine VL.nil ?_
  refine VE.seq ?_
  refine VC.seq ?_
  refine VC.region ?_
  refine VL.q (Q.move rfl) ?_
  refine VL.quietE (v' := .bool false) (by decide) (Q.ne rfl rfl) (by rfl) ?_
  refine VL.nil ?_
  refine VE.seq ?_
  refine VC.condF rfl ?_
  refine VC.skip ?_
  refine VE.seq ?_
  refine VC.seq ?_
  refine VC.region ?_
  refine VL.q (Q.move rfl) ?_
  refine VL.eff (O.call0 ok20 rfl rfl (by decide) (space_1) (fun _ ho _ => hro.only0 ho) ?_)
  intro x18 y18
  refine VL.q (Q.move rfl) ?_
  refine VL.q (Q.extract rfl rfl) ?_
  refine VL.q (Q.extract rfl rfl) ?_
  refine VL.q (Q.assign rfl) ?_
  refine VL.q (Q.assign rfl) ?_
  refine VL.nil ?_
  refine VE.seq ?_
  refine VC.seq ?_
  refine VC.seq ?_
  refine VC.region ?_
  refine VL.q (Q.move rfl) ?_
  refine VL.quietE (v' := .bool false) (by decide) (Q.ne rfl rfl) (by rfl) ?_
  refine VL.q (Q.move rfl) ?_
  refine VL.yes rfl rfl ?_
  refine VL.q (Q.move rfl) ?_
  refine VL.yes rfl rfl ?_
  refine VL.eff (O.call0 ok40 rfl rfl (by decide) (time_c _ (by omega)) (fun _ _ _ => trivial) ?_)
  intro x25 y25
  refine VL.yes rfl rfl ?_
  refine VL.quietE (v' := .bool false) (by decide) (Q.not rfl) (by rfl) ?_
  refine VL.quietE (v' := .bool false) (by decide) (Q.pick_false rfl rfl) (by rfl) ?_
  refine VL.nil ?_
  refine VE.seq ?_
  refine VC.condF rfl ?_
  refine VC.skip ?_
  refine VE.seq ?_
  refine VC.seq ?_
  refine VC.region ?_
  refine VL.q (Q.move rfl) ?_
  refine VL.q (Q.loadA ty46 rfl zM zS) ?_
  refine VL.eff (O.call0 ok38 rfl rfl (by decide) (until_c _ _) (fun _ _ _ => trivial) ?_)
  intro x30 y30
  refine VL.q (Q.max2 rfl rfl) ?_
  refine VL.q (Q.move rfl) ?_
  refine VL.q (Q.addI rfl rfl (by split <;> omega) (by split <;> omega)) ?_
  refine VL.q (Q.assign rfl) ?_
  refine VL.q (Q.assign rfl) ?_
  refine VL.nil ?_
  refine VE.seq ?_
  refine VC.ret ?_
  refine VE.ret rfl (.tmp rfl (.tmp rfl .nil)) () ?_ ?_ (List.nil_sublist _)
  · trivial
  · first | rfl | (exfalso; simp at *; omega)

theorem space_2  :
    Does Tryd.prog 20 [.int .u8 2] [] (fun W => Rd W (some ⟨1, 0, none⟩) [.int .i64 7, .int .i64 3, .int .i64 2, .int .i64 2]) (X := Unit) (fun _ => True) (fun _ => .tuple #[.int .i64 34, .int .i64 0]) (fun _ => []) := by
  refine Does.enter Tryd.func20 rfl (m := 12) rfl (by simp) ?_
  intro W0 hro
  refine VC.seq ?_
  refine VC.region ?_
  refine VL.q (Q.assign rfl) ?_
  refine VL.q (Q.assign rfl) ?_
  refine VL.nil ?_
  refine VE.seq ?_
  refine VC.seq ?_
  refine VC.seq ?_
  refine VC.region ?_
  refine VL.q (Q.move rfl) ?_
  refine VL.quietE (v' := .int .i64 2) (by decide) ((by first | exact Q.convF ti5 ti3 rfl (by simp only [klo]; omega) (by simp only [khi]; omega) | exact Q.convM (M := 0) ti5 ti3 rfl rfl rfl | exact Q.conv ti5 ti3 rfl)) (by rfl) ?_
  refine VL.quietE (v' := .bool false) (by decide) (Q.ge rfl rfl) (by rfl) ?_
  refine VL.nil ?_
  refine VE.seq ?_
  refine VC.condF rfl ?_
  refine VC.skip ?_
  refine VE.seq ?_
  refine VC.seq ?_
  refine VC.region ?_
  refine VL.q (Q.move rfl) ?_
  refine VL.q (Q.indexAddrA ar100 (j := 2) rfl rfl rfl (by omega)) ?_
  refine VL.q (Q.load0 ty3 rfl (Rd.at (j := 2) hro rfl) (by simp)) ?_
  refine VL.quietE (v' := .int .i64 18) (by decide) ((by first | exact Q.mulI rfl rfl (by omega) (by omega) | exact Q.mul rfl rfl)) (by rfl) ?_
  refine VL.quietE (v' := .int .i64 34) (by decide) ((by first | exact Q.addI rfl rfl (by omega) (by omega) | exact Q.add rfl rfl)) (by rfl) ?_
  refine VL.q (Q.assign rfl) ?_
  refine VL.q (Q.assign rfl) ?_
  refine VL.nil ?_
  refine VE.seq ?_
  refine VC.ret ?_
  refine VE.ret rfl (.tmp rfl (.tmp rfl .nil)) () ?_ ?_ (List.nil_sublist _)
  · trivial
  · first | rfl | (exfalso; simp at *; omega)

theorem earliest_2 (u l : Int) (h : navOk u l) (t : Int) (ht : 0 ≤ t ∧ t ≤ 2199023255552) :
    Does Tryd.prog 21 [.agg #[.int .i64 u, .int .i64 l], .int .i64 t, .int .u8 2] [] (fun W => Rd W (some ⟨1, 0, none⟩) [.int .i64 7, .int .i64 3, .int .i64 2, .int .i64 2]) (X := Unit) (fun _ => True) (fun _ => .tuple #[.int .i64 ((if t < untilP u l then untilP u l else t) + 34), .int .i64 0]) (fun _ => []) := by
  have hn := h
  have hb := untilP_bd h
  refine Does.enter Tryd.func21 rfl (m := 34) rfl (by simp) ?_
  intro W0 hro
  refine VC.seq ?_
  refine VC.region ?_
  refine VL.eff (O.box rfl rfl (by decide) ?_)
  intro g3
  refine VL.q (Q.assign rfl) ?_
  refine VL.q (Q.assign rfl) ?_
  refine VL.nil ?_
  refine VE.seq ?_
  refine VC.seq ?_
  refine VC.seq ?_
  refine VC.region ?_
  refine VL.q (Q.loadA ty46 rfl zM zS) ?_
  refine VL.eff (O.call0 ok37 rfl rfl (by decide) (ncheck_c _ _ hn) (fun _ _ _ => trivial) ?_)
  intro x12 y12
  refine VL.q (Q.assign rfl) ?_
  refine VL.nil ?_
  refine VE.seq ?_
  refine VC.seq ?_
  refine VC.region ?_
  refine VL.q (Q.move rfl) ?_
  refine VL.quietE (v' := .bool false) (by decide) (Q.ne rfl rfl) (by rfl) ?_
  refine VL.nil ?_
  refine VE.seq ?_
  refine VC.condF rfl ?_
  refine VC.skip ?_
  refine VE.seq ?_
  refine VC.seq ?_
  refine VC.region ?_
  refine VL.q (Q.move rfl) ?_
  refine VL.eff (O.call0 ok20 rfl rfl (by decide) (space_2) (fun _ ho _ => hro.only0 ho) ?_)
  intro x18 y18
  refine VL.q (Q.move rfl) ?_
  refine VL.q (Q.extract rfl rfl) ?_
  refine VL.q (Q.extract rfl rfl) ?_
  refine VL.q (Q.assign rfl) ?_
  refine VL.q (Q.assign rfl) ?_
  refine VL.nil ?_
  refine VE.seq ?_
  refine VC.seq ?_
  refine VC.seq ?_
  refine VC.region ?_
  refine VL.q (Q.move rfl) ?_
  refine VL.quietE (v' := .bool false) (by decide) (Q.ne rfl rfl) (by rfl) ?_
  refine VL.q (Q.move rfl) ?_
  refine VL.yes rfl rfl ?_
  refine VL.q (Q.move rfl) ?_
  refine VL.yes rfl rfl ?_
  refine VL.eff (O.call0 ok40 rfl rfl (by decide) (time_c _ (by omega)) (fun _ _ _ => trivial) ?_)
  intro x25 y25
  refine VL.yes rfl rfl ?_
  refine VL.quietE (v' := .bool false) (by decide) (Q.not rfl) (by rfl) ?_
  refine VL.quietE (v' := .bool false) (by decide) (Q.pick_false rfl rfl) (by rfl) ?_
  refine VL.nil ?_
  refine VE.seq ?_
  refine VC.condF rfl ?_
  refine VC.skip ?_
  refine VE.seq ?_
  refine VC.seq ?_
  refine VC.region ?_
  refine VL.q (Q.move rfl) ?_
  refine VL.q (Q.loadA ty46 rfl zM zS) ?_
  refine VL.eff (O.call0 ok38 rfl rfl (by decide) (until_c _ _) (fun _ _ _ => trivial) ?_)
  intro x30 y30
  refine VL.q (Q.max2 rfl rfl) ?_
  refine VL.q (Q.move rfl) ?_
  refine VL.q (Q.addI rfl rfl (by split <;> omega) (by split <;> omega)) ?_
  refine VL.q (Q.assign rfl) ?_
  refine VL.q (Q.assign rfl) ?_
  refine VL.nil ?_
  refine VE.seq ?_
  refine VC.ret ?_
  refine VE.ret rfl (.tmp rfl (.tmp rfl .nil)) () ?_ ?_ (List.nil_sublist _)
  · trivial
  · first | rfl | (exfalso; simp at *; omega)

theorem space_3  :
    Does Tryd.prog 20 [.int .u8 3] [] (fun W => Rd W (some ⟨1, 0, none⟩) [.int .i64 7, .int .i64 3, .int .i64 2, .int .i64 2]) (X := Unit) (fun _ => True) (fun _ => .tuple #[.int .i64 34, .int .i64 0]) (fun _ => []) := by
  refine Does.enter Tryd.func20 rfl (m := 12) rfl (by simp) ?_
  intro W0 hro
  refine VC.seq ?_
  refine VC.region ?_
  refine VL.q (Q.assign rfl) ?_
  refine VL.q (Q.assign rfl) ?_
  refine VL.nil ?_
  refine VE.seq ?_
  refine VC.seq ?_
  refine VC.seq ?_
  refine VC.region ?_
  refine VL.q (Q.move rfl) ?_
  refine VL.quietE (v' := .int .i64 3) (by decide) ((by first | exact Q.convF ti5 ti3 rfl (by simp only [klo]; omega) (by simp only [khi]; omega) | exact Q.convM (M := 0) ti5 ti3 rfl rfl rfl | exact Q.conv ti5 ti3 rfl)) (by rfl) ?_
  refine VL.quietE (v' := .bool false) (by decide) (Q.ge rfl rfl) (by rfl) ?_
  refine VL.nil ?_
  refine VE.seq ?_
  refine VC.condF rfl ?_
  refine VC.skip ?_
  refine VE.seq ?_
  refine VC.seq ?_
  refine VC.region ?_
  refine VL.q (Q.move rfl) ?_
  refine VL.q (Q.indexAddrA ar100 (j := 3) rfl rfl rfl (by omega)) ?_
  refine VL.q (Q.load0 ty3 rfl (Rd.at (j := 3) hro rfl) (by simp)) ?_
  refine VL.quietE (v' := .int .i64 18) (by decide) ((by first | exact Q.mulI rfl rfl (by omega) (by omega) | exact Q.mul rfl rfl)) (by rfl) ?_
  refine VL.quietE (v' := .int .i64 34) (by decide) ((by first | exact Q.addI rfl rfl (by omega) (by omega) | exact Q.add rfl rfl)) (by rfl) ?_
  refine VL.q (Q.assign rfl) ?_
  refine VL.q (Q.assign rfl) ?_
  refine VL.nil ?_
  refine VE.seq ?_
  refine VC.ret ?_
  refine VE.ret rfl (.tmp rfl (.tmp rfl .nil)) () ?_ ?_ (List.nil_sublist _)
  · trivial
  · first | rfl | (exfalso; simp at *; omega)

theorem earliest_3 (u l : Int) (h : navOk u l) (t : Int) (ht : 0 ≤ t ∧ t ≤ 2199023255552) :
    Does Tryd.prog 21 [.agg #[.int .i64 u, .int .i64 l], .int .i64 t, .int .u8 3] [] (fun W => Rd W (some ⟨1, 0, none⟩) [.int .i64 7, .int .i64 3, .int .i64 2, .int .i64 2]) (X := Unit) (fun _ => True) (fun _ => .tuple #[.int .i64 ((if t < untilP u l then untilP u l else t) + 34), .int .i64 0]) (fun _ => []) := by
  have hn := h
  have hb := untilP_bd h
  refine Does.enter Tryd.func21 rfl (m := 34) rfl (by simp) ?_
  intro W0 hro
  refine VC.seq ?_
  refine VC.region ?_
  refine VL.eff (O.box rfl rfl (by decide) ?_)
  intro g3
  refine VL.q (Q.assign rfl) ?_
  refine VL.q (Q.assign rfl) ?_
  refine VL.nil ?_
  refine VE.seq ?_
  refine VC.seq ?_
  refine VC.seq ?_
  refine VC.region ?_
  refine VL.q (Q.loadA ty46 rfl zM zS) ?_
  refine VL.eff (O.call0 ok37 rfl rfl (by decide) (ncheck_c _ _ hn) (fun _ _ _ => trivial) ?_)
  intro x12 y12
  refine VL.q (Q.assign rfl) ?_
  refine VL.nil ?_
  refine VE.seq ?_
  refine VC.seq ?_
  refine VC.region ?_
  refine VL.q (Q.move rfl) ?_
  refine VL.quietE (v' := .bool false) (by decide) (Q.ne rfl rfl) (by rfl) ?_
  refine VL.nil ?_
  refine VE.seq ?_
  refine VC.condF rfl ?_
  refine VC.skip ?_
  refine VE.seq ?_
  refine VC.seq ?_
  refine VC.region ?_
  refine VL.q (Q.move rfl) ?_
  refine VL.eff (O.call0 ok20 rfl rfl (by decide) (space_3) (fun _ ho _ => hro.only0 ho) ?_)
  intro x18 y18
  refine VL.q (Q.move rfl) ?_
  refine VL.q (Q.extract rfl rfl) ?_
  refine VL.q (Q.extract rfl rfl) ?_
  refine VL.q (Q.assign rfl) ?_
  refine VL.q (Q.assign rfl) ?_
  refine VL.nil ?_
  refine VE.seq ?_
  refine VC.seq ?_
  refine VC.seq ?_
  refine VC.region ?_
  refine VL.q (Q.move rfl) ?_
  refine VL.quietE (v' := .bool false) (by decide) (Q.ne rfl rfl) (by rfl) ?_
  refine VL.q (Q.move rfl) ?_
  refine VL.yes rfl rfl ?_
  refine VL.q (Q.move rfl) ?_
  refine VL.yes rfl rfl ?_
  refine VL.eff (O.call0 ok40 rfl rfl (by decide) (time_c _ (by omega)) (fun _ _ _ => trivial) ?_)
  intro x25 y25
  refine VL.yes rfl rfl ?_
  refine VL.quietE (v' := .bool false) (by decide) (Q.not rfl) (by rfl) ?_
  refine VL.quietE (v' := .bool false) (by decide) (Q.pick_false rfl rfl) (by rfl) ?_
  refine VL.nil ?_
  refine VE.seq ?_
  refine VC.condF rfl ?_
  refine VC.skip ?_
  refine VE.seq ?_
  refine VC.seq ?_
  refine VC.region ?_
  refine VL.q (Q.move rfl) ?_
  refine VL.q (Q.loadA ty46 rfl zM zS) ?_
  refine VL.eff (O.call0 ok38 rfl rfl (by decide) (until_c _ _) (fun _ _ _ => trivial) ?_)
  intro x30 y30
  refine VL.q (Q.max2 rfl rfl) ?_
  refine VL.q (Q.move rfl) ?_
  refine VL.q (Q.addI rfl rfl (by split <;> omega) (by split <;> omega)) ?_
  refine VL.q (Q.assign rfl) ?_
  refine VL.q (Q.assign rfl) ?_
  refine VL.nil ?_
  refine VE.seq ?_
  refine VC.ret ?_
  refine VE.ret rfl (.tmp rfl (.tmp rfl .nil)) () ?_ ?_ (List.nil_sublist _)
  · trivial
  · first | rfl | (exfalso; simp at *; omega)

end Go.Proofs.YtencghlmckbmlaaDoor
