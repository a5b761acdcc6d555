/- The contracts of package header, for the shapes of headers that the seat makes. Conditions: those that each bears. -/
import Derived.Test.YtencghlmckbmlaaDoorRows
import Derived.Test.YtencghlmckbmlaaDoorMore
import Derived.Test.YtencghlmckbmlaaDoorCheck
namespace Go.Proofs.YtencghlmckbmlaaDoor
open Go Go.RowKit Go.Sx
set_option maxRecDepth 100000

theorem ar116 : tyArr Tryd.prog 116 = some (4, 97, 1) := by kernel_rfl
theorem ar43 : tyArr Tryd.prog 43 = some (6, 5, 1) := by kernel_rfl
theorem eg50 : Tryd.prog.eqGuardType Tryd.prog.depth 50 = false := by kernel_rfl
theorem fa50_0 : tyField Tryd.prog 50 0 = some 0 := by kernel_rfl
theorem fa50_1 : tyField Tryd.prog 50 1 = some 1 := by kernel_rfl
theorem fa50_10 : tyField Tryd.prog 50 10 = some 10 := by kernel_rfl
theorem fa50_11 : tyField Tryd.prog 50 11 = some 16 := by kernel_rfl
theorem fa50_12 : tyField Tryd.prog 50 12 = some 22 := by kernel_rfl
theorem fa50_13 : tyField Tryd.prog 50 13 = some 28 := by kernel_rfl
theorem fa50_14 : tyField Tryd.prog 50 14 = some 34 := by kernel_rfl
theorem fa50_15 : tyField Tryd.prog 50 15 = some 35 := by kernel_rfl
theorem fa50_16 : tyField Tryd.prog 50 16 = some 36 := by kernel_rfl
theorem fa50_17 : tyField Tryd.prog 50 17 = some 37 := by kernel_rfl
theorem fa50_18 : tyField Tryd.prog 50 18 = some 38 := by kernel_rfl
theorem fa50_19 : tyField Tryd.prog 50 19 = some 39 := by kernel_rfl
theorem fa50_2 : tyField Tryd.prog 50 2 = some 2 := by kernel_rfl
theorem fa50_3 : tyField Tryd.prog 50 3 = some 3 := by kernel_rfl
theorem fa50_4 : tyField Tryd.prog 50 4 = some 4 := by kernel_rfl
theorem fa50_5 : tyField Tryd.prog 50 5 = some 5 := by kernel_rfl
theorem fa50_6 : tyField Tryd.prog 50 6 = some 6 := by kernel_rfl
theorem fa50_7 : tyField Tryd.prog 50 7 = some 7 := by kernel_rfl
theorem fa50_8 : tyField Tryd.prog 50 8 = some 8 := by kernel_rfl
theorem fa50_9 : tyField Tryd.prog 50 9 = some 9 := by kernel_rfl
theorem fa90_1 : tyField Tryd.prog 90 1 = some 1 := by kernel_rfl
theorem fa90_2 : tyField Tryd.prog 90 2 = some 2 := by kernel_rfl
theorem flt50 : flat Tryd.prog 6 50 = some [.int .u8, .int .u8, .bool, .bool, .bool, .bool, .bool, .bool, .bool, .int .i64, .int .u8, .int .u8, .int .u8, .int .u8, .int .u8, .int .u8, .int .u8, .int .u8, .int .u8, .int .u8, .int .u8, .int .u8, .int .u8, .int .u8, .int .u8, .int .u8, .int .u8, .int .u8, .int .u8, .int .u8, .int .u8, .int .u8, .int .u8, .int .u8, .int .i64, .int .i64, .int .i64, .int .u8, .bool, .bool] := by kernel_rfl
theorem lay116 : laysOf Tryd.prog 116 = some ([.pointer none, .pointer none, .pointer none, .pointer none], [(0, 1), (1, 1), (2, 1), (3, 1)]) := by kernel_rfl
theorem lay43 : laysOf Tryd.prog 43 = some ([.int .u8 0, .int .u8 0, .int .u8 0, .int .u8 0, .int .u8 0, .int .u8 0], [(0, 1), (1, 1), (2, 1), (3, 1), (4, 1), (5, 1)]) := by kernel_rfl
theorem lay50 : laysOf Tryd.prog 50 = some ([.int .u8 0, .int .u8 0, .bool false, .bool false, .bool false, .bool false, .bool false, .bool false, .bool false, .int .i64 0, .int .u8 0, .int .u8 0, .int .u8 0, .int .u8 0, .int .u8 0, .int .u8 0, .int .u8 0, .int .u8 0, .int .u8 0, .int .u8 0, .int .u8 0, .int .u8 0, .int .u8 0, .int .u8 0, .int .u8 0, .int .u8 0, .int .u8 0, .int .u8 0, .int .u8 0, .int .u8 0, .int .u8 0, .int .u8 0, .int .u8 0, .int .u8 0, .int .i64 0, .int .i64 0, .int .i64 0, .int .u8 0, .bool false, .bool false], [(0, 1), (1, 1), (2, 1), (3, 1), (4, 1), (5, 1), (6, 1), (7, 1), (8, 1), (9, 1), (10, 6), (16, 6), (22, 6), (28, 6), (34, 1), (35, 1), (36, 1), (37, 1), (38, 1), (39, 1)]) := by kernel_rfl
theorem lay90 : laysOf Tryd.prog 90 = some ([.bool false, .bool false, .bool false], [(0, 1), (1, 1), (2, 1)]) := by kernel_rfl
theorem ok34 : okFunc Tryd.prog 34 = true := by kernel_rfl
theorem ok36 : okFunc Tryd.prog 36 = true := by kernel_rfl
theorem ok45 : okFunc Tryd.prog 45 = true := by kernel_rfl
theorem ok46 : okFunc Tryd.prog 46 = true := by kernel_rfl
theorem ok47 : okFunc Tryd.prog 47 = true := by kernel_rfl
theorem sl93 : tySlice Tryd.prog 93 = some (97, 1, 8) := by kernel_rfl
theorem ty116 : tySz Tryd.prog 116 = some (true, 4) := by kernel_rfl
theorem ty3 : tySz Tryd.prog 3 = some (false, 1) := by kernel_rfl
theorem ty4 : tySz Tryd.prog 4 = some (false, 1) := by kernel_rfl
theorem ty43 : tySz Tryd.prog 43 = some (true, 6) := by kernel_rfl
theorem ty50 : tySz Tryd.prog 50 = some (true, 40) := by kernel_rfl
theorem ty90 : tySz Tryd.prog 90 = some (true, 3) := by kernel_rfl
theorem ty97 : tySz Tryd.prog 97 = some (false, 1) := by kernel_rfl
theorem zo116 : tyZero Tryd.prog 116 = some [.pointer none, .pointer none, .pointer none, .pointer none] := by kernel_rfl
theorem zo50 : tyZero Tryd.prog 50 = some [.int .u8 0, .int .u8 0, .bool false, .bool false, .bool false, .bool false, .bool false, .bool false, .bool false, .int .i64 0, .int .u8 0, .int .u8 0, .int .u8 0, .int .u8 0, .int .u8 0, .int .u8 0, .int .u8 0, .int .u8 0, .int .u8 0, .int .u8 0, .int .u8 0, .int .u8 0, .int .u8 0, .int .u8 0, .int .u8 0, .int .u8 0, .int .u8 0, .int .u8 0, .int .u8 0, .int .u8 0, .int .u8 0, .int .u8 0, .int .u8 0, .int .u8 0, .int .i64 0, .int .i64 0, .int .i64 0, .int .u8 0, .bool false, .bool false] := by kernel_rfl
theorem zo90 : tyZero Tryd.prog 90 = some [.bool false, .bool false, .bool false] := by kernel_rfl

theorem put16_c (p : Option Addr) (m c : Nat) (xs : List Value) (v : Int) (hv : 0 ≤ v ∧ v ≤ 65535) (hm : m ≤ 1000000) :
    Does Tryd.prog 50 [.slice p m c, .int .i64 v] [.row (.slice p m c) 5 1 m xs] (fun _ => True) (X := Option Addr × Nat) (fun x => m + 2 ≤ x.2) (fun x => .slice x.1 (m + 2) x.2) (fun x => [.row (.slice x.1 (m + 2) x.2) 5 1 (m + 2) (xs ++ [.int .u8 (v % 256), .int .u8 (v / 256)])]) := by
  refine Does.enter Tryd.func50 rfl (m := 13) rfl (by simp) ?_
  intro W0 hro
  refine VC.seq ?_
  refine VC.region ?_
  refine VL.q (Q.assign rfl) ?_
  refine VL.nil ?_
  refine VE.seq ?_
  refine VC.seq ?_
  refine VC.region ?_
  refine VL.q (Q.move rfl) ?_
  refine VL.q (Q.move rfl) ?_
  refine VL.q (Q.convM (M := 256) ti3 ti5 rfl rfl rfl) ?_
  refine VL.q (Q.move rfl) ?_
  refine VL.q (Q.shrC (s := 8) (m := 256) rfl rfl (by decide) (by decide)) ?_
  refine VL.q (Q.convF ti3 ti5 rfl (by simp only [klo]; omega) (by simp only [khi]; omega)) ?_
  refine VL.eff (O.buildSlice sl54 ze5 (by decide) zF (by decide) ?_)
  intro g11
  refine VL.eff (O.appendS sl54 ze5 rfl (by decide) rfl rfl zM zS rfl (by decide) (by unfold maxLen; omega) (by omega) zA ?_)
  intro p12 c12 hc12
  refine VL.q (Q.assign rfl) ?_
  refine VL.nil ?_
  refine VE.seq ?_
  refine VC.ret ?_
  refine VE.ret rfl (.tmp rfl .nil) (p12, c12) ?_ ?_ (.cons _ (.cons_cons _ (List.nil_sublist _)))
  · omega
  · first | rfl | (exfalso; simp at *; omega)

theorem known_rts  :
    Does Tryd.prog 34 [.int .u8 1, .int .u8 11] [] (fun _ => True) (X := Unit) (fun _ => True) (fun _ => .tuple #[.agg #[.bool false, .bool false, .bool false], .bool true]) (fun _ => []) := by
  refine Does.enter Tryd.func34 rfl (m := 47) rfl (by simp) ?_
  intro W0 hro
  refine VC.seq ?_
  refine VC.region ?_
  refine VL.eff (O.alloc zo90 (by decide) ?_)
  intro g4
  refine VL.q (Q.assign rfl) ?_
  refine VL.nil ?_
  refine VE.seq ?_
  refine VC.seq ?_
  refine VC.seq ?_
  refine VC.region ?_
  refine VL.q (Q.move rfl) ?_
  refine VL.nil ?_
  refine VE.seq ?_
  refine VC.block ?_
  refine VC.seq ?_
  refine VC.region ?_
  refine VL.quietE (v' := .bool false) (by decide) (Q.eq rfl rfl) (by rfl) ?_
  refine VL.q (Q.assign rfl) ?_
  refine VL.nil ?_
  refine VE.seq ?_
  refine VC.condF rfl ?_
  refine VC.seq ?_
  refine VC.region ?_
  refine VL.quietE (v' := .bool true) (by decide) (Q.eq rfl rfl) (by rfl) ?_
  refine VL.q (Q.assign rfl) ?_
  refine VL.nil ?_
  refine VE.seq ?_
  refine VC.condT rfl ?_
  refine VC.seq ?_
  refine VC.region ?_
  refine VL.q (Q.build lay90 zF) ?_
  refine VL.q (Q.move rfl) ?_
  refine VL.quietE (v' := .bool true) (by decide) (Q.ge rfl rfl) (by rfl) ?_
  refine VL.q (Q.move rfl) ?_
  refine VL.yes rfl rfl ?_
  refine VL.q (Q.move rfl) ?_
  refine VL.yes rfl rfl ?_
  refine VL.quietE (v' := .bool true) (by decide) (Q.le rfl rfl) (by rfl) ?_
  refine VL.quietE (v' := .bool true) (by decide) (Q.pick_true rfl rfl) (by rfl) ?_
  refine VL.eff (O.store ty90 rfl rfl rfl rfl zU zP ?_)
  refine VL.q (Q.assign rfl) ?_
  refine VL.nil ?_
  refine VE.seq ?_
  refine VC.ret ?_
  refine VE.block_ret ?_
  refine VE.then_ret ?_
  refine VE.ret rfl (.cell ty90 rfl zM rfl (.tmp rfl .nil)) () ?_ ?_ (List.nil_sublist _)
  · trivial
  · first | rfl | (exfalso; simp at *; omega)

theorem null_rts (D : Nat) :
    Does Tryd.prog 47 [.agg #[.int .u8 1, .int .u8 11, .bool false, .bool false, .bool false, .bool false, .bool false, .bool false, .bool false, .int .i64 (D : Int), .int .u8 2, .int .u8 0, .int .u8 0, .int .u8 0, .int .u8 0, .int .u8 1, .int .u8 2, .int .u8 0, .int .u8 0, .int .u8 0, .int .u8 0, .int .u8 2, .int .u8 0, .int .u8 0, .int .u8 0, .int .u8 0, .int .u8 0, .int .u8 0, .int .u8 0, .int .u8 0, .int .u8 0, .int .u8 0, .int .u8 0, .int .u8 0, .int .i64 0, .int .i64 0, .int .i64 0, .int .u8 0, .bool false, .bool false]] [] (fun _ => True) (X := Unit) (fun _ => True) (fun _ => .bool false) (fun _ => []) := by
  refine Does.enter Tryd.func47 rfl (m := 12) rfl (by simp) ?_
  intro W0 hro
  refine VC.seq ?_
  refine VC.region ?_
  refine VL.eff (O.box rfl rfl (by decide) ?_)
  intro g1
  refine VL.q (Q.assign rfl) ?_
  refine VL.nil ?_
  refine VE.seq ?_
  refine VC.seq ?_
  refine VC.region ?_
  refine VL.q (Q.fieldAddr fa50_0 rfl) ?_
  refine VL.q (Q.load1 ty5 rfl zM rfl) ?_
  refine VL.quietE (v' := .bool false) (by decide) (Q.eq rfl rfl) (by rfl) ?_
  refine VL.q (Q.move rfl) ?_
  refine VL.no (by simp) rfl rfl (.inl rfl) ?_
  refine VL.no (by simp) rfl rfl (.inl rfl) ?_
  refine VL.no (by simp) rfl rfl (.inl rfl) ?_
  refine VL.no (by simp) rfl rfl (.inl rfl) ?_
  refine VL.quietE (v' := .bool false) (by decide) (Q.pick_false rfl rfl) (by rfl) ?_
  refine VL.q (Q.assign rfl) ?_
  refine VL.nil ?_
  refine VE.seq ?_
  refine VC.ret ?_
  refine VE.ret rfl (.tmp rfl .nil) () ?_ ?_ (List.nil_sublist _)
  · trivial
  · first | rfl | (exfalso; simp at *; omega)

theorem bare_rts (D : Nat) :
    Does Tryd.prog 29 [.agg #[.int .u8 1, .int .u8 11, .bool false, .bool false, .bool false, .bool false, .bool false, .bool false, .bool false, .int .i64 (D : Int), .int .u8 2, .int .u8 0, .int .u8 0, .int .u8 0, .int .u8 0, .int .u8 1, .int .u8 2, .int .u8 0, .int .u8 0, .int .u8 0, .int .u8 0, .int .u8 2, .int .u8 0, .int .u8 0, .int .u8 0, .int .u8 0, .int .u8 0, .int .u8 0, .int .u8 0, .int .u8 0, .int .u8 0, .int .u8 0, .int .u8 0, .int .u8 0, .int .i64 0, .int .i64 0, .int .i64 0, .int .u8 0, .bool false, .bool false]] [] (fun _ => True) (X := Unit) (fun _ => True) (fun _ => .bool true) (fun _ => []) := by
  refine Does.enter Tryd.func29 rfl (m := 15) rfl (by simp) ?_
  intro W0 hro
  refine VC.seq ?_
  refine VC.region ?_
  refine VL.eff (O.box rfl rfl (by decide) ?_)
  intro g1
  refine VL.q (Q.assign rfl) ?_
  refine VL.nil ?_
  refine VE.seq ?_
  refine VC.seq ?_
  refine VC.region ?_
  refine VL.q (Q.loadA ty50 rfl zM zS) ?_
  refine VL.eff (O.call0 ok47 rfl rfl (by decide) (null_rts D) (fun _ _ _ => trivial) ?_)
  intro x4 y4
  refine VL.q (Q.move rfl) ?_
  refine VL.yes rfl rfl ?_
  refine VL.q (Q.fieldAddr fa50_0 rfl) ?_
  refine VL.yes rfl rfl ?_
  refine VL.q (Q.load1 ty5 rfl zM rfl) ?_
  refine VL.yes rfl rfl ?_
  refine VL.quietE (v' := .bool true) (by decide) (Q.eq rfl rfl) (by rfl) ?_
  refine VL.yes rfl rfl ?_
  refine VL.q (Q.move rfl) ?_
  refine VL.yes rfl rfl ?_
  refine VL.q (Q.fieldAddr fa50_1 rfl) ?_
  refine VL.yes rfl rfl ?_
  refine VL.q (Q.load1 ty5 rfl zM rfl) ?_
  refine VL.yes rfl rfl ?_
  refine VL.quietE (v' := .bool true) (by decide) (Q.ge rfl rfl) (by rfl) ?_
  refine VL.yes rfl rfl ?_
  refine VL.quietE (v' := .bool true) (by decide) (Q.pick_true rfl rfl) (by rfl) ?_
  refine VL.quietE (v' := .bool true) (by decide) (Q.pick_false rfl rfl) (by rfl) ?_
  refine VL.q (Q.assign rfl) ?_
  refine VL.nil ?_
  refine VE.seq ?_
  refine VC.ret ?_
  refine VE.ret rfl (.tmp rfl .nil) () ?_ ?_ (List.nil_sublist _)
  · trivial
  · first | rfl | (exfalso; simp at *; omega)

theorem known_cts  :
    Does Tryd.prog 34 [.int .u8 1, .int .u8 12] [] (fun _ => True) (X := Unit) (fun _ => True) (fun _ => .tuple #[.agg #[.bool false, .bool false, .bool false], .bool true]) (fun _ => []) := by
  refine Does.enter Tryd.func34 rfl (m := 47) rfl (by simp) ?_
  intro W0 hro
  refine VC.seq ?_
  refine VC.region ?_
  refine VL.eff (O.alloc zo90 (by decide) ?_)
  intro g4
  refine VL.q (Q.assign rfl) ?_
  refine VL.nil ?_
  refine VE.seq ?_
  refine VC.seq ?_
  refine VC.seq ?_
  refine VC.region ?_
  refine VL.q (Q.move rfl) ?_
  refine VL.nil ?_
  refine VE.seq ?_
  refine VC.block ?_
  refine VC.seq ?_
  refine VC.region ?_
  refine VL.quietE (v' := .bool false) (by decide) (Q.eq rfl rfl) (by rfl) ?_
  refine VL.q (Q.assign rfl) ?_
  refine VL.nil ?_
  refine VE.seq ?_
  refine VC.condF rfl ?_
  refine VC.seq ?_
  refine VC.region ?_
  refine VL.quietE (v' := .bool true) (by decide) (Q.eq rfl rfl) (by rfl) ?_
  refine VL.q (Q.assign rfl) ?_
  refine VL.nil ?_
  refine VE.seq ?_
  refine VC.condT rfl ?_
  refine VC.seq ?_
  refine VC.region ?_
  refine VL.q (Q.build lay90 zF) ?_
  refine VL.q (Q.move rfl) ?_
  refine VL.quietE (v' := .bool true) (by decide) (Q.ge rfl rfl) (by rfl) ?_
  refine VL.q (Q.move rfl) ?_
  refine VL.yes rfl rfl ?_
  refine VL.q (Q.move rfl) ?_
  refine VL.yes rfl rfl ?_
  refine VL.quietE (v' := .bool true) (by decide) (Q.le rfl rfl) (by rfl) ?_
  refine VL.quietE (v' := .bool true) (by decide) (Q.pick_true rfl rfl) (by rfl) ?_
  refine VL.eff (O.store ty90 rfl rfl rfl rfl zU zP ?_)
  refine VL.q (Q.assign rfl) ?_
  refine VL.nil ?_
  refine VE.seq ?_
  refine VC.ret ?_
  refine VE.block_ret ?_
  refine VE.then_ret ?_
  refine VE.ret rfl (.cell ty90 rfl zM rfl (.tmp rfl .nil)) () ?_ ?_ (List.nil_sublist _)
  · trivial
  · first | rfl | (exfalso; simp at *; omega)

theorem null_cts (D : Nat) :
    Does Tryd.prog 47 [.agg #[.int .u8 1, .int .u8 12, .bool false, .bool false, .bool false, .bool false, .bool false, .bool false, .bool false, .int .i64 (D : Int), .int .u8 2, .int .u8 0, .int .u8 0, .int .u8 0, .int .u8 0, .int .u8 2, .int .u8 0, .int .u8 0, .int .u8 0, .int .u8 0, .int .u8 0, .int .u8 0, .int .u8 0, .int .u8 0, .int .u8 0, .int .u8 0, .int .u8 0, .int .u8 0, .int .u8 0, .int .u8 0, .int .u8 0, .int .u8 0, .int .u8 0, .int .u8 0, .int .i64 0, .int .i64 0, .int .i64 0, .int .u8 0, .bool false, .bool false]] [] (fun _ => True) (X := Unit) (fun _ => True) (fun _ => .bool false) (fun _ => []) := by
  refine Does.enter Tryd.func47 rfl (m := 12) rfl (by simp) ?_
  intro W0 hro
  refine VC.seq ?_
  refine VC.region ?_
  refine VL.eff (O.box rfl rfl (by decide) ?_)
  intro g1
  refine VL.q (Q.assign rfl) ?_
  refine VL.nil ?_
  refine VE.seq ?_
  refine VC.seq ?_
  refine VC.region ?_
  refine VL.q (Q.fieldAddr fa50_0 rfl) ?_
  refine VL.q (Q.load1 ty5 rfl zM rfl) ?_
  refine VL.quietE (v' := .bool false) (by decide) (Q.eq rfl rfl) (by rfl) ?_
  refine VL.q (Q.move rfl) ?_
  refine VL.no (by simp) rfl rfl (.inl rfl) ?_
  refine VL.no (by simp) rfl rfl (.inl rfl) ?_
  refine VL.no (by simp) rfl rfl (.inl rfl) ?_
  refine VL.no (by simp) rfl rfl (.inl rfl) ?_
  refine VL.quietE (v' := .bool false) (by decide) (Q.pick_false rfl rfl) (by rfl) ?_
  refine VL.q (Q.assign rfl) ?_
  refine VL.nil ?_
  refine VE.seq ?_
  refine VC.ret ?_
  refine VE.ret rfl (.tmp rfl .nil) () ?_ ?_ (List.nil_sublist _)
  · trivial
  · first | rfl | (exfalso; simp at *; omega)

theorem bare_cts (D : Nat) :
    Does Tryd.prog 29 [.agg #[.int .u8 1, .int .u8 12, .bool false, .bool false, .bool false, .bool false, .bool false, .bool false, .bool false, .int .i64 (D : Int), .int .u8 2, .int .u8 0, .int .u8 0, .int .u8 0, .int .u8 0, .int .u8 2, .int .u8 0, .int .u8 0, .int .u8 0, .int .u8 0, .int .u8 0, .int .u8 0, .int .u8 0, .int .u8 0, .int .u8 0, .int .u8 0, .int .u8 0, .int .u8 0, .int .u8 0, .int .u8 0, .int .u8 0, .int .u8 0, .int .u8 0, .int .u8 0, .int .i64 0, .int .i64 0, .int .i64 0, .int .u8 0, .bool false, .bool false]] [] (fun _ => True) (X := Unit) (fun _ => True) (fun _ => .bool true) (fun _ => []) := by
  refine Does.enter Tryd.func29 rfl (m := 15) rfl (by simp) ?_
  intro W0 hro
  refine VC.seq ?_
  refine VC.region ?_
  refine VL.eff (O.box rfl rfl (by decide) ?_)
  intro g1
  refine VL.q (Q.assign rfl) ?_
  refine VL.nil ?_
  refine VE.seq ?_
  refine VC.seq ?_
  refine VC.region ?_
  refine VL.q (Q.loadA ty50 rfl zM zS) ?_
  refine VL.eff (O.call0 ok47 rfl rfl (by decide) (null_cts D) (fun _ _ _ => trivial) ?_)
  intro x4 y4
  refine VL.q (Q.move rfl) ?_
  refine VL.yes rfl rfl ?_
  refine VL.q (Q.fieldAddr fa50_0 rfl) ?_
  refine VL.yes rfl rfl ?_
  refine VL.q (Q.load1 ty5 rfl zM rfl) ?_
  refine VL.yes rfl rfl ?_
  refine VL.quietE (v' := .bool true) (by decide) (Q.eq rfl rfl) (by rfl) ?_
  refine VL.yes rfl rfl ?_
  refine VL.q (Q.move rfl) ?_
  refine VL.yes rfl rfl ?_
  refine VL.q (Q.fieldAddr fa50_1 rfl) ?_
  refine VL.yes rfl rfl ?_
  refine VL.q (Q.load1 ty5 rfl zM rfl) ?_
  refine VL.yes rfl rfl ?_
  refine VL.quietE (v' := .bool true) (by decide) (Q.ge rfl rfl) (by rfl) ?_
  refine VL.yes rfl rfl ?_
  refine VL.quietE (v' := .bool true) (by decide) (Q.pick_true rfl rfl) (by rfl) ?_
  refine VL.quietE (v' := .bool true) (by decide) (Q.pick_false rfl rfl) (by rfl) ?_
  refine VL.q (Q.assign rfl) ?_
  refine VL.nil ?_
  refine VE.seq ?_
  refine VC.ret ?_
  refine VE.ret rfl (.tmp rfl .nil) () ?_ ?_ (List.nil_sublist _)
  · trivial
  · first | rfl | (exfalso; simp at *; omega)

theorem known_data  :
    Does Tryd.prog 34 [.int .u8 2, .int .u8 8] [] (fun _ => True) (X := Unit) (fun _ => True) (fun _ => .tuple #[.agg #[.bool true, .bool true, .bool true], .bool true]) (fun _ => []) := by
  refine Does.enter Tryd.func34 rfl (m := 47) rfl (by simp) ?_
  intro W0 hro
  refine VC.seq ?_
  refine VC.region ?_
  refine VL.eff (O.alloc zo90 (by decide) ?_)
  intro g4
  refine VL.q (Q.assign rfl) ?_
  refine VL.nil ?_
  refine VE.seq ?_
  refine VC.seq ?_
  refine VC.seq ?_
  refine VC.region ?_
  refine VL.q (Q.move rfl) ?_
  refine VL.nil ?_
  refine VE.seq ?_
  refine VC.block ?_
  refine VC.seq ?_
  refine VC.region ?_
  refine VL.quietE (v' := .bool false) (by decide) (Q.eq rfl rfl) (by rfl) ?_
  refine VL.q (Q.assign rfl) ?_
  refine VL.nil ?_
  refine VE.seq ?_
  refine VC.condF rfl ?_
  refine VC.seq ?_
  refine VC.region ?_
  refine VL.quietE (v' := .bool false) (by decide) (Q.eq rfl rfl) (by rfl) ?_
  refine VL.q (Q.assign rfl) ?_
  refine VL.nil ?_
  refine VE.seq ?_
  refine VC.condF rfl ?_
  refine VC.seq ?_
  refine VC.region ?_
  refine VL.quietE (v' := .bool true) (by decide) (Q.eq rfl rfl) (by rfl) ?_
  refine VL.q (Q.assign rfl) ?_
  refine VL.nil ?_
  refine VE.seq ?_
  refine VC.condT rfl ?_
  refine VC.seq ?_
  refine VC.region ?_
  refine VL.q (Q.move rfl) ?_
  refine VL.quietE (v' := .int .u8 8) (by decide) (Q.and rfl rfl (by omega) (by simp only [khi]; omega) (by omega) (by simp only [khi]; omega)) (by rfl) ?_
  refine VL.quietE (v' := .bool true) (by decide) (Q.ne rfl rfl) (by rfl) ?_
  refine VL.q (Q.build lay90 zF) ?_
  refine VL.q (Q.move rfl) ?_
  refine VL.quietE (v' := .int .u8 0) (by decide) (Q.and rfl rfl (by omega) (by simp only [khi]; omega) (by omega) (by simp only [khi]; omega)) (by rfl) ?_
  refine VL.quietE (v' := .bool true) (by decide) (Q.eq rfl rfl) (by rfl) ?_
  refine VL.q (Q.move rfl) ?_
  refine VL.yes rfl rfl ?_
  refine VL.q (Q.move rfl) ?_
  refine VL.yes rfl rfl ?_
  refine VL.quietE (v' := .bool true) (by decide) (Q.le rfl rfl) (by rfl) ?_
  refine VL.quietE (v' := .bool true) (by decide) (Q.pick_true rfl rfl) (by rfl) ?_
  refine VL.eff (O.store ty90 rfl rfl rfl rfl zU zP ?_)
  refine VL.q (Q.assign rfl) ?_
  refine VL.nil ?_
  refine VE.seq ?_
  refine VC.ret ?_
  refine VE.block_ret ?_
  refine VE.then_ret ?_
  refine VE.ret rfl (.cell ty90 rfl zM rfl (.tmp rfl .nil)) () ?_ ?_ (List.nil_sublist _)
  · trivial
  · first | rfl | (exfalso; simp at *; omega)

theorem null_data (D : Nat) :
    Does Tryd.prog 47 [.agg #[.int .u8 2, .int .u8 8, .bool false, .bool false, .bool false, .bool false, .bool false, .bool false, .bool false, .int .i64 (D : Int), .int .u8 2, .int .u8 0, .int .u8 0, .int .u8 0, .int .u8 0, .int .u8 1, .int .u8 2, .int .u8 0, .int .u8 0, .int .u8 0, .int .u8 0, .int .u8 2, .int .u8 0, .int .u8 0, .int .u8 0, .int .u8 0, .int .u8 0, .int .u8 0, .int .u8 0, .int .u8 0, .int .u8 0, .int .u8 0, .int .u8 0, .int .u8 0, .int .i64 0, .int .i64 0, .int .i64 0, .int .u8 0, .bool false, .bool false]] [] (fun _ => True) (X := Unit) (fun _ => True) (fun _ => .bool false) (fun _ => []) := by
  refine Does.enter Tryd.func47 rfl (m := 12) rfl (by simp) ?_
  intro W0 hro
  refine VC.seq ?_
  refine VC.region ?_
  refine VL.eff (O.box rfl rfl (by decide) ?_)
  intro g1
  refine VL.q (Q.assign rfl) ?_
  refine VL.nil ?_
  refine VE.seq ?_
  refine VC.seq ?_
  refine VC.region ?_
  refine VL.q (Q.fieldAddr fa50_0 rfl) ?_
  refine VL.q (Q.load1 ty5 rfl zM rfl) ?_
  refine VL.quietE (v' := .bool true) (by decide) (Q.eq rfl rfl) (by rfl) ?_
  refine VL.q (Q.move rfl) ?_
  refine VL.yes rfl rfl ?_
  refine VL.q (Q.fieldAddr fa50_1 rfl) ?_
  refine VL.yes rfl rfl ?_
  refine VL.q (Q.load1 ty5 rfl zM rfl) ?_
  refine VL.yes rfl rfl ?_
  refine VL.quietE (v' := .int .u8 0) (by decide) (Q.and rfl rfl (by omega) (by simp only [khi]; omega) (by omega) (by simp only [khi]; omega)) (by rfl) ?_
  refine VL.yes rfl rfl ?_
  refine VL.quietE (v' := .bool false) (by decide) (Q.ne rfl rfl) (by rfl) ?_
  refine VL.quietE (v' := .bool false) (by decide) (Q.pick_true rfl rfl) (by rfl) ?_
  refine VL.q (Q.assign rfl) ?_
  refine VL.nil ?_
  refine VE.seq ?_
  refine VC.ret ?_
  refine VE.ret rfl (.tmp rfl .nil) () ?_ ?_ (List.nil_sublist _)
  · trivial
  · first | rfl | (exfalso; simp at *; omega)

theorem bare_data (D : Nat) :
    Does Tryd.prog 29 [.agg #[.int .u8 2, .int .u8 8, .bool false, .bool false, .bool false, .bool false, .bool false, .bool false, .bool false, .int .i64 (D : Int), .int .u8 2, .int .u8 0, .int .u8 0, .int .u8 0, .int .u8 0, .int .u8 1, .int .u8 2, .int .u8 0, .int .u8 0, .int .u8 0, .int .u8 0, .int .u8 2, .int .u8 0, .int .u8 0, .int .u8 0, .int .u8 0, .int .u8 0, .int .u8 0, .int .u8 0, .int .u8 0, .int .u8 0, .int .u8 0, .int .u8 0, .int .u8 0, .int .i64 0, .int .i64 0, .int .i64 0, .int .u8 0, .bool false, .bool false]] [] (fun _ => True) (X := Unit) (fun _ => True) (fun _ => .bool false) (fun _ => []) := by
  refine Does.enter Tryd.func29 rfl (m := 15) rfl (by simp) ?_
  intro W0 hro
  refine VC.seq ?_
  refine VC.region ?_
  refine VL.eff (O.box rfl rfl (by decide) ?_)
  intro g1
  refine VL.q (Q.assign rfl) ?_
  refine VL.nil ?_
  refine VE.seq ?_
  refine VC.seq ?_
  refine VC.region ?_
  refine VL.q (Q.loadA ty50 rfl zM zS) ?_
  refine VL.eff (O.call0 ok47 rfl rfl (by decide) (null_data D) (fun _ _ _ => trivial) ?_)
  intro x4 y4
  refine VL.q (Q.move rfl) ?_
  refine VL.yes rfl rfl ?_
  refine VL.q (Q.fieldAddr fa50_0 rfl) ?_
  refine VL.yes rfl rfl ?_
  refine VL.q (Q.load1 ty5 rfl zM rfl) ?_
  refine VL.yes rfl rfl ?_
  refine VL.quietE (v' := .bool false) (by decide) (Q.eq rfl rfl) (by rfl) ?_
  refine VL.yes rfl rfl ?_
  refine VL.q (Q.move rfl) ?_
  refine VL.no (by simp) rfl rfl (.inl rfl) ?_
  refine VL.no (by simp) rfl rfl (.inl rfl) ?_
  refine VL.no (by simp) rfl rfl (.inl rfl) ?_
  refine VL.yes rfl rfl ?_
  refine VL.quietE (v' := .bool false) (by decide) (Q.pick_false rfl rfl) (by rfl) ?_
  refine VL.quietE (v' := .bool false) (by decide) (Q.pick_false rfl rfl) (by rfl) ?_
  refine VL.q (Q.assign rfl) ?_
  refine VL.nil ?_
  refine VE.seq ?_
  refine VC.ret ?_
  refine VE.ret rfl (.tmp rfl .nil) () ?_ ?_ (List.nil_sublist _)
  · trivial
  · first | rfl | (exfalso; simp at *; omega)

theorem known_ack  :
    Does Tryd.prog 34 [.int .u8 1, .int .u8 13] [] (fun _ => True) (X := Unit) (fun _ => True) (fun _ => .tuple #[.agg #[.bool false, .bool false, .bool false], .bool true]) (fun _ => []) := by
  refine Does.enter Tryd.func34 rfl (m := 47) rfl (by simp) ?_
  intro W0 hro
  refine VC.seq ?_
  refine VC.region ?_
  refine VL.eff (O.alloc zo90 (by decide) ?_)
  intro g4
  refine VL.q (Q.assign rfl) ?_
  refine VL.nil ?_
  refine VE.seq ?_
  refine VC.seq ?_
  refine VC.seq ?_
  refine VC.region ?_
  refine VL.q (Q.move rfl) ?_
  refine VL.nil ?_
  refine VE.seq ?_
  refine VC.block ?_
  refine VC.seq ?_
  refine VC.region ?_
  refine VL.quietE (v' := .bool false) (by decide) (Q.eq rfl rfl) (by rfl) ?_
  refine VL.q (Q.assign rfl) ?_
  refine VL.nil ?_
  refine VE.seq ?_
  refine VC.condF rfl ?_
  refine VC.seq ?_
  refine VC.region ?_
  refine VL.quietE (v' := .bool true) (by decide) (Q.eq rfl rfl) (by rfl) ?_
  refine VL.q (Q.assign rfl) ?_
  refine VL.nil ?_
  refine VE.seq ?_
  refine VC.condT rfl ?_
  refine VC.seq ?_
  refine VC.region ?_
  refine VL.q (Q.build lay90 zF) ?_
  refine VL.q (Q.move rfl) ?_
  refine VL.quietE (v' := .bool true) (by decide) (Q.ge rfl rfl) (by rfl) ?_
  refine VL.q (Q.move rfl) ?_
  refine VL.yes rfl rfl ?_
  refine VL.q (Q.move rfl) ?_
  refine VL.yes rfl rfl ?_
  refine VL.quietE (v' := .bool true) (by decide) (Q.le rfl rfl) (by rfl) ?_
  refine VL.quietE (v' := .bool true) (by decide) (Q.pick_true rfl rfl) (by rfl) ?_
  refine VL.eff (O.store ty90 rfl rfl rfl rfl zU zP ?_)
  refine VL.q (Q.assign rfl) ?_
  refine VL.nil ?_
  refine VE.seq ?_
  refine VC.ret ?_
  refine VE.block_ret ?_
  refine VE.then_ret ?_
  refine VE.ret rfl (.cell ty90 rfl zM rfl (.tmp rfl .nil)) () ?_ ?_ (List.nil_sublist _)
  · trivial
  · first | rfl | (exfalso; simp at *; omega)

theorem null_ack (D : Nat) :
    Does Tryd.prog 47 [.agg #[.int .u8 1, .int .u8 13, .bool false, .bool false, .bool false, .bool false, .bool false, .bool false, .bool false, .int .i64 (D : Int), .int .u8 2, .int .u8 0, .int .u8 0, .int .u8 0, .int .u8 0, .int .u8 2, .int .u8 0, .int .u8 0, .int .u8 0, .int .u8 0, .int .u8 0, .int .u8 0, .int .u8 0, .int .u8 0, .int .u8 0, .int .u8 0, .int .u8 0, .int .u8 0, .int .u8 0, .int .u8 0, .int .u8 0, .int .u8 0, .int .u8 0, .int .u8 0, .int .i64 0, .int .i64 0, .int .i64 0, .int .u8 0, .bool false, .bool false]] [] (fun _ => True) (X := Unit) (fun _ => True) (fun _ => .bool false) (fun _ => []) := by
  refine Does.enter Tryd.func47 rfl (m := 12) rfl (by simp) ?_
  intro W0 hro
  refine VC.seq ?_
  refine VC.region ?_
  refine VL.eff (O.box rfl rfl (by decide) ?_)
  intro g1
  refine VL.q (Q.assign rfl) ?_
  refine VL.nil ?_
  refine VE.seq ?_
  refine VC.seq ?_
  refine VC.region ?_
  refine VL.q (Q.fieldAddr fa50_0 rfl) ?_
  refine VL.q (Q.load1 ty5 rfl zM rfl) ?_
  refine VL.quietE (v' := .bool false) (by decide) (Q.eq rfl rfl) (by rfl) ?_
  refine VL.q (Q.move rfl) ?_
  refine VL.no (by simp) rfl rfl (.inl rfl) ?_
  refine VL.no (by simp) rfl rfl (.inl rfl) ?_
  refine VL.no (by simp) rfl rfl (.inl rfl) ?_
  refine VL.no (by simp) rfl rfl (.inl rfl) ?_
  refine VL.quietE (v' := .bool false) (by decide) (Q.pick_false rfl rfl) (by rfl) ?_
  refine VL.q (Q.assign rfl) ?_
  refine VL.nil ?_
  refine VE.seq ?_
  refine VC.ret ?_
  refine VE.ret rfl (.tmp rfl .nil) () ?_ ?_ (List.nil_sublist _)
  · trivial
  · first | rfl | (exfalso; simp at *; omega)

theorem bare_ack (D : Nat) :
    Does Tryd.prog 29 [.agg #[.int .u8 1, .int .u8 13, .bool false, .bool false, .bool false, .bool false, .bool false, .bool false, .bool false, .int .i64 (D : Int), .int .u8 2, .int .u8 0, .int .u8 0, .int .u8 0, .int .u8 0, .int .u8 2, .int .u8 0, .int .u8 0, .int .u8 0, .int .u8 0, .int .u8 0, .int .u8 0, .int .u8 0, .int .u8 0, .int .u8 0, .int .u8 0, .int .u8 0, .int .u8 0, .int .u8 0, .int .u8 0, .int .u8 0, .int .u8 0, .int .u8 0, .int .u8 0, .int .i64 0, .int .i64 0, .int .i64 0, .int .u8 0, .bool false, .bool false]] [] (fun _ => True) (X := Unit) (fun _ => True) (fun _ => .bool true) (fun _ => []) := by
  refine Does.enter Tryd.func29 rfl (m := 15) rfl (by simp) ?_
  intro W0 hro
  refine VC.seq ?_
  refine VC.region ?_
  refine VL.eff (O.box rfl rfl (by decide) ?_)
  intro g1
  refine VL.q (Q.assign rfl) ?_
  refine VL.nil ?_
  refine VE.seq ?_
  refine VC.seq ?_
  refine VC.region ?_
  refine VL.q (Q.loadA ty50 rfl zM zS) ?_
  refine VL.eff (O.call0 ok47 rfl rfl (by decide) (null_ack D) (fun _ _ _ => trivial) ?_)
  intro x4 y4
  refine VL.q (Q.move rfl) ?_
  refine VL.yes rfl rfl ?_
  refine VL.q (Q.fieldAddr fa50_0 rfl) ?_
  refine VL.yes rfl rfl ?_
  refine VL.q (Q.load1 ty5 rfl zM rfl) ?_
  refine VL.yes rfl rfl ?_
  refine VL.quietE (v' := .bool true) (by decide) (Q.eq rfl rfl) (by rfl) ?_
  refine VL.yes rfl rfl ?_
  refine VL.q (Q.move rfl) ?_
  refine VL.yes rfl rfl ?_
  refine VL.q (Q.fieldAddr fa50_1 rfl) ?_
  refine VL.yes rfl rfl ?_
  refine VL.q (Q.load1 ty5 rfl zM rfl) ?_
  refine VL.yes rfl rfl ?_
  refine VL.quietE (v' := .bool true) (by decide) (Q.ge rfl rfl) (by rfl) ?_
  refine VL.yes rfl rfl ?_
  refine VL.quietE (v' := .bool true) (by decide) (Q.pick_true rfl rfl) (by rfl) ?_
  refine VL.quietE (v' := .bool true) (by decide) (Q.pick_false rfl rfl) (by rfl) ?_
  refine VL.q (Q.assign rfl) ?_
  refine VL.nil ?_
  refine VE.seq ?_
  refine VC.ret ?_
  refine VE.ret rfl (.tmp rfl .nil) () ?_ ?_ (List.nil_sublist _)
  · trivial
  · first | rfl | (exfalso; simp at *; omega)

theorem known_bar  :
    Does Tryd.prog 34 [.int .u8 1, .int .u8 8] [] (fun _ => True) (X := Unit) (fun _ => True) (fun _ => .tuple #[.agg #[.bool false, .bool false, .bool false], .bool true]) (fun _ => []) := by
  refine Does.enter Tryd.func34 rfl (m := 47) rfl (by simp) ?_
  intro W0 hro
  refine VC.seq ?_
  refine VC.region ?_
  refine VL.eff (O.alloc zo90 (by decide) ?_)
  intro g4
  refine VL.q (Q.assign rfl) ?_
  refine VL.nil ?_
  refine VE.seq ?_
  refine VC.seq ?_
  refine VC.seq ?_
  refine VC.region ?_
  refine VL.q (Q.move rfl) ?_
  refine VL.nil ?_
  refine VE.seq ?_
  refine VC.block ?_
  refine VC.seq ?_
  refine VC.region ?_
  refine VL.quietE (v' := .bool false) (by decide) (Q.eq rfl rfl) (by rfl) ?_
  refine VL.q (Q.assign rfl) ?_
  refine VL.nil ?_
  refine VE.seq ?_
  refine VC.condF rfl ?_
  refine VC.seq ?_
  refine VC.region ?_
  refine VL.quietE (v' := .bool true) (by decide) (Q.eq rfl rfl) (by rfl) ?_
  refine VL.q (Q.assign rfl) ?_
  refine VL.nil ?_
  refine VE.seq ?_
  refine VC.condT rfl ?_
  refine VC.seq ?_
  refine VC.region ?_
  refine VL.q (Q.build lay90 zF) ?_
  refine VL.q (Q.move rfl) ?_
  refine VL.quietE (v' := .bool true) (by decide) (Q.ge rfl rfl) (by rfl) ?_
  refine VL.q (Q.move rfl) ?_
  refine VL.yes rfl rfl ?_
  refine VL.q (Q.move rfl) ?_
  refine VL.yes rfl rfl ?_
  refine VL.quietE (v' := .bool true) (by decide) (Q.le rfl rfl) (by rfl) ?_
  refine VL.quietE (v' := .bool true) (by decide) (Q.pick_true rfl rfl) (by rfl) ?_
  refine VL.eff (O.store ty90 rfl rfl rfl rfl zU zP ?_)
  refine VL.q (Q.assign rfl) ?_
  refine VL.nil ?_
  refine VE.seq ?_
  refine VC.ret ?_
  refine VE.block_ret ?_
  refine VE.then_ret ?_
  refine VE.ret rfl (.cell ty90 rfl zM rfl (.tmp rfl .nil)) () ?_ ?_ (List.nil_sublist _)
  · trivial
  · first | rfl | (exfalso; simp at *; omega)

theorem null_bar (D : Nat) :
    Does Tryd.prog 47 [.agg #[.int .u8 1, .int .u8 8, .bool false, .bool false, .bool false, .bool false, .bool false, .bool false, .bool false, .int .i64 (D : Int), .int .u8 2, .int .u8 0, .int .u8 0, .int .u8 0, .int .u8 0, .int .u8 1, .int .u8 2, .int .u8 0, .int .u8 0, .int .u8 0, .int .u8 0, .int .u8 2, .int .u8 0, .int .u8 0, .int .u8 0, .int .u8 0, .int .u8 0, .int .u8 0, .int .u8 0, .int .u8 0, .int .u8 0, .int .u8 0, .int .u8 0, .int .u8 0, .int .i64 0, .int .i64 0, .int .i64 0, .int .u8 0, .bool false, .bool false]] [] (fun _ => True) (X := Unit) (fun _ => True) (fun _ => .bool false) (fun _ => []) := by
  refine Does.enter Tryd.func47 rfl (m := 12) rfl (by simp) ?_
  intro W0 hro
  refine VC.seq ?_
  refine VC.region ?_
  refine VL.eff (O.box rfl rfl (by decide) ?_)
  intro g1
  refine VL.q (Q.assign rfl) ?_
  refine VL.nil ?_
  refine VE.seq ?_
  refine VC.seq ?_
  refine VC.region ?_
  refine VL.q (Q.fieldAddr fa50_0 rfl) ?_
  refine VL.q (Q.load1 ty5 rfl zM rfl) ?_
  refine VL.quietE (v' := .bool false) (by decide) (Q.eq rfl rfl) (by rfl) ?_
  refine VL.q (Q.move rfl) ?_
  refine VL.no (by simp) rfl rfl (.inl rfl) ?_
  refine VL.no (by simp) rfl rfl (.inl rfl) ?_
  refine VL.no (by simp) rfl rfl (.inl rfl) ?_
  refine VL.no (by simp) rfl rfl (.inl rfl) ?_
  refine VL.quietE (v' := .bool false) (by decide) (Q.pick_false rfl rfl) (by rfl) ?_
  refine VL.q (Q.assign rfl) ?_
  refine VL.nil ?_
  refine VE.seq ?_
  refine VC.ret ?_
  refine VE.ret rfl (.tmp rfl .nil) () ?_ ?_ (List.nil_sublist _)
  · trivial
  · first | rfl | (exfalso; simp at *; omega)

theorem bare_bar (D : Nat) :
    Does Tryd.prog 29 [.agg #[.int .u8 1, .int .u8 8, .bool false, .bool false, .bool false, .bool false, .bool false, .bool false, .bool false, .int .i64 (D : Int), .int .u8 2, .int .u8 0, .int .u8 0, .int .u8 0, .int .u8 0, .int .u8 1, .int .u8 2, .int .u8 0, .int .u8 0, .int .u8 0, .int .u8 0, .int .u8 2, .int .u8 0, .int .u8 0, .int .u8 0, .int .u8 0, .int .u8 0, .int .u8 0, .int .u8 0, .int .u8 0, .int .u8 0, .int .u8 0, .int .u8 0, .int .u8 0, .int .i64 0, .int .i64 0, .int .i64 0, .int .u8 0, .bool false, .bool false]] [] (fun _ => True) (X := Unit) (fun _ => True) (fun _ => .bool false) (fun _ => []) := by
  refine Does.enter Tryd.func29 rfl (m := 15) rfl (by simp) ?_
  intro W0 hro
  refine VC.seq ?_
  refine VC.region ?_
  refine VL.eff (O.box rfl rfl (by decide) ?_)
  intro g1
  refine VL.q (Q.assign rfl) ?_
  refine VL.nil ?_
  refine VE.seq ?_
  refine VC.seq ?_
  refine VC.region ?_
  refine VL.q (Q.loadA ty50 rfl zM zS) ?_
  refine VL.eff (O.call0 ok47 rfl rfl (by decide) (null_bar D) (fun _ _ _ => trivial) ?_)
  intro x4 y4
  refine VL.q (Q.move rfl) ?_
  refine VL.yes rfl rfl ?_
  refine VL.q (Q.fieldAddr fa50_0 rfl) ?_
  refine VL.yes rfl rfl ?_
  refine VL.q (Q.load1 ty5 rfl zM rfl) ?_
  refine VL.yes rfl rfl ?_
  refine VL.quietE (v' := .bool true) (by decide) (Q.eq rfl rfl) (by rfl) ?_
  refine VL.yes rfl rfl ?_
  refine VL.q (Q.move rfl) ?_
  refine VL.yes rfl rfl ?_
  refine VL.q (Q.fieldAddr fa50_1 rfl) ?_
  refine VL.yes rfl rfl ?_
  refine VL.q (Q.load1 ty5 rfl zM rfl) ?_
  refine VL.yes rfl rfl ?_
  refine VL.quietE (v' := .bool false) (by decide) (Q.ge rfl rfl) (by rfl) ?_
  refine VL.yes rfl rfl ?_
  refine VL.quietE (v' := .bool false) (by decide) (Q.pick_true rfl rfl) (by rfl) ?_
  refine VL.quietE (v' := .bool false) (by decide) (Q.pick_false rfl rfl) (by rfl) ?_
  refine VL.q (Q.assign rfl) ?_
  refine VL.nil ?_
  refine VE.seq ?_
  refine VC.ret ?_
  refine VE.ret rfl (.tmp rfl .nil) () ?_ ?_ (List.nil_sublist _)
  · trivial
  · first | rfl | (exfalso; simp at *; omega)

theorem known_back  :
    Does Tryd.prog 34 [.int .u8 1, .int .u8 9] [] (fun _ => True) (X := Unit) (fun _ => True) (fun _ => .tuple #[.agg #[.bool false, .bool false, .bool false], .bool true]) (fun _ => []) := by
  refine Does.enter Tryd.func34 rfl (m := 47) rfl (by simp) ?_
  intro W0 hro
  refine VC.seq ?_
  refine VC.region ?_
  refine VL.eff (O.alloc zo90 (by decide) ?_)
  intro g4
  refine VL.q (Q.assign rfl) ?_
  refine VL.nil ?_
  refine VE.seq ?_
  refine VC.seq ?_
  refine VC.seq ?_
  refine VC.region ?_
  refine VL.q (Q.move rfl) ?_
  refine VL.nil ?_
  refine VE.seq ?_
  refine VC.block ?_
  refine VC.seq ?_
  refine VC.region ?_
  refine VL.quietE (v' := .bool false) (by decide) (Q.eq rfl rfl) (by rfl) ?_
  refine VL.q (Q.assign rfl) ?_
  refine VL.nil ?_
  refine VE.seq ?_
  refine VC.condF rfl ?_
  refine VC.seq ?_
  refine VC.region ?_
  refine VL.quietE (v' := .bool true) (by decide) (Q.eq rfl rfl) (by rfl) ?_
  refine VL.q (Q.assign rfl) ?_
  refine VL.nil ?_
  refine VE.seq ?_
  refine VC.condT rfl ?_
  refine VC.seq ?_
  refine VC.region ?_
  refine VL.q (Q.build lay90 zF) ?_
  refine VL.q (Q.move rfl) ?_
  refine VL.quietE (v' := .bool true) (by decide) (Q.ge rfl rfl) (by rfl) ?_
  refine VL.q (Q.move rfl) ?_
  refine VL.yes rfl rfl ?_
  refine VL.q (Q.move rfl) ?_
  refine VL.yes rfl rfl ?_
  refine VL.quietE (v' := .bool true) (by decide) (Q.le rfl rfl) (by rfl) ?_
  refine VL.quietE (v' := .bool true) (by decide) (Q.pick_true rfl rfl) (by rfl) ?_
  refine VL.eff (O.store ty90 rfl rfl rfl rfl zU zP ?_)
  refine VL.q (Q.assign rfl) ?_
  refine VL.nil ?_
  refine VE.seq ?_
  refine VC.ret ?_
  refine VE.block_ret ?_
  refine VE.then_ret ?_
  refine VE.ret rfl (.cell ty90 rfl zM rfl (.tmp rfl .nil)) () ?_ ?_ (List.nil_sublist _)
  · trivial
  · first | rfl | (exfalso; simp at *; omega)

theorem null_back (D : Nat) :
    Does Tryd.prog 47 [.agg #[.int .u8 1, .int .u8 9, .bool false, .bool false, .bool false, .bool false, .bool false, .bool false, .bool false, .int .i64 (D : Int), .int .u8 2, .int .u8 0, .int .u8 0, .int .u8 0, .int .u8 0, .int .u8 2, .int .u8 2, .int .u8 0, .int .u8 0, .int .u8 0, .int .u8 0, .int .u8 1, .int .u8 0, .int .u8 0, .int .u8 0, .int .u8 0, .int .u8 0, .int .u8 0, .int .u8 0, .int .u8 0, .int .u8 0, .int .u8 0, .int .u8 0, .int .u8 0, .int .i64 0, .int .i64 0, .int .i64 0, .int .u8 0, .bool false, .bool false]] [] (fun _ => True) (X := Unit) (fun _ => True) (fun _ => .bool false) (fun _ => []) := by
  refine Does.enter Tryd.func47 rfl (m := 12) rfl (by simp) ?_
  intro W0 hro
  refine VC.seq ?_
  refine VC.region ?_
  refine VL.eff (O.box rfl rfl (by decide) ?_)
  intro g1
  refine VL.q (Q.assign rfl) ?_
  refine VL.nil ?_
  refine VE.seq ?_
  refine VC.seq ?_
  refine VC.region ?_
  refine VL.q (Q.fieldAddr fa50_0 rfl) ?_
  refine VL.q (Q.load1 ty5 rfl zM rfl) ?_
  refine VL.quietE (v' := .bool false) (by decide) (Q.eq rfl rfl) (by rfl) ?_
  refine VL.q (Q.move rfl) ?_
  refine VL.no (by simp) rfl rfl (.inl rfl) ?_
  refine VL.no (by simp) rfl rfl (.inl rfl) ?_
  refine VL.no (by simp) rfl rfl (.inl rfl) ?_
  refine VL.no (by simp) rfl rfl (.inl rfl) ?_
  refine VL.quietE (v' := .bool false) (by decide) (Q.pick_false rfl rfl) (by rfl) ?_
  refine VL.q (Q.assign rfl) ?_
  refine VL.nil ?_
  refine VE.seq ?_
  refine VC.ret ?_
  refine VE.ret rfl (.tmp rfl .nil) () ?_ ?_ (List.nil_sublist _)
  · trivial
  · first | rfl | (exfalso; simp at *; omega)

theorem bare_back (D : Nat) :
    Does Tryd.prog 29 [.agg #[.int .u8 1, .int .u8 9, .bool false, .bool false, .bool false, .bool false, .bool false, .bool false, .bool false, .int .i64 (D : Int), .int .u8 2, .int .u8 0, .int .u8 0, .int .u8 0, .int .u8 0, .int .u8 2, .int .u8 2, .int .u8 0, .int .u8 0, .int .u8 0, .int .u8 0, .int .u8 1, .int .u8 0, .int .u8 0, .int .u8 0, .int .u8 0, .int .u8 0, .int .u8 0, .int .u8 0, .int .u8 0, .int .u8 0, .int .u8 0, .int .u8 0, .int .u8 0, .int .i64 0, .int .i64 0, .int .i64 0, .int .u8 0, .bool false, .bool false]] [] (fun _ => True) (X := Unit) (fun _ => True) (fun _ => .bool false) (fun _ => []) := by
  refine Does.enter Tryd.func29 rfl (m := 15) rfl (by simp) ?_
  intro W0 hro
  refine VC.seq ?_
  refine VC.region ?_
  refine VL.eff (O.box rfl rfl (by decide) ?_)
  intro g1
  refine VL.q (Q.assign rfl) ?_
  refine VL.nil ?_
  refine VE.seq ?_
  refine VC.seq ?_
  refine VC.region ?_
  refine VL.q (Q.loadA ty50 rfl zM zS) ?_
  refine VL.eff (O.call0 ok47 rfl rfl (by decide) (null_back D) (fun _ _ _ => trivial) ?_)
  intro x4 y4
  refine VL.q (Q.move rfl) ?_
  refine VL.yes rfl rfl ?_
  refine VL.q (Q.fieldAddr fa50_0 rfl) ?_
  refine VL.yes rfl rfl ?_
  refine VL.q (Q.load1 ty5 rfl zM rfl) ?_
  refine VL.yes rfl rfl ?_
  refine VL.quietE (v' := .bool true) (by decide) (Q.eq rfl rfl) (by rfl) ?_
  refine VL.yes rfl rfl ?_
  refine VL.q (Q.move rfl) ?_
  refine VL.yes rfl rfl ?_
  refine VL.q (Q.fieldAddr fa50_1 rfl) ?_
  refine VL.yes rfl rfl ?_
  refine VL.q (Q.load1 ty5 rfl zM rfl) ?_
  refine VL.yes rfl rfl ?_
  refine VL.quietE (v' := .bool false) (by decide) (Q.ge rfl rfl) (by rfl) ?_
  refine VL.yes rfl rfl ?_
  refine VL.quietE (v' := .bool false) (by decide) (Q.pick_true rfl rfl) (by rfl) ?_
  refine VL.quietE (v' := .bool false) (by decide) (Q.pick_false rfl rfl) (by rfl) ?_
  refine VL.q (Q.assign rfl) ?_
  refine VL.nil ?_
  refine VE.seq ?_
  refine VC.ret ?_
  refine VE.ret rfl (.tmp rfl .nil) () ?_ ?_ (List.nil_sublist _)
  · trivial
  · first | rfl | (exfalso; simp at *; omega)

theorem group_pt  :
    Does Tryd.prog 46 [.agg #[.int .u8 2, .int .u8 0, .int .u8 0, .int .u8 0, .int .u8 0, .int .u8 1]] [] (fun _ => True) (X := Unit) (fun _ => True) (fun _ => .bool false) (fun _ => []) := by
  refine Does.enter Tryd.func46 rfl (m := 7) rfl (by simp) ?_
  intro W0 hro
  refine VC.seq ?_
  refine VC.region ?_
  refine VL.eff (O.box rfl rfl (by decide) ?_)
  intro g1
  refine VL.q (Q.assign rfl) ?_
  refine VL.nil ?_
  refine VE.seq ?_
  refine VC.seq ?_
  refine VC.region ?_
  refine VL.q (Q.indexAddrA ar43 (j := 0) rfl rfl rfl (by omega)) ?_
  refine VL.q (Q.load1 ty5 rfl zM rfl) ?_
  refine VL.quietE (v' := .int .u8 0) (by decide) (Q.and rfl rfl (by omega) (by simp only [khi]; omega) (by omega) (by simp only [khi]; omega)) (by rfl) ?_
  refine VL.quietE (v' := .bool false) (by decide) (Q.ne rfl rfl) (by rfl) ?_
  refine VL.q (Q.assign rfl) ?_
  refine VL.nil ?_
  refine VE.seq ?_
  refine VC.ret ?_
  refine VE.ret rfl (.tmp rfl .nil) () ?_ ?_ (List.nil_sublist _)
  · trivial
  · first | rfl | (exfalso; simp at *; omega)

theorem group_st  :
    Does Tryd.prog 46 [.agg #[.int .u8 2, .int .u8 0, .int .u8 0, .int .u8 0, .int .u8 0, .int .u8 2]] [] (fun _ => True) (X := Unit) (fun _ => True) (fun _ => .bool false) (fun _ => []) := by
  refine Does.enter Tryd.func46 rfl (m := 7) rfl (by simp) ?_
  intro W0 hro
  refine VC.seq ?_
  refine VC.region ?_
  refine VL.eff (O.box rfl rfl (by decide) ?_)
  intro g1
  refine VL.q (Q.assign rfl) ?_
  refine VL.nil ?_
  refine VE.seq ?_
  refine VC.seq ?_
  refine VC.region ?_
  refine VL.q (Q.indexAddrA ar43 (j := 0) rfl rfl rfl (by omega)) ?_
  refine VL.q (Q.load1 ty5 rfl zM rfl) ?_
  refine VL.quietE (v' := .int .u8 0) (by decide) (Q.and rfl rfl (by omega) (by simp only [khi]; omega) (by omega) (by simp only [khi]; omega)) (by rfl) ?_
  refine VL.quietE (v' := .bool false) (by decide) (Q.ne rfl rfl) (by rfl) ?_
  refine VL.q (Q.assign rfl) ?_
  refine VL.nil ?_
  refine VE.seq ?_
  refine VC.ret ?_
  refine VE.ret rfl (.tmp rfl .nil) () ?_ ?_ (List.nil_sublist _)
  · trivial
  · first | rfl | (exfalso; simp at *; omega)

theorem group_no  :
    Does Tryd.prog 46 [.agg #[.int .u8 0, .int .u8 0, .int .u8 0, .int .u8 0, .int .u8 0, .int .u8 0]] [] (fun _ => True) (X := Unit) (fun _ => True) (fun _ => .bool false) (fun _ => []) := by
  refine Does.enter Tryd.func46 rfl (m := 7) rfl (by simp) ?_
  intro W0 hro
  refine VC.seq ?_
  refine VC.region ?_
  refine VL.eff (O.box rfl rfl (by decide) ?_)
  intro g1
  refine VL.q (Q.assign rfl) ?_
  refine VL.nil ?_
  refine VE.seq ?_
  refine VC.seq ?_
  refine VC.region ?_
  refine VL.q (Q.indexAddrA ar43 (j := 0) rfl rfl rfl (by omega)) ?_
  refine VL.q (Q.load1 ty5 rfl zM rfl) ?_
  refine VL.quietE (v' := .int .u8 0) (by decide) (Q.and rfl rfl (by omega) (by simp only [khi]; omega) (by omega) (by simp only [khi]; omega)) (by rfl) ?_
  refine VL.quietE (v' := .bool false) (by decide) (Q.ne rfl rfl) (by rfl) ?_
  refine VL.q (Q.assign rfl) ?_
  refine VL.nil ?_
  refine VE.seq ?_
  refine VC.ret ?_
  refine VE.ret rfl (.tmp rfl .nil) () ?_ ?_ (List.nil_sublist _)
  · trivial
  · first | rfl | (exfalso; simp at *; omega)

theorem in_c (v m : Int) (h : 0 ≤ v ∧ v ≤ m) :
    Does Tryd.prog 45 [.int .i64 v, .int .i64 m] [] (fun _ => True) (X := Unit) (fun _ => True) (fun _ => .bool true) (fun _ => []) := by
  refine Does.enter Tryd.func45 rfl (m := 12) rfl (by simp) ?_
  intro W0 hro
  refine VC.seq ?_
  refine VC.region ?_
  refine VL.q (Q.assign rfl) ?_
  refine VL.nil ?_
  refine VE.seq ?_
  refine VC.seq ?_
  refine VC.region ?_
  refine VL.q (Q.move rfl) ?_
  refine VL.q (Q.ge rfl rfl) ?_
  refine VL.q (Q.move rfl) ?_
  refine VK.case 7 rfl ?_ ?_
  · intro h7
    refine VL.yes rfl rfl ?_
    refine VL.q (Q.move rfl) ?_
    refine VL.yes rfl rfl ?_
    refine VL.q (Q.move rfl) ?_
    refine VL.yes rfl rfl ?_
    refine VL.q (Q.le rfl rfl) ?_
    refine VL.q (Q.pick_true rfl rfl) ?_
    refine VL.q (Q.assign rfl) ?_
    refine VL.nil ?_
    refine VE.seq ?_
    refine VC.ret ?_
    refine VE.ret rfl (.tmp rfl .nil) () ?_ ?_ (List.nil_sublist _)
    · trivial
    · first | rfl | exact congrArg Value.bool (by simp; omega) | (exfalso; simp at *; omega)
  · intro h7
    refine VL.no (by simp) rfl rfl (.inl rfl) ?_
    refine VL.no (by simp) rfl rfl (.inl rfl) ?_
    refine VL.no (by simp) rfl rfl (.inl rfl) ?_
    refine VL.q (Q.pick_false rfl rfl) ?_
    refine VL.q (Q.assign rfl) ?_
    refine VL.nil ?_
    refine VE.seq ?_
    refine VC.ret ?_
    refine VE.ret rfl (.tmp rfl .nil) () ?_ ?_ (List.nil_sublist _)
    · trivial
    · first | rfl | exact congrArg Value.bool (by simp; omega) | (exfalso; simp at *; omega)

theorem places_rts (g : Nat) :
    Does Tryd.prog 36 [.pointer (some ⟨g, 0, none⟩)] [] (fun W => Rd W (some ⟨g, 0, none⟩) [.int .u8 1, .int .u8 11, .bool false, .bool false]) (X := Nat) (fun _ => True) (fun x => .tuple #[.slice (some ⟨x, 0, none⟩) 2 4, .slice none 0 0]) (fun x => [.blk x [.pointer (some ⟨g, 10, none⟩), .pointer (some ⟨g, 16, none⟩), .pointer (some ⟨g, 22, none⟩), .pointer (some ⟨g, 28, none⟩)] 116]) := by
  refine Does.enter Tryd.func36 rfl (m := 67) rfl (by simp) ?_
  intro W0 hro
  refine VC.seq ?_
  refine VC.region ?_
  refine VL.q (Q.assign rfl) ?_
  refine VL.q (Q.assign rfl) ?_
  refine VL.nil ?_
  refine VE.seq ?_
  refine VC.seq ?_
  refine VA.start (Ls := []) (Cs := []) mixed ?_
  refine VA.take 0 rfl (by kernel_rfl) (by kernel_rfl) (by kernel_rfl) (Still.then Still.body) (List.nil_sublist _) Cells.nil (by decide) (Quiet.c (Q.move rfl)) ?_
  refine VA.take 1 rfl (by kernel_rfl) (by kernel_rfl) (by kernel_rfl) (Still.then Still.body) (List.nil_sublist _) Cells.nil (by decide) (Quiet.c (Q.nilCheck rfl)) ?_
  refine VA.take 2 rfl (by kernel_rfl) (by kernel_rfl) (by kernel_rfl) (Still.then Still.body) (List.nil_sublist _) Cells.nil (by decide) (Quiet.c (Q.fieldAddr fa50_10 rfl)) ?_
  refine VA.take 3 rfl (by kernel_rfl) (by kernel_rfl) (by kernel_rfl) (Still.then Still.body) (List.nil_sublist _) Cells.nil (by decide) (Quiet.c (Q.move rfl)) ?_
  refine VA.take 4 rfl (by kernel_rfl) (by kernel_rfl) (by kernel_rfl) (Still.then Still.body) (List.nil_sublist _) Cells.nil (by decide) (Quiet.c (Q.nilCheck rfl)) ?_
  refine VA.take 5 rfl (by kernel_rfl) (by kernel_rfl) (by kernel_rfl) (Still.then Still.body) (List.nil_sublist _) Cells.nil (by decide) (Quiet.c (Q.fieldAddr fa50_11 rfl)) ?_
  refine VA.take 6 rfl (by kernel_rfl) (by kernel_rfl) (by kernel_rfl) (Still.then Still.body) (List.nil_sublist _) Cells.nil (by decide) (Quiet.c (Q.move rfl)) ?_
  refine VA.take 7 rfl (by kernel_rfl) (by kernel_rfl) (by kernel_rfl) (Still.then Still.body) (List.nil_sublist _) Cells.nil (by decide) (Quiet.c (Q.nilCheck rfl)) ?_
  refine VA.take 8 rfl (by kernel_rfl) (by kernel_rfl) (by kernel_rfl) (Still.then Still.body) (List.nil_sublist _) Cells.nil (by decide) (Quiet.c (Q.fieldAddr fa50_12 rfl)) ?_
  refine VA.take 9 rfl (by kernel_rfl) (by kernel_rfl) (by kernel_rfl) (Still.then Still.body) (List.nil_sublist _) Cells.nil (by decide) (Quiet.c (Q.move rfl)) ?_
  refine VA.take 10 rfl (by kernel_rfl) (by kernel_rfl) (by kernel_rfl) (Still.then Still.body) (List.nil_sublist _) Cells.nil (by decide) (Quiet.c (Q.nilCheck rfl)) ?_
  refine VA.take 11 rfl (by kernel_rfl) (by kernel_rfl) (by kernel_rfl) (Still.then Still.body) (List.nil_sublist _) Cells.nil (by decide) (Quiet.c (Q.fieldAddr fa50_13 rfl)) ?_
  refine VA.take 12 rfl (by kernel_rfl) (by kernel_rfl) (by kernel_rfl) (Still.then Still.body) (List.nil_sublist _) Cells.nil (by decide) (Quiet.c (Q.build lay116 zF)) ?_
  refine VA.all (rs := [13]) (by kernel_rfl) (by simp) ?_
  refine VA.forall1 ?_
  · skip
    refine VA.eff rfl ?_
    refine id (O.alloc zo116 (by decide) ?_)
    intro g4
    refine VA.next (List.nil_sublist _) Cells.nil ?_
    refine VA.all (rs := [14]) (by kernel_rfl) (by simp) ?_
    refine VA.forall1 ?_
    · skip
      refine VA.eff rfl ?_
      refine id (O.store ty116 rfl rfl rfl rfl zU zP ?_)
      refine VA.next (List.nil_sublist _) Cells.nil ?_
      refine VA.done (by kernel_rfl) ?_
      refine VE.seq ?_
      refine VC.seq ?_
      refine VC.block ?_
      refine VC.seq ?_
      refine VC.region ?_
      refine VL.q (Q.move rfl) ?_
      refine VL.q (Q.nilCheck rfl) ?_
      refine VL.q (Q.fieldAddr fa50_0 rfl) ?_
      refine VL.q (Q.load0 ty5 rfl (Rd.at (j := 0) hro rfl) (by simp)) ?_
      refine VL.quietE (v' := .bool true) (by decide) (Q.eq rfl rfl) (by rfl) ?_
      refine VL.q (Q.move rfl) ?_
      refine VL.yes rfl rfl ?_
      refine VL.q (Q.move rfl) ?_
      refine VL.yes rfl rfl ?_
      refine VL.q (Q.nilCheck rfl) ?_
      refine VL.yes rfl rfl ?_
      refine VL.q (Q.fieldAddr fa50_1 rfl) ?_
      refine VL.yes rfl rfl ?_
      refine VL.q (Q.load0 ty5 rfl (Rd.at (j := 1) hro rfl) (by simp)) ?_
      refine VL.yes rfl rfl ?_
      refine VL.quietE (v' := .bool false) (by decide) (Q.eq rfl rfl) (by rfl) ?_
      refine VL.yes rfl rfl ?_
      refine VL.q (Q.move rfl) ?_
      refine VL.yes rfl rfl ?_
      refine VL.q (Q.move rfl) ?_
      refine VL.yes rfl rfl ?_
      refine VL.q (Q.nilCheck rfl) ?_
      refine VL.yes rfl rfl ?_
      refine VL.q (Q.fieldAddr fa50_1 rfl) ?_
      refine VL.yes rfl rfl ?_
      refine VL.q (Q.load0 ty5 rfl (Rd.at (j := 1) hro rfl) (by simp)) ?_
      refine VL.yes rfl rfl ?_
      refine VL.quietE (v' := .bool false) (by decide) (Q.eq rfl rfl) (by rfl) ?_
      refine VL.yes rfl rfl ?_
      refine VL.quietE (v' := .bool false) (by decide) (Q.pick_false rfl rfl) (by rfl) ?_
      refine VL.quietE (v' := .bool false) (by decide) (Q.pick_true rfl rfl) (by rfl) ?_
      refine VL.q (Q.assign rfl) ?_
      refine VL.nil ?_
      refine VE.seq ?_
      refine VC.condF rfl ?_
      refine VC.seq ?_
      refine VC.region ?_
      refine VL.q (Q.move rfl) ?_
      refine VL.q (Q.nilCheck rfl) ?_
      refine VL.q (Q.fieldAddr fa50_0 rfl) ?_
      refine VL.q (Q.load0 ty5 rfl (Rd.at (j := 0) hro rfl) (by simp)) ?_
      refine VL.quietE (v' := .bool true) (by decide) (Q.eq rfl rfl) (by rfl) ?_
      refine VL.q (Q.assign rfl) ?_
      refine VL.nil ?_
      refine VE.seq ?_
      refine VC.condT rfl ?_
      refine VC.seq ?_
      refine VK.keep (by exact .cons (i := 2) rfl (.cons (i := 3) rfl (.cons (i := 4) rfl ( .nil)))) ?_
      refine VC.region ?_
      refine VL.q (Q.slcA0 ar116 (h := 2) rfl ⟨_, _, rfl, rfl⟩ (by omega)) ?_
      refine VL.q (Q.assign rfl) ?_
      refine VL.q (Q.assign rfl) ?_
      refine VL.nil ?_
      refine VE.seq ?_
      refine VC.ret ?_
      refine VE.block_ret ?_
      refine VE.then_ret ?_
      refine VE.ret rfl (.tmp rfl (.tmp rfl .nil)) g4 ?_ ?_ (.cons_cons _ (List.nil_sublist _))
      · trivial
      · first | rfl | (exfalso; simp at *; omega)

theorem places_cts (g : Nat) :
    Does Tryd.prog 36 [.pointer (some ⟨g, 0, none⟩)] [] (fun W => Rd W (some ⟨g, 0, none⟩) [.int .u8 1, .int .u8 12, .bool false, .bool false]) (X := Nat) (fun _ => True) (fun x => .tuple #[.slice (some ⟨x, 0, none⟩) 1 4, .slice none 0 0]) (fun x => [.blk x [.pointer (some ⟨g, 10, none⟩), .pointer (some ⟨g, 16, none⟩), .pointer (some ⟨g, 22, none⟩), .pointer (some ⟨g, 28, none⟩)] 116]) := by
  refine Does.enter Tryd.func36 rfl (m := 67) rfl (by simp) ?_
  intro W0 hro
  refine VC.seq ?_
  refine VC.region ?_
  refine VL.q (Q.assign rfl) ?_
  refine VL.q (Q.assign rfl) ?_
  refine VL.nil ?_
  refine VE.seq ?_
  refine VC.seq ?_
  refine VA.start (Ls := []) (Cs := []) mixed ?_
  refine VA.take 0 rfl (by kernel_rfl) (by kernel_rfl) (by kernel_rfl) (Still.then Still.body) (List.nil_sublist _) Cells.nil (by decide) (Quiet.c (Q.move rfl)) ?_
  refine VA.take 1 rfl (by kernel_rfl) (by kernel_rfl) (by kernel_rfl) (Still.then Still.body) (List.nil_sublist _) Cells.nil (by decide) (Quiet.c (Q.nilCheck rfl)) ?_
  refine VA.take 2 rfl (by kernel_rfl) (by kernel_rfl) (by kernel_rfl) (Still.then Still.body) (List.nil_sublist _) Cells.nil (by decide) (Quiet.c (Q.fieldAddr fa50_10 rfl)) ?_
  refine VA.take 3 rfl (by kernel_rfl) (by kernel_rfl) (by kernel_rfl) (Still.then Still.body) (List.nil_sublist _) Cells.nil (by decide) (Quiet.c (Q.move rfl)) ?_
  refine VA.take 4 rfl (by kernel_rfl) (by kernel_rfl) (by kernel_rfl) (Still.then Still.body) (List.nil_sublist _) Cells.nil (by decide) (Quiet.c (Q.nilCheck rfl)) ?_
  refine VA.take 5 rfl (by kernel_rfl) (by kernel_rfl) (by kernel_rfl) (Still.then Still.body) (List.nil_sublist _) Cells.nil (by decide) (Quiet.c (Q.fieldAddr fa50_11 rfl)) ?_
  refine VA.take 6 rfl (by kernel_rfl) (by kernel_rfl) (by kernel_rfl) (Still.then Still.body) (List.nil_sublist _) Cells.nil (by decide) (Quiet.c (Q.move rfl)) ?_
  refine VA.take 7 rfl (by kernel_rfl) (by kernel_rfl) (by kernel_rfl) (Still.then Still.body) (List.nil_sublist _) Cells.nil (by decide) (Quiet.c (Q.nilCheck rfl)) ?_
  refine VA.take 8 rfl (by kernel_rfl) (by kernel_rfl) (by kernel_rfl) (Still.then Still.body) (List.nil_sublist _) Cells.nil (by decide) (Quiet.c (Q.fieldAddr fa50_12 rfl)) ?_
  refine VA.take 9 rfl (by kernel_rfl) (by kernel_rfl) (by kernel_rfl) (Still.then Still.body) (List.nil_sublist _) Cells.nil (by decide) (Quiet.c (Q.move rfl)) ?_
  refine VA.take 10 rfl (by kernel_rfl) (by kernel_rfl) (by kernel_rfl) (Still.then Still.body) (List.nil_sublist _) Cells.nil (by decide) (Quiet.c (Q.nilCheck rfl)) ?_
  refine VA.take 11 rfl (by kernel_rfl) (by kernel_rfl) (by kernel_rfl) (Still.then Still.body) (List.nil_sublist _) Cells.nil (by decide) (Quiet.c (Q.fieldAddr fa50_13 rfl)) ?_
  refine VA.take 12 rfl (by kernel_rfl) (by kernel_rfl) (by kernel_rfl) (Still.then Still.body) (List.nil_sublist _) Cells.nil (by decide) (Quiet.c (Q.build lay116 zF)) ?_
  refine VA.all (rs := [13]) (by kernel_rfl) (by simp) ?_
  refine VA.forall1 ?_
  · skip
    refine VA.eff rfl ?_
    refine id (O.alloc zo116 (by decide) ?_)
    intro g4
    refine VA.next (List.nil_sublist _) Cells.nil ?_
    refine VA.all (rs := [14]) (by kernel_rfl) (by simp) ?_
    refine VA.forall1 ?_
    · skip
      refine VA.eff rfl ?_
      refine id (O.store ty116 rfl rfl rfl rfl zU zP ?_)
      refine VA.next (List.nil_sublist _) Cells.nil ?_
      refine VA.done (by kernel_rfl) ?_
      refine VE.seq ?_
      refine VC.seq ?_
      refine VC.block ?_
      refine VC.seq ?_
      refine VC.region ?_
      refine VL.q (Q.move rfl) ?_
      refine VL.q (Q.nilCheck rfl) ?_
      refine VL.q (Q.fieldAddr fa50_0 rfl) ?_
      refine VL.q (Q.load0 ty5 rfl (Rd.at (j := 0) hro rfl) (by simp)) ?_
      refine VL.quietE (v' := .bool true) (by decide) (Q.eq rfl rfl) (by rfl) ?_
      refine VL.q (Q.move rfl) ?_
      refine VL.yes rfl rfl ?_
      refine VL.q (Q.move rfl) ?_
      refine VL.yes rfl rfl ?_
      refine VL.q (Q.nilCheck rfl) ?_
      refine VL.yes rfl rfl ?_
      refine VL.q (Q.fieldAddr fa50_1 rfl) ?_
      refine VL.yes rfl rfl ?_
      refine VL.q (Q.load0 ty5 rfl (Rd.at (j := 1) hro rfl) (by simp)) ?_
      refine VL.yes rfl rfl ?_
      refine VL.quietE (v' := .bool true) (by decide) (Q.eq rfl rfl) (by rfl) ?_
      refine VL.yes rfl rfl ?_
      refine VL.q (Q.move rfl) ?_
      refine VL.no (by simp) rfl rfl (.inl rfl) ?_
      refine VL.no (by simp) rfl rfl (.inl rfl) ?_
      refine VL.no (by simp) rfl rfl (.inl rfl) ?_
      refine VL.no (by simp) rfl rfl (.inl rfl) ?_
      refine VL.no (by simp) rfl rfl (.inl rfl) ?_
      refine VL.yes rfl rfl ?_
      refine VL.quietE (v' := .bool true) (by decide) (Q.pick_true rfl rfl) (by rfl) ?_
      refine VL.quietE (v' := .bool true) (by decide) (Q.pick_true rfl rfl) (by rfl) ?_
      refine VL.q (Q.assign rfl) ?_
      refine VL.nil ?_
      refine VE.seq ?_
      refine VC.condT rfl ?_
      refine VC.seq ?_
      refine VC.region ?_
      refine VL.q (Q.slcA0 ar116 (h := 1) rfl ⟨_, _, rfl, rfl⟩ (by omega)) ?_
      refine VL.q (Q.assign rfl) ?_
      refine VL.q (Q.assign rfl) ?_
      refine VL.nil ?_
      refine VE.seq ?_
      refine VC.ret ?_
      refine VE.block_ret ?_
      refine VE.then_ret ?_
      refine VE.ret rfl (.tmp rfl (.tmp rfl .nil)) g4 ?_ ?_ (.cons_cons _ (List.nil_sublist _))
      · trivial
      · first | rfl | (exfalso; simp at *; omega)

theorem places_data (g : Nat) :
    Does Tryd.prog 36 [.pointer (some ⟨g, 0, none⟩)] [] (fun W => Rd W (some ⟨g, 0, none⟩) [.int .u8 2, .int .u8 8, .bool false, .bool false]) (X := Nat) (fun _ => True) (fun x => .tuple #[.slice (some ⟨x, 0, none⟩) 3 4, .slice none 0 0]) (fun x => [.blk x [.pointer (some ⟨g, 10, none⟩), .pointer (some ⟨g, 16, none⟩), .pointer (some ⟨g, 22, none⟩), .pointer (some ⟨g, 28, none⟩)] 116]) := by
  refine Does.enter Tryd.func36 rfl (m := 67) rfl (by simp) ?_
  intro W0 hro
  refine VC.seq ?_
  refine VC.region ?_
  refine VL.q (Q.assign rfl) ?_
  refine VL.q (Q.assign rfl) ?_
  refine VL.nil ?_
  refine VE.seq ?_
  refine VC.seq ?_
  refine VA.start (Ls := []) (Cs := []) mixed ?_
  refine VA.take 0 rfl (by kernel_rfl) (by kernel_rfl) (by kernel_rfl) (Still.then Still.body) (List.nil_sublist _) Cells.nil (by decide) (Quiet.c (Q.move rfl)) ?_
  refine VA.take 1 rfl (by kernel_rfl) (by kernel_rfl) (by kernel_rfl) (Still.then Still.body) (List.nil_sublist _) Cells.nil (by decide) (Quiet.c (Q.nilCheck rfl)) ?_
  refine VA.take 2 rfl (by kernel_rfl) (by kernel_rfl) (by kernel_rfl) (Still.then Still.body) (List.nil_sublist _) Cells.nil (by decide) (Quiet.c (Q.fieldAddr fa50_10 rfl)) ?_
  refine VA.take 3 rfl (by kernel_rfl) (by kernel_rfl) (by kernel_rfl) (Still.then Still.body) (List.nil_sublist _) Cells.nil (by decide) (Quiet.c (Q.move rfl)) ?_
  refine VA.take 4 rfl (by kernel_rfl) (by kernel_rfl) (by kernel_rfl) (Still.then Still.body) (List.nil_sublist _) Cells.nil (by decide) (Quiet.c (Q.nilCheck rfl)) ?_
  refine VA.take 5 rfl (by kernel_rfl) (by kernel_rfl) (by kernel_rfl) (Still.then Still.body) (List.nil_sublist _) Cells.nil (by decide) (Quiet.c (Q.fieldAddr fa50_11 rfl)) ?_
  refine VA.take 6 rfl (by kernel_rfl) (by kernel_rfl) (by kernel_rfl) (Still.then Still.body) (List.nil_sublist _) Cells.nil (by decide) (Quiet.c (Q.move rfl)) ?_
  refine VA.take 7 rfl (by kernel_rfl) (by kernel_rfl) (by kernel_rfl) (Still.then Still.body) (List.nil_sublist _) Cells.nil (by decide) (Quiet.c (Q.nilCheck rfl)) ?_
  refine VA.take 8 rfl (by kernel_rfl) (by kernel_rfl) (by kernel_rfl) (Still.then Still.body) (List.nil_sublist _) Cells.nil (by decide) (Quiet.c (Q.fieldAddr fa50_12 rfl)) ?_
  refine VA.take 9 rfl (by kernel_rfl) (by kernel_rfl) (by kernel_rfl) (Still.then Still.body) (List.nil_sublist _) Cells.nil (by decide) (Quiet.c (Q.move rfl)) ?_
  refine VA.take 10 rfl (by kernel_rfl) (by kernel_rfl) (by kernel_rfl) (Still.then Still.body) (List.nil_sublist _) Cells.nil (by decide) (Quiet.c (Q.nilCheck rfl)) ?_
  refine VA.take 11 rfl (by kernel_rfl) (by kernel_rfl) (by kernel_rfl) (Still.then Still.body) (List.nil_sublist _) Cells.nil (by decide) (Quiet.c (Q.fieldAddr fa50_13 rfl)) ?_
  refine VA.take 12 rfl (by kernel_rfl) (by kernel_rfl) (by kernel_rfl) (Still.then Still.body) (List.nil_sublist _) Cells.nil (by decide) (Quiet.c (Q.build lay116 zF)) ?_
  refine VA.all (rs := [13]) (by kernel_rfl) (by simp) ?_
  refine VA.forall1 ?_
  · skip
    refine VA.eff rfl ?_
    refine id (O.alloc zo116 (by decide) ?_)
    intro g4
    refine VA.next (List.nil_sublist _) Cells.nil ?_
    refine VA.all (rs := [14]) (by kernel_rfl) (by simp) ?_
    refine VA.forall1 ?_
    · skip
      refine VA.eff rfl ?_
      refine id (O.store ty116 rfl rfl rfl rfl zU zP ?_)
      refine VA.next (List.nil_sublist _) Cells.nil ?_
      refine VA.done (by kernel_rfl) ?_
      refine VE.seq ?_
      refine VC.seq ?_
      refine VC.block ?_
      refine VC.seq ?_
      refine VC.region ?_
      refine VL.q (Q.move rfl) ?_
      refine VL.q (Q.nilCheck rfl) ?_
      refine VL.q (Q.fieldAddr fa50_0 rfl) ?_
      refine VL.q (Q.load0 ty5 rfl (Rd.at (j := 0) hro rfl) (by simp)) ?_
      refine VL.quietE (v' := .bool false) (by decide) (Q.eq rfl rfl) (by rfl) ?_
      refine VL.q (Q.move rfl) ?_
      refine VL.no (by simp) rfl rfl (.inl rfl) ?_
      refine VL.no (by simp) rfl rfl (.inl rfl) ?_
      refine VL.no (by simp) rfl rfl (.inl rfl) ?_
      refine VL.no (by simp) rfl rfl (.inl rfl) ?_
      refine VL.no (by simp) rfl rfl (.inl rfl) ?_
      refine VL.no (by simp) rfl rfl (.inl rfl) ?_
      refine VL.no (by simp) rfl rfl (.inr rfl) ?_
      refine VL.no (by simp) rfl rfl (.inr rfl) ?_
      refine VL.no (by simp) rfl rfl (.inr rfl) ?_
      refine VL.no (by simp) rfl rfl (.inr rfl) ?_
      refine VL.no (by simp) rfl rfl (.inr rfl) ?_
      refine VL.no (by simp) rfl rfl (.inl rfl) ?_
      refine VL.quietE (v' := .bool false) (by decide) (Q.pick_false rfl rfl) (by rfl) ?_
      refine VL.q (Q.assign rfl) ?_
      refine VL.nil ?_
      refine VE.seq ?_
      refine VC.condF rfl ?_
      refine VC.seq ?_
      refine VC.region ?_
      refine VL.q (Q.move rfl) ?_
      refine VL.q (Q.nilCheck rfl) ?_
      refine VL.q (Q.fieldAddr fa50_0 rfl) ?_
      refine VL.q (Q.load0 ty5 rfl (Rd.at (j := 0) hro rfl) (by simp)) ?_
      refine VL.quietE (v' := .bool false) (by decide) (Q.eq rfl rfl) (by rfl) ?_
      refine VL.q (Q.assign rfl) ?_
      refine VL.nil ?_
      refine VE.seq ?_
      refine VC.condF rfl ?_
      refine VC.seq ?_
      refine VK.keep (by exact .cons (i := 0) rfl (.cons (i := 2) rfl (.cons (i := 3) rfl (.cons (i := 4) rfl ( .nil))))) ?_
      refine VC.region ?_
      refine VL.q (Q.move rfl) ?_
      refine VL.q (Q.nilCheck rfl) ?_
      refine VL.q (Q.fieldAddr fa50_0 rfl) ?_
      refine VL.q (Q.load0 ty5 rfl (Rd.at (j := 0) hro rfl) (by simp)) ?_
      refine VL.quietE (v' := .bool true) (by decide) (Q.eq rfl rfl) (by rfl) ?_
      refine VL.q (Q.move rfl) ?_
      refine VL.yes rfl rfl ?_
      refine VL.q (Q.move rfl) ?_
      refine VL.yes rfl rfl ?_
      refine VL.q (Q.nilCheck rfl) ?_
      refine VL.yes rfl rfl ?_
      refine VL.q (Q.fieldAddr fa50_2 rfl) ?_
      refine VL.yes rfl rfl ?_
      refine VL.q (Q.load0 ty4 rfl (Rd.at (j := 2) hro rfl) (by simp)) ?_
      refine VL.quietE (v' := .bool false) (by decide) (Q.pick_true rfl rfl) (by rfl) ?_
      refine VL.q (Q.move rfl) ?_
      refine VL.no (by simp) rfl rfl (.inl rfl) ?_
      refine VL.no (by simp) rfl rfl (.inl rfl) ?_
      refine VL.no (by simp) rfl rfl (.inl rfl) ?_
      refine VL.no (by simp) rfl rfl (.inl rfl) ?_
      refine VL.quietE (v' := .bool false) (by decide) (Q.pick_false rfl rfl) (by rfl) ?_
      refine VL.q (Q.assign rfl) ?_
      refine VL.nil ?_
      refine VE.seq ?_
      refine VC.condF rfl ?_
      refine VC.skip ?_
      refine VE.block_normal ?_
      refine VE.seq ?_
      refine VC.seq ?_
      refine VC.region ?_
      refine VL.q (Q.slcA0 ar116 (h := 3) rfl ⟨_, _, rfl, rfl⟩ (by omega)) ?_
      refine VL.q (Q.assign rfl) ?_
      refine VL.q (Q.assign rfl) ?_
      refine VL.nil ?_
      refine VE.seq ?_
      refine VC.ret ?_
      refine VE.ret rfl (.tmp rfl (.tmp rfl .nil)) g4 ?_ ?_ (.cons_cons _ (List.nil_sublist _))
      · trivial
      · first | rfl | (exfalso; simp at *; omega)

theorem places_ack (g : Nat) :
    Does Tryd.prog 36 [.pointer (some ⟨g, 0, none⟩)] [] (fun W => Rd W (some ⟨g, 0, none⟩) [.int .u8 1, .int .u8 13, .bool false, .bool false]) (X := Nat) (fun _ => True) (fun x => .tuple #[.slice (some ⟨x, 0, none⟩) 1 4, .slice none 0 0]) (fun x => [.blk x [.pointer (some ⟨g, 10, none⟩), .pointer (some ⟨g, 16, none⟩), .pointer (some ⟨g, 22, none⟩), .pointer (some ⟨g, 28, none⟩)] 116]) := by
  refine Does.enter Tryd.func36 rfl (m := 67) rfl (by simp) ?_
  intro W0 hro
  refine VC.seq ?_
  refine VC.region ?_
  refine VL.q (Q.assign rfl) ?_
  refine VL.q (Q.assign rfl) ?_
  refine VL.nil ?_
  refine VE.seq ?_
  refine VC.seq ?_
  refine VA.start (Ls := []) (Cs := []) mixed ?_
  refine VA.take 0 rfl (by kernel_rfl) (by kernel_rfl) (by kernel_rfl) (Still.then Still.body) (List.nil_sublist _) Cells.nil (by decide) (Quiet.c (Q.move rfl)) ?_
  refine VA.take 1 rfl (by kernel_rfl) (by kernel_rfl) (by kernel_rfl) (Still.then Still.body) (List.nil_sublist _) Cells.nil (by decide) (Quiet.c (Q.nilCheck rfl)) ?_
  refine VA.take 2 rfl (by kernel_rfl) (by kernel_rfl) (by kernel_rfl) (Still.then Still.body) (List.nil_sublist _) Cells.nil (by decide) (Quiet.c (Q.fieldAddr fa50_10 rfl)) ?_
  refine VA.take 3 rfl (by kernel_rfl) (by kernel_rfl) (by kernel_rfl) (Still.then Still.body) (List.nil_sublist _) Cells.nil (by decide) (Quiet.c (Q.move rfl)) ?_
  refine VA.take 4 rfl (by kernel_rfl) (by kernel_rfl) (by kernel_rfl) (Still.then Still.body) (List.nil_sublist _) Cells.nil (by decide) (Quiet.c (Q.nilCheck rfl)) ?_
  refine VA.take 5 rfl (by kernel_rfl) (by kernel_rfl) (by kernel_rfl) (Still.then Still.body) (List.nil_sublist _) Cells.nil (by decide) (Quiet.c (Q.fieldAddr fa50_11 rfl)) ?_
  refine VA.take 6 rfl (by kernel_rfl) (by kernel_rfl) (by kernel_rfl) (Still.then Still.body) (List.nil_sublist _) Cells.nil (by decide) (Quiet.c (Q.move rfl)) ?_
  refine VA.take 7 rfl (by kernel_rfl) (by kernel_rfl) (by kernel_rfl) (Still.then Still.body) (List.nil_sublist _) Cells.nil (by decide) (Quiet.c (Q.nilCheck rfl)) ?_
  refine VA.take 8 rfl (by kernel_rfl) (by kernel_rfl) (by kernel_rfl) (Still.then Still.body) (List.nil_sublist _) Cells.nil (by decide) (Quiet.c (Q.fieldAddr fa50_12 rfl)) ?_
  refine VA.take 9 rfl (by kernel_rfl) (by kernel_rfl) (by kernel_rfl) (Still.then Still.body) (List.nil_sublist _) Cells.nil (by decide) (Quiet.c (Q.move rfl)) ?_
  refine VA.take 10 rfl (by kernel_rfl) (by kernel_rfl) (by kernel_rfl) (Still.then Still.body) (List.nil_sublist _) Cells.nil (by decide) (Quiet.c (Q.nilCheck rfl)) ?_
  refine VA.take 11 rfl (by kernel_rfl) (by kernel_rfl) (by kernel_rfl) (Still.then Still.body) (List.nil_sublist _) Cells.nil (by decide) (Quiet.c (Q.fieldAddr fa50_13 rfl)) ?_
  refine VA.take 12 rfl (by kernel_rfl) (by kernel_rfl) (by kernel_rfl) (Still.then Still.body) (List.nil_sublist _) Cells.nil (by decide) (Quiet.c (Q.build lay116 zF)) ?_
  refine VA.all (rs := [13]) (by kernel_rfl) (by simp) ?_
  refine VA.forall1 ?_
  · skip
    refine VA.eff rfl ?_
    refine id (O.alloc zo116 (by decide) ?_)
    intro g4
    refine VA.next (List.nil_sublist _) Cells.nil ?_
    refine VA.all (rs := [14]) (by kernel_rfl) (by simp) ?_
    refine VA.forall1 ?_
    · skip
      refine VA.eff rfl ?_
      refine id (O.store ty116 rfl rfl rfl rfl zU zP ?_)
      refine VA.next (List.nil_sublist _) Cells.nil ?_
      refine VA.done (by kernel_rfl) ?_
      refine VE.seq ?_
      refine VC.seq ?_
      refine VC.block ?_
      refine VC.seq ?_
      refine VC.region ?_
      refine VL.q (Q.move rfl) ?_
      refine VL.q (Q.nilCheck rfl) ?_
      refine VL.q (Q.fieldAddr fa50_0 rfl) ?_
      refine VL.q (Q.load0 ty5 rfl (Rd.at (j := 0) hro rfl) (by simp)) ?_
      refine VL.quietE (v' := .bool true) (by decide) (Q.eq rfl rfl) (by rfl) ?_
      refine VL.q (Q.move rfl) ?_
      refine VL.yes rfl rfl ?_
      refine VL.q (Q.move rfl) ?_
      refine VL.yes rfl rfl ?_
      refine VL.q (Q.nilCheck rfl) ?_
      refine VL.yes rfl rfl ?_
      refine VL.q (Q.fieldAddr fa50_1 rfl) ?_
      refine VL.yes rfl rfl ?_
      refine VL.q (Q.load0 ty5 rfl (Rd.at (j := 1) hro rfl) (by simp)) ?_
      refine VL.yes rfl rfl ?_
      refine VL.quietE (v' := .bool false) (by decide) (Q.eq rfl rfl) (by rfl) ?_
      refine VL.yes rfl rfl ?_
      refine VL.q (Q.move rfl) ?_
      refine VL.yes rfl rfl ?_
      refine VL.q (Q.move rfl) ?_
      refine VL.yes rfl rfl ?_
      refine VL.q (Q.nilCheck rfl) ?_
      refine VL.yes rfl rfl ?_
      refine VL.q (Q.fieldAddr fa50_1 rfl) ?_
      refine VL.yes rfl rfl ?_
      refine VL.q (Q.load0 ty5 rfl (Rd.at (j := 1) hro rfl) (by simp)) ?_
      refine VL.yes rfl rfl ?_
      refine VL.quietE (v' := .bool true) (by decide) (Q.eq rfl rfl) (by rfl) ?_
      refine VL.yes rfl rfl ?_
      refine VL.quietE (v' := .bool true) (by decide) (Q.pick_false rfl rfl) (by rfl) ?_
      refine VL.quietE (v' := .bool true) (by decide) (Q.pick_true rfl rfl) (by rfl) ?_
      refine VL.q (Q.assign rfl) ?_
      refine VL.nil ?_
      refine VE.seq ?_
      refine VC.condT rfl ?_
      refine VC.seq ?_
      refine VC.region ?_
      refine VL.q (Q.slcA0 ar116 (h := 1) rfl ⟨_, _, rfl, rfl⟩ (by omega)) ?_
      refine VL.q (Q.assign rfl) ?_
      refine VL.q (Q.assign rfl) ?_
      refine VL.nil ?_
      refine VE.seq ?_
      refine VC.ret ?_
      refine VE.block_ret ?_
      refine VE.then_ret ?_
      refine VE.ret rfl (.tmp rfl (.tmp rfl .nil)) g4 ?_ ?_ (.cons_cons _ (List.nil_sublist _))
      · trivial
      · first | rfl | (exfalso; simp at *; omega)

theorem places_bar (g : Nat) :
    Does Tryd.prog 36 [.pointer (some ⟨g, 0, none⟩)] [] (fun W => Rd W (some ⟨g, 0, none⟩) [.int .u8 1, .int .u8 8, .bool false, .bool false]) (X := Nat) (fun _ => True) (fun x => .tuple #[.slice (some ⟨x, 0, none⟩) 2 4, .slice none 0 0]) (fun x => [.blk x [.pointer (some ⟨g, 10, none⟩), .pointer (some ⟨g, 16, none⟩), .pointer (some ⟨g, 22, none⟩), .pointer (some ⟨g, 28, none⟩)] 116]) := by
  refine Does.enter Tryd.func36 rfl (m := 67) rfl (by simp) ?_
  intro W0 hro
  refine VC.seq ?_
  refine VC.region ?_
  refine VL.q (Q.assign rfl) ?_
  refine VL.q (Q.assign rfl) ?_
  refine VL.nil ?_
  refine VE.seq ?_
  refine VC.seq ?_
  refine VA.start (Ls := []) (Cs := []) mixed ?_
  refine VA.take 0 rfl (by kernel_rfl) (by kernel_rfl) (by kernel_rfl) (Still.then Still.body) (List.nil_sublist _) Cells.nil (by decide) (Quiet.c (Q.move rfl)) ?_
  refine VA.take 1 rfl (by kernel_rfl) (by kernel_rfl) (by kernel_rfl) (Still.then Still.body) (List.nil_sublist _) Cells.nil (by decide) (Quiet.c (Q.nilCheck rfl)) ?_
  refine VA.take 2 rfl (by kernel_rfl) (by kernel_rfl) (by kernel_rfl) (Still.then Still.body) (List.nil_sublist _) Cells.nil (by decide) (Quiet.c (Q.fieldAddr fa50_10 rfl)) ?_
  refine VA.take 3 rfl (by kernel_rfl) (by kernel_rfl) (by kernel_rfl) (Still.then Still.body) (List.nil_sublist _) Cells.nil (by decide) (Quiet.c (Q.move rfl)) ?_
  refine VA.take 4 rfl (by kernel_rfl) (by kernel_rfl) (by kernel_rfl) (Still.then Still.body) (List.nil_sublist _) Cells.nil (by decide) (Quiet.c (Q.nilCheck rfl)) ?_
  refine VA.take 5 rfl (by kernel_rfl) (by kernel_rfl) (by kernel_rfl) (Still.then Still.body) (List.nil_sublist _) Cells.nil (by decide) (Quiet.c (Q.fieldAddr fa50_11 rfl)) ?_
  refine VA.take 6 rfl (by kernel_rfl) (by kernel_rfl) (by kernel_rfl) (Still.then Still.body) (List.nil_sublist _) Cells.nil (by decide) (Quiet.c (Q.move rfl)) ?_
  refine VA.take 7 rfl (by kernel_rfl) (by kernel_rfl) (by kernel_rfl) (Still.then Still.body) (List.nil_sublist _) Cells.nil (by decide) (Quiet.c (Q.nilCheck rfl)) ?_
  refine VA.take 8 rfl (by kernel_rfl) (by kernel_rfl) (by kernel_rfl) (Still.then Still.body) (List.nil_sublist _) Cells.nil (by decide) (Quiet.c (Q.fieldAddr fa50_12 rfl)) ?_
  refine VA.take 9 rfl (by kernel_rfl) (by kernel_rfl) (by kernel_rfl) (Still.then Still.body) (List.nil_sublist _) Cells.nil (by decide) (Quiet.c (Q.move rfl)) ?_
  refine VA.take 10 rfl (by kernel_rfl) (by kernel_rfl) (by kernel_rfl) (Still.then Still.body) (List.nil_sublist _) Cells.nil (by decide) (Quiet.c (Q.nilCheck rfl)) ?_
  refine VA.take 11 rfl (by kernel_rfl) (by kernel_rfl) (by kernel_rfl) (Still.then Still.body) (List.nil_sublist _) Cells.nil (by decide) (Quiet.c (Q.fieldAddr fa50_13 rfl)) ?_
  refine VA.take 12 rfl (by kernel_rfl) (by kernel_rfl) (by kernel_rfl) (Still.then Still.body) (List.nil_sublist _) Cells.nil (by decide) (Quiet.c (Q.build lay116 zF)) ?_
  refine VA.all (rs := [13]) (by kernel_rfl) (by simp) ?_
  refine VA.forall1 ?_
  · skip
    refine VA.eff rfl ?_
    refine id (O.alloc zo116 (by decide) ?_)
    intro g4
    refine VA.next (List.nil_sublist _) Cells.nil ?_
    refine VA.all (rs := [14]) (by kernel_rfl) (by simp) ?_
    refine VA.forall1 ?_
    · skip
      refine VA.eff rfl ?_
      refine id (O.store ty116 rfl rfl rfl rfl zU zP ?_)
      refine VA.next (List.nil_sublist _) Cells.nil ?_
      refine VA.done (by kernel_rfl) ?_
      refine VE.seq ?_
      refine VC.seq ?_
      refine VC.block ?_
      refine VC.seq ?_
      refine VC.region ?_
      refine VL.q (Q.move rfl) ?_
      refine VL.q (Q.nilCheck rfl) ?_
      refine VL.q (Q.fieldAddr fa50_0 rfl) ?_
      refine VL.q (Q.load0 ty5 rfl (Rd.at (j := 0) hro rfl) (by simp)) ?_
      refine VL.quietE (v' := .bool true) (by decide) (Q.eq rfl rfl) (by rfl) ?_
      refine VL.q (Q.move rfl) ?_
      refine VL.yes rfl rfl ?_
      refine VL.q (Q.move rfl) ?_
      refine VL.yes rfl rfl ?_
      refine VL.q (Q.nilCheck rfl) ?_
      refine VL.yes rfl rfl ?_
      refine VL.q (Q.fieldAddr fa50_1 rfl) ?_
      refine VL.yes rfl rfl ?_
      refine VL.q (Q.load0 ty5 rfl (Rd.at (j := 1) hro rfl) (by simp)) ?_
      refine VL.yes rfl rfl ?_
      refine VL.quietE (v' := .bool false) (by decide) (Q.eq rfl rfl) (by rfl) ?_
      refine VL.yes rfl rfl ?_
      refine VL.q (Q.move rfl) ?_
      refine VL.yes rfl rfl ?_
      refine VL.q (Q.move rfl) ?_
      refine VL.yes rfl rfl ?_
      refine VL.q (Q.nilCheck rfl) ?_
      refine VL.yes rfl rfl ?_
      refine VL.q (Q.fieldAddr fa50_1 rfl) ?_
      refine VL.yes rfl rfl ?_
      refine VL.q (Q.load0 ty5 rfl (Rd.at (j := 1) hro rfl) (by simp)) ?_
      refine VL.yes rfl rfl ?_
      refine VL.quietE (v' := .bool false) (by decide) (Q.eq rfl rfl) (by rfl) ?_
      refine VL.yes rfl rfl ?_
      refine VL.quietE (v' := .bool false) (by decide) (Q.pick_false rfl rfl) (by rfl) ?_
      refine VL.quietE (v' := .bool false) (by decide) (Q.pick_true rfl rfl) (by rfl) ?_
      refine VL.q (Q.assign rfl) ?_
      refine VL.nil ?_
      refine VE.seq ?_
      refine VC.condF rfl ?_
      refine VC.seq ?_
      refine VC.region ?_
      refine VL.q (Q.move rfl) ?_
      refine VL.q (Q.nilCheck rfl) ?_
      refine VL.q (Q.fieldAddr fa50_0 rfl) ?_
      refine VL.q (Q.load0 ty5 rfl (Rd.at (j := 0) hro rfl) (by simp)) ?_
      refine VL.quietE (v' := .bool true) (by decide) (Q.eq rfl rfl) (by rfl) ?_
      refine VL.q (Q.assign rfl) ?_
      refine VL.nil ?_
      refine VE.seq ?_
      refine VC.condT rfl ?_
      refine VC.seq ?_
      refine VK.keep (by exact .cons (i := 2) rfl (.cons (i := 3) rfl (.cons (i := 4) rfl ( .nil)))) ?_
      refine VC.region ?_
      refine VL.q (Q.slcA0 ar116 (h := 2) rfl ⟨_, _, rfl, rfl⟩ (by omega)) ?_
      refine VL.q (Q.assign rfl) ?_
      refine VL.q (Q.assign rfl) ?_
      refine VL.nil ?_
      refine VE.seq ?_
      refine VC.ret ?_
      refine VE.block_ret ?_
      refine VE.then_ret ?_
      refine VE.ret rfl (.tmp rfl (.tmp rfl .nil)) g4 ?_ ?_ (.cons_cons _ (List.nil_sublist _))
      · trivial
      · first | rfl | (exfalso; simp at *; omega)

theorem places_back (g : Nat) :
    Does Tryd.prog 36 [.pointer (some ⟨g, 0, none⟩)] [] (fun W => Rd W (some ⟨g, 0, none⟩) [.int .u8 1, .int .u8 9, .bool false, .bool false]) (X := Nat) (fun _ => True) (fun x => .tuple #[.slice (some ⟨x, 0, none⟩) 2 4, .slice none 0 0]) (fun x => [.blk x [.pointer (some ⟨g, 10, none⟩), .pointer (some ⟨g, 16, none⟩), .pointer (some ⟨g, 22, none⟩), .pointer (some ⟨g, 28, none⟩)] 116]) := by
  refine Does.enter Tryd.func36 rfl (m := 67) rfl (by simp) ?_
  intro W0 hro
  refine VC.seq ?_
  refine VC.region ?_
  refine VL.q (Q.assign rfl) ?_
  refine VL.q (Q.assign rfl) ?_
  refine VL.nil ?_
  refine VE.seq ?_
  refine VC.seq ?_
  refine VA.start (Ls := []) (Cs := []) mixed ?_
  refine VA.take 0 rfl (by kernel_rfl) (by kernel_rfl) (by kernel_rfl) (Still.then Still.body) (List.nil_sublist _) Cells.nil (by decide) (Quiet.c (Q.move rfl)) ?_
  refine VA.take 1 rfl (by kernel_rfl) (by kernel_rfl) (by kernel_rfl) (Still.then Still.body) (List.nil_sublist _) Cells.nil (by decide) (Quiet.c (Q.nilCheck rfl)) ?_
  refine VA.take 2 rfl (by kernel_rfl) (by kernel_rfl) (by kernel_rfl) (Still.then Still.body) (List.nil_sublist _) Cells.nil (by decide) (Quiet.c (Q.fieldAddr fa50_10 rfl)) ?_
  refine VA.take 3 rfl (by kernel_rfl) (by kernel_rfl) (by kernel_rfl) (Still.then Still.body) (List.nil_sublist _) Cells.nil (by decide) (Quiet.c (Q.move rfl)) ?_
  refine VA.take 4 rfl (by kernel_rfl) (by kernel_rfl) (by kernel_rfl) (Still.then Still.body) (List.nil_sublist _) Cells.nil (by decide) (Quiet.c (Q.nilCheck rfl)) ?_
  refine VA.take 5 rfl (by kernel_rfl) (by kernel_rfl) (by kernel_rfl) (Still.then Still.body) (List.nil_sublist _) Cells.nil (by decide) (Quiet.c (Q.fieldAddr fa50_11 rfl)) ?_
  refine VA.take 6 rfl (by kernel_rfl) (by kernel_rfl) (by kernel_rfl) (Still.then Still.body) (List.nil_sublist _) Cells.nil (by decide) (Quiet.c (Q.move rfl)) ?_
  refine VA.take 7 rfl (by kernel_rfl) (by kernel_rfl) (by kernel_rfl) (Still.then Still.body) (List.nil_sublist _) Cells.nil (by decide) (Quiet.c (Q.nilCheck rfl)) ?_
  refine VA.take 8 rfl (by kernel_rfl) (by kernel_rfl) (by kernel_rfl) (Still.then Still.body) (List.nil_sublist _) Cells.nil (by decide) (Quiet.c (Q.fieldAddr fa50_12 rfl)) ?_
  refine VA.take 9 rfl (by kernel_rfl) (by kernel_rfl) (by kernel_rfl) (Still.then Still.body) (List.nil_sublist _) Cells.nil (by decide) (Quiet.c (Q.move rfl)) ?_
  refine VA.take 10 rfl (by kernel_rfl) (by kernel_rfl) (by kernel_rfl) (Still.then Still.body) (List.nil_sublist _) Cells.nil (by decide) (Quiet.c (Q.nilCheck rfl)) ?_
  refine VA.take 11 rfl (by kernel_rfl) (by kernel_rfl) (by kernel_rfl) (Still.then Still.body) (List.nil_sublist _) Cells.nil (by decide) (Quiet.c (Q.fieldAddr fa50_13 rfl)) ?_
  refine VA.take 12 rfl (by kernel_rfl) (by kernel_rfl) (by kernel_rfl) (Still.then Still.body) (List.nil_sublist _) Cells.nil (by decide) (Quiet.c (Q.build lay116 zF)) ?_
  refine VA.all (rs := [13]) (by kernel_rfl) (by simp) ?_
  refine VA.forall1 ?_
  · skip
    refine VA.eff rfl ?_
    refine id (O.alloc zo116 (by decide) ?_)
    intro g4
    refine VA.next (List.nil_sublist _) Cells.nil ?_
    refine VA.all (rs := [14]) (by kernel_rfl) (by simp) ?_
    refine VA.forall1 ?_
    · skip
      refine VA.eff rfl ?_
      refine id (O.store ty116 rfl rfl rfl rfl zU zP ?_)
      refine VA.next (List.nil_sublist _) Cells.nil ?_
      refine VA.done (by kernel_rfl) ?_
      refine VE.seq ?_
      refine VC.seq ?_
      refine VC.block ?_
      refine VC.seq ?_
      refine VC.region ?_
      refine VL.q (Q.move rfl) ?_
      refine VL.q (Q.nilCheck rfl) ?_
      refine VL.q (Q.fieldAddr fa50_0 rfl) ?_
      refine VL.q (Q.load0 ty5 rfl (Rd.at (j := 0) hro rfl) (by simp)) ?_
      refine VL.quietE (v' := .bool true) (by decide) (Q.eq rfl rfl) (by rfl) ?_
      refine VL.q (Q.move rfl) ?_
      refine VL.yes rfl rfl ?_
      refine VL.q (Q.move rfl) ?_
      refine VL.yes rfl rfl ?_
      refine VL.q (Q.nilCheck rfl) ?_
      refine VL.yes rfl rfl ?_
      refine VL.q (Q.fieldAddr fa50_1 rfl) ?_
      refine VL.yes rfl rfl ?_
      refine VL.q (Q.load0 ty5 rfl (Rd.at (j := 1) hro rfl) (by simp)) ?_
      refine VL.yes rfl rfl ?_
      refine VL.quietE (v' := .bool false) (by decide) (Q.eq rfl rfl) (by rfl) ?_
      refine VL.yes rfl rfl ?_
      refine VL.q (Q.move rfl) ?_
      refine VL.yes rfl rfl ?_
      refine VL.q (Q.move rfl) ?_
      refine VL.yes rfl rfl ?_
      refine VL.q (Q.nilCheck rfl) ?_
      refine VL.yes rfl rfl ?_
      refine VL.q (Q.fieldAddr fa50_1 rfl) ?_
      refine VL.yes rfl rfl ?_
      refine VL.q (Q.load0 ty5 rfl (Rd.at (j := 1) hro rfl) (by simp)) ?_
      refine VL.yes rfl rfl ?_
      refine VL.quietE (v' := .bool false) (by decide) (Q.eq rfl rfl) (by rfl) ?_
      refine VL.yes rfl rfl ?_
      refine VL.quietE (v' := .bool false) (by decide) (Q.pick_false rfl rfl) (by rfl) ?_
      refine VL.quietE (v' := .bool false) (by decide) (Q.pick_true rfl rfl) (by rfl) ?_
      refine VL.q (Q.assign rfl) ?_
      refine VL.nil ?_
      refine VE.seq ?_
      refine VC.condF rfl ?_
      refine VC.seq ?_
      refine VC.region ?_
      refine VL.q (Q.move rfl) ?_
      refine VL.q (Q.nilCheck rfl) ?_
      refine VL.q (Q.fieldAddr fa50_0 rfl) ?_
      refine VL.q (Q.load0 ty5 rfl (Rd.at (j := 0) hro rfl) (by simp)) ?_
      refine VL.quietE (v' := .bool true) (by decide) (Q.eq rfl rfl) (by rfl) ?_
      refine VL.q (Q.assign rfl) ?_
      refine VL.nil ?_
      refine VE.seq ?_
      refine VC.condT rfl ?_
      refine VC.seq ?_
      refine VK.keep (by exact .cons (i := 2) rfl (.cons (i := 3) rfl (.cons (i := 4) rfl ( .nil)))) ?_
      refine VC.region ?_
      refine VL.q (Q.slcA0 ar116 (h := 2) rfl ⟨_, _, rfl, rfl⟩ (by omega)) ?_
      refine VL.q (Q.assign rfl) ?_
      refine VL.q (Q.assign rfl) ?_
      refine VL.nil ?_
      refine VE.seq ?_
      refine VC.ret ?_
      refine VE.block_ret ?_
      refine VE.then_ret ?_
      refine VE.ret rfl (.tmp rfl (.tmp rfl .nil)) g4 ?_ ?_ (.cons_cons _ (List.nil_sublist _))
      · trivial
      · first | rfl | (exfalso; simp at *; omega)

theorem check_rts (D : Nat) (hD : D ≤ 32767) :
    Does Tryd.prog 28 [.agg #[.int .u8 1, .int .u8 11, .bool false, .bool false, .bool false, .bool false, .bool false, .bool false, .bool false, .int .i64 (D : Int), .int .u8 2, .int .u8 0, .int .u8 0, .int .u8 0, .int .u8 0, .int .u8 1, .int .u8 2, .int .u8 0, .int .u8 0, .int .u8 0, .int .u8 0, .int .u8 2, .int .u8 0, .int .u8 0, .int .u8 0, .int .u8 0, .int .u8 0, .int .u8 0, .int .u8 0, .int .u8 0, .int .u8 0, .int .u8 0, .int .u8 0, .int .u8 0, .int .i64 0, .int .i64 0, .int .i64 0, .int .u8 0, .bool false, .bool false]] [] (fun _ => True) (X := Unit) (fun _ => True) (fun _ => .int .i64 0) (fun _ => []) := by
  refine Does.enter Tryd.func28 rfl (m := 139) rfl (by simp) ?_
  intro W0 hro
  refine VC.seq ?_
  refine VC.region ?_
  refine VL.eff (O.box rfl rfl (by decide) ?_)
  intro g1
  refine VL.q (Q.assign rfl) ?_
  refine VL.nil ?_
  refine VE.seq ?_
  refine VC.seq ?_
  refine VC.region ?_
  refine VL.q (Q.fieldAddr fa50_0 rfl) ?_
  refine VL.q (Q.load1 ty5 rfl zM rfl) ?_
  refine VL.q (Q.fieldAddr fa50_1 rfl) ?_
  refine VL.q (Q.load1 ty5 rfl zM rfl) ?_
  refine VL.eff (O.call0 ok34 rfl rfl (by decide) (known_rts) (fun _ _ _ => trivial) ?_)
  intro x19 y19
  refine VL.q (Q.move rfl) ?_
  refine VL.q (Q.extract rfl rfl) ?_
  refine VL.q (Q.extract rfl rfl) ?_
  refine VL.eff (O.alloc zo90 (by decide) ?_)
  intro g3
  refine VL.eff (O.store ty90 rfl rfl rfl rfl zU zP ?_)
  refine VL.q (Q.assign rfl) ?_
  refine VL.nil ?_
  refine VE.seq ?_
  refine VC.seq ?_
  refine VC.seq ?_
  refine VC.region ?_
  refine VL.q (Q.move rfl) ?_
  refine VL.quietE (v' := .bool false) (by decide) (Q.not rfl) (by rfl) ?_
  refine VL.nil ?_
  refine VE.seq ?_
  refine VC.condF rfl ?_
  refine VC.skip ?_
  refine VE.seq ?_
  refine VC.seq ?_
  refine VC.region ?_
  refine VL.q (Q.loadA ty50 rfl zM zS) ?_
  refine VL.eff (O.alloc zo50 (by decide) ?_)
  intro g5
  refine VL.eff (O.store ty50 rfl rfl rfl rfl zU zP ?_)
  refine VL.nil ?_
  refine VE.seq ?_
  refine VC.seq ?_
  refine VC.region ?_
  refine VL.eff (O.call0 ok36 rfl rfl (by decide) (places_rts _) (fun _ _ hw => Rd.seg hw zM zS) ?_)
  intro x26 y26
  refine VL.q (Q.move rfl) ?_
  refine VL.q (Q.extract rfl rfl) ?_
  refine VL.q (Q.extract rfl rfl) ?_
  refine VL.q (Q.assign rfl) ?_
  refine VL.q (Q.assign rfl) ?_
  refine VL.nil ?_
  refine VE.seq ?_
  refine VC.seq ?_
  refine VC.seq ?_
  refine VC.region ?_
  refine VL.q (Q.move rfl) ?_
  refine VL.q (Q.move rfl) ?_
  refine VL.q (Q.append0 sl93 rfl rfl (by omega)) ?_
  refine VL.q (Q.len sl93 rfl) ?_
  refine VL.q (Q.move rfl) ?_
  refine VL.nil ?_
  refine VE.seq ?_
  refine VC.block ?_
  refine VC.rounds 40 ?_
  refine VC.rnd (m := 39) ?_
  refine VC.seq ?_
  refine VC.region ?_
  refine VL.q (Q.lt rfl rfl) ?_
  refine VL.nil ?_
  refine VE.seq ?_
  refine VC.seq ?_
  refine VC.condT rfl ?_
  refine VC.skip ?_
  refine VE.seq ?_
  refine VC.seq ?_
  refine VC.block ?_
  refine VC.seq ?_
  refine VC.region ?_
  refine VL.q (Q.indexAddr sl93 (j := 0) rfl rfl rfl (by omega)) ?_
  refine VL.q (Q.load1 ty97 rfl zM rfl) ?_
  refine VL.q (Q.assign rfl) ?_
  refine VL.nil ?_
  refine VE.seq ?_
  refine VC.region ?_
  refine VL.q (Q.move rfl) ?_
  refine VL.q (Q.build lay43 zF) ?_
  refine VL.q (Q.nilCheck rfl) ?_
  refine VL.eff (O.store ty43 rfl rfl rfl rfl zU zP ?_)
  refine VL.nil ?_
  refine VE.block_normal ?_
  refine VE.seq ?_
  refine VC.region ?_
  refine VL.quietE (v' := .int .i64 1) (by decide) ((by first | exact Q.addI rfl rfl (by omega) (by omega) | exact Q.add rfl rfl)) (by rfl) ?_
  refine VL.q (Q.move rfl) ?_
  refine VL.nil ?_
  refine VE.then_normal ?_
  refine VC.rnd (m := 38) ?_
  refine VC.seq ?_
  refine VC.region ?_
  refine VL.q (Q.lt rfl rfl) ?_
  refine VL.nil ?_
  refine VE.seq ?_
  refine VC.seq ?_
  refine VC.condT rfl ?_
  refine VC.skip ?_
  refine VE.seq ?_
  refine VC.seq ?_
  refine VC.block ?_
  refine VC.seq ?_
  refine VC.region ?_
  refine VL.q (Q.indexAddr sl93 (j := 1) rfl rfl rfl (by omega)) ?_
  refine VL.q (Q.load1 ty97 rfl zM rfl) ?_
  refine VL.q (Q.assign rfl) ?_
  refine VL.nil ?_
  refine VE.seq ?_
  refine VC.region ?_
  refine VL.q (Q.move rfl) ?_
  refine VL.q (Q.build lay43 zF) ?_
  refine VL.q (Q.nilCheck rfl) ?_
  refine VL.eff (O.store ty43 rfl rfl rfl rfl zU zP ?_)
  refine VL.nil ?_
  refine VE.block_normal ?_
  refine VE.seq ?_
  refine VC.region ?_
  refine VL.quietE (v' := .int .i64 2) (by decide) ((by first | exact Q.addI rfl rfl (by omega) (by omega) | exact Q.add rfl rfl)) (by rfl) ?_
  refine VL.q (Q.move rfl) ?_
  refine VL.nil ?_
  refine VE.then_normal ?_
  refine VC.rnd (m := 37) ?_
  refine VC.seq ?_
  refine VC.region ?_
  refine VL.q (Q.lt rfl rfl) ?_
  refine VL.nil ?_
  refine VE.seq ?_
  refine VC.seq ?_
  refine VC.condF rfl ?_
  refine VC.exit ?_
  refine VE.then_exit ?_
  refine VE.then_exit ?_
  refine VE.block_here ?_
  refine VE.seq ?_
  refine VC.seq ?_
  refine VC.region ?_
  refine VL.q (Q.fieldAddr fa50_0 rfl) ?_
  refine VL.eff (O.store ty5 rfl rfl rfl rfl zU zP ?_)
  refine VL.q (Q.fieldAddr fa50_1 rfl) ?_
  refine VL.eff (O.store ty5 rfl rfl rfl rfl zU zP ?_)
  refine VL.q (Q.fieldAddr fa50_6 rfl) ?_
  refine VL.eff (O.store ty4 rfl rfl rfl rfl zU zP ?_)
  refine VL.q (Q.fieldAddr fa50_7 rfl) ?_
  refine VL.eff (O.store ty4 rfl rfl rfl rfl zU zP ?_)
  refine VL.q (Q.fieldAddr fa50_9 rfl) ?_
  refine VL.eff (O.store ty3 rfl rfl rfl rfl zU zP ?_)
  refine VL.nil ?_
  refine VE.seq ?_
  refine VC.seq ?_
  refine VC.seq ?_
  refine VK.keep (by exact .cons (i := 1) rfl (.cons (i := 2) rfl (.cons (i := 3) rfl (.cons (i := 5) rfl ( .nil))))) ?_
  refine VC.region ?_
  refine VL.q (Q.fieldAddr fa50_0 rfl) ?_
  refine VL.q (Q.load1 ty5 rfl zM rfl) ?_
  refine VL.quietE (v' := .bool false) (by decide) (Q.eq rfl rfl) (by rfl) ?_
  refine VL.nil ?_
  refine VE.seq ?_
  refine VC.condF rfl ?_
  refine VC.skip ?_
  refine VE.seq ?_
  refine VC.seq ?_
  refine VC.seq ?_
  refine VC.region ?_
  refine VL.q (Q.fieldAddr fa90_1 rfl) ?_
  refine VL.q (Q.load1 ty4 rfl zM rfl) ?_
  refine VL.nil ?_
  refine VE.seq ?_
  refine VC.condF rfl ?_
  refine VC.skip ?_
  refine VE.seq ?_
  refine VC.seq ?_
  refine VC.seq ?_
  refine VC.region ?_
  refine VL.q (Q.fieldAddr fa90_2 rfl) ?_
  refine VL.q (Q.load1 ty4 rfl zM rfl) ?_
  refine VL.nil ?_
  refine VE.seq ?_
  refine VC.condF rfl ?_
  refine VC.skip ?_
  refine VE.seq ?_
  refine VC.seq ?_
  refine VC.region ?_
  refine VL.q (Q.assign rfl) ?_
  refine VL.nil ?_
  refine VE.seq ?_
  refine VC.seq ?_
  refine VC.region ?_
  refine VL.q (Q.move rfl) ?_
  refine VL.q (Q.fieldAddr fa50_9 rfl) ?_
  refine VL.q (Q.load1 ty3 rfl zM rfl) ?_
  refine VL.eff (O.call0 ok45 rfl rfl (by decide) (in_c _ _ (by omega)) (fun _ _ _ => trivial) ?_)
  intro x67 y67
  refine VL.q (Q.move rfl) ?_
  refine VL.yes rfl rfl ?_
  refine VL.q (Q.move rfl) ?_
  refine VL.yes rfl rfl ?_
  refine VL.q (Q.fieldAddr fa50_14 rfl) ?_
  refine VL.yes rfl rfl ?_
  refine VL.q (Q.load1 ty3 rfl zM rfl) ?_
  refine VL.yes rfl rfl ?_
  refine VL.eff (O.call0 ok45 rfl rfl (by decide) (in_c _ _ (by omega)) (fun _ _ _ => trivial) ?_)
  intro x72 y72
  refine VL.quietE (v' := .bool true) (by decide) (Q.pick_true rfl rfl) (by rfl) ?_
  refine VL.q (Q.move rfl) ?_
  refine VL.yes rfl rfl ?_
  refine VL.q (Q.move rfl) ?_
  refine VL.yes rfl rfl ?_
  refine VL.q (Q.fieldAddr fa50_15 rfl) ?_
  refine VL.yes rfl rfl ?_
  refine VL.q (Q.load1 ty3 rfl zM rfl) ?_
  refine VL.yes rfl rfl ?_
  refine VL.eff (O.call0 ok45 rfl rfl (by decide) (in_c _ _ (by omega)) (fun _ _ _ => trivial) ?_)
  intro x78 y78
  refine VL.quietE (v' := .bool true) (by decide) (Q.pick_true rfl rfl) (by rfl) ?_
  refine VL.q (Q.move rfl) ?_
  refine VL.yes rfl rfl ?_
  refine VL.q (Q.move rfl) ?_
  refine VL.yes rfl rfl ?_
  refine VL.q (Q.fieldAddr fa50_16 rfl) ?_
  refine VL.yes rfl rfl ?_
  refine VL.q (Q.load1 ty3 rfl zM rfl) ?_
  refine VL.yes rfl rfl ?_
  refine VL.eff (O.call0 ok45 rfl rfl (by decide) (in_c _ _ (by omega)) (fun _ _ _ => trivial) ?_)
  intro x84 y84
  refine VL.quietE (v' := .bool true) (by decide) (Q.pick_true rfl rfl) (by rfl) ?_
  refine VL.q (Q.move rfl) ?_
  refine VL.yes rfl rfl ?_
  refine VL.q (Q.fieldAddr fa50_17 rfl) ?_
  refine VL.yes rfl rfl ?_
  refine VL.q (Q.load1 ty5 rfl zM rfl) ?_
  refine VL.yes rfl rfl ?_
  refine VL.quietE (v' := .bool true) (by decide) (Q.le rfl rfl) (by rfl) ?_
  refine VL.quietE (v' := .bool true) (by decide) (Q.pick_true rfl rfl) (by rfl) ?_
  refine VL.q (Q.assign rfl) ?_
  refine VL.nil ?_
  refine VE.seq ?_
  refine VC.seq ?_
  refine VK.keep (by exact .cons (i := 1) rfl (.cons (i := 2) rfl (.cons (i := 5) rfl (.cons (i := 11) rfl ( .nil))))) ?_
  refine VC.region ?_
  refine VL.q (Q.fieldAddr fa50_4 rfl) ?_
  refine VL.q (Q.load1 ty4 rfl zM rfl) ?_
  refine VL.quietE (v' := .bool true) (by decide) (Q.not rfl) (by rfl) ?_
  refine VL.q (Q.move rfl) ?_
  refine VL.yes rfl rfl ?_
  refine VL.q (Q.fieldAddr fa50_15 rfl) ?_
  refine VL.yes rfl rfl ?_
  refine VL.q (Q.load1 ty3 rfl zM rfl) ?_
  refine VL.yes rfl rfl ?_
  refine VL.quietE (v' := .bool true) (by decide) (Q.eq rfl rfl) (by rfl) ?_
  refine VL.quietE (v' := .bool true) (by decide) (Q.pick_true rfl rfl) (by rfl) ?_
  refine VL.q (Q.assign rfl) ?_
  refine VL.nil ?_
  refine VE.seq ?_
  refine VC.seq ?_
  refine VC.region ?_
  refine VL.q (Q.fieldAddr fa50_11 rfl) ?_
  refine VL.q (Q.loadA ty43 rfl zM zS) ?_
  refine VL.eff (O.call0 ok46 rfl rfl (by decide) (group_st) (fun _ _ _ => trivial) ?_)
  intro x101 y101
  refine VL.quietE (v' := .bool true) (by decide) (Q.not rfl) (by rfl) ?_
  refine VL.q (Q.move rfl) ?_
  refine VL.yes rfl rfl ?_
  refine VL.q (Q.move rfl) ?_
  refine VL.yes rfl rfl ?_
  refine VL.q (Q.move rfl) ?_
  refine VL.no (by simp) rfl rfl (.inl rfl) ?_
  refine VL.no (by simp) rfl rfl (.inl rfl) ?_
  refine VL.no (by simp) rfl rfl (.inl rfl) ?_
  refine VL.no (by simp) rfl rfl (.inl rfl) ?_
  refine VL.yes rfl rfl ?_
  refine VL.quietE (v' := .bool true) (by decide) (Q.pick_true rfl rfl) (by rfl) ?_
  refine VL.quietE (v' := .bool true) (by decide) (Q.pick_true rfl rfl) (by rfl) ?_
  refine VL.q (Q.assign rfl) ?_
  refine VL.nil ?_
  refine VE.seq ?_
  refine VC.seq ?_
  refine VC.seq ?_
  refine VC.region ?_
  refine VL.q (Q.loadA ty50 rfl zM zS) ?_
  refine VL.q (Q.build lay50 zF) ?_
  refine VL.quietE (v' := .bool false) (by decide) (Q.neS flt50 (by decide) ty50 eg50 rfl rfl rfl rfl) (by rfl) ?_
  refine VL.q (Q.move rfl) ?_
  refine VL.yes rfl rfl ?_
  refine VL.q (Q.move rfl) ?_
  refine VL.yes rfl rfl ?_
  refine VL.quietE (v' := .bool false) (by decide) (Q.not rfl) (by rfl) ?_
  refine VL.quietE (v' := .bool false) (by decide) (Q.pick_false rfl rfl) (by rfl) ?_
  refine VL.q (Q.move rfl) ?_
  refine VL.yes rfl rfl ?_
  refine VL.q (Q.move rfl) ?_
  refine VL.yes rfl rfl ?_
  refine VL.quietE (v' := .bool false) (by decide) (Q.not rfl) (by rfl) ?_
  refine VL.quietE (v' := .bool false) (by decide) (Q.pick_false rfl rfl) (by rfl) ?_
  refine VL.q (Q.move rfl) ?_
  refine VL.yes rfl rfl ?_
  refine VL.q (Q.loadA ty50 rfl zM zS) ?_
  refine VL.yes rfl rfl ?_
  refine VL.eff (O.call0 ok47 rfl rfl (by decide) (null_rts D) (fun _ _ _ => trivial) ?_)
  intro x125 y125
  refine VL.yes rfl rfl ?_
  refine VL.q (Q.move rfl) ?_
  refine VL.no (by simp) rfl rfl (.inl rfl) ?_
  refine VL.no (by simp) rfl rfl (.inl rfl) ?_
  refine VL.no (by simp) rfl rfl (.inl rfl) ?_
  refine VL.no (by simp) rfl rfl (.inr rfl) ?_
  refine VL.no (by simp) rfl rfl (.inr rfl) ?_
  refine VL.no (by simp) rfl rfl (.inl rfl) ?_
  refine VL.no (by simp) rfl rfl (.inl rfl) ?_
  refine VL.no (by simp) rfl rfl (.inr rfl) ?_
  refine VL.no (by simp) rfl rfl (.inr rfl) ?_
  refine VL.no (by simp) rfl rfl (.inl rfl) ?_
  refine VL.yes rfl rfl ?_
  refine VL.quietE (v' := .bool false) (by decide) (Q.pick_false rfl rfl) (by rfl) ?_
  refine VL.quietE (v' := .bool false) (by decide) (Q.pick_false rfl rfl) (by rfl) ?_
  refine VL.nil ?_
  refine VE.seq ?_
  refine VC.condF rfl ?_
  refine VC.skip ?_
  refine VE.seq ?_
  refine VC.seq ?_
  refine VK.keep (by exact .cons (i := 2) rfl ( .nil)) ?_
  refine VC.region ?_
  refine VL.q (Q.assign rfl) ?_
  refine VL.nil ?_
  refine VE.seq ?_
  refine VC.ret ?_
  refine VE.ret rfl (.tmp rfl .nil) () ?_ ?_ (List.nil_sublist _)
  · trivial
  · first | rfl | (exfalso; simp at *; omega)

theorem check_cts (D : Nat) (hD : D ≤ 32767) :
    Does Tryd.prog 28 [.agg #[.int .u8 1, .int .u8 12, .bool false, .bool false, .bool false, .bool false, .bool false, .bool false, .bool false, .int .i64 (D : Int), .int .u8 2, .int .u8 0, .int .u8 0, .int .u8 0, .int .u8 0, .int .u8 2, .int .u8 0, .int .u8 0, .int .u8 0, .int .u8 0, .int .u8 0, .int .u8 0, .int .u8 0, .int .u8 0, .int .u8 0, .int .u8 0, .int .u8 0, .int .u8 0, .int .u8 0, .int .u8 0, .int .u8 0, .int .u8 0, .int .u8 0, .int .u8 0, .int .i64 0, .int .i64 0, .int .i64 0, .int .u8 0, .bool false, .bool false]] [] (fun _ => True) (X := Unit) (fun _ => True) (fun _ => .int .i64 0) (fun _ => []) := by
  refine Does.enter Tryd.func28 rfl (m := 139) rfl (by simp) ?_
  intro W0 hro
  refine VC.seq ?_
  refine VC.region ?_
  refine VL.eff (O.box rfl rfl (by decide) ?_)
  intro g1
  refine VL.q (Q.assign rfl) ?_
  refine VL.nil ?_
  refine VE.seq ?_
  refine VC.seq ?_
  refine VC.region ?_
  refine VL.q (Q.fieldAddr fa50_0 rfl) ?_
  refine VL.q (Q.load1 ty5 rfl zM rfl) ?_
  refine VL.q (Q.fieldAddr fa50_1 rfl) ?_
  refine VL.q (Q.load1 ty5 rfl zM rfl) ?_
  refine VL.eff (O.call0 ok34 rfl rfl (by decide) (known_cts) (fun _ _ _ => trivial) ?_)
  intro x19 y19
  refine VL.q (Q.move rfl) ?_
  refine VL.q (Q.extract rfl rfl) ?_
  refine VL.q (Q.extract rfl rfl) ?_
  refine VL.eff (O.alloc zo90 (by decide) ?_)
  intro g3
  refine VL.eff (O.store ty90 rfl rfl rfl rfl zU zP ?_)
  refine VL.q (Q.assign rfl) ?_
  refine VL.nil ?_
  refine VE.seq ?_
  refine VC.seq ?_
  refine VC.seq ?_
  refine VC.region ?_
  refine VL.q (Q.move rfl) ?_
  refine VL.quietE (v' := .bool false) (by decide) (Q.not rfl) (by rfl) ?_
  refine VL.nil ?_
  refine VE.seq ?_
  refine VC.condF rfl ?_
  refine VC.skip ?_
  refine VE.seq ?_
  refine VC.seq ?_
  refine VC.region ?_
  refine VL.q (Q.loadA ty50 rfl zM zS) ?_
  refine VL.eff (O.alloc zo50 (by decide) ?_)
  intro g5
  refine VL.eff (O.store ty50 rfl rfl rfl rfl zU zP ?_)
  refine VL.nil ?_
  refine VE.seq ?_
  refine VC.seq ?_
  refine VC.region ?_
  refine VL.eff (O.call0 ok36 rfl rfl (by decide) (places_cts _) (fun _ _ hw => Rd.seg hw zM zS) ?_)
  intro x26 y26
  refine VL.q (Q.move rfl) ?_
  refine VL.q (Q.extract rfl rfl) ?_
  refine VL.q (Q.extract rfl rfl) ?_
  refine VL.q (Q.assign rfl) ?_
  refine VL.q (Q.assign rfl) ?_
  refine VL.nil ?_
  refine VE.seq ?_
  refine VC.seq ?_
  refine VC.seq ?_
  refine VC.region ?_
  refine VL.q (Q.move rfl) ?_
  refine VL.q (Q.move rfl) ?_
  refine VL.q (Q.append0 sl93 rfl rfl (by omega)) ?_
  refine VL.q (Q.len sl93 rfl) ?_
  refine VL.q (Q.move rfl) ?_
  refine VL.nil ?_
  refine VE.seq ?_
  refine VC.block ?_
  refine VC.rounds 40 ?_
  refine VC.rnd (m := 39) ?_
  refine VC.seq ?_
  refine VC.region ?_
  refine VL.q (Q.lt rfl rfl) ?_
  refine VL.nil ?_
  refine VE.seq ?_
  refine VC.seq ?_
  refine VC.condT rfl ?_
  refine VC.skip ?_
  refine VE.seq ?_
  refine VC.seq ?_
  refine VC.block ?_
  refine VC.seq ?_
  refine VC.region ?_
  refine VL.q (Q.indexAddr sl93 (j := 0) rfl rfl rfl (by omega)) ?_
  refine VL.q (Q.load1 ty97 rfl zM rfl) ?_
  refine VL.q (Q.assign rfl) ?_
  refine VL.nil ?_
  refine VE.seq ?_
  refine VC.region ?_
  refine VL.q (Q.move rfl) ?_
  refine VL.q (Q.build lay43 zF) ?_
  refine VL.q (Q.nilCheck rfl) ?_
  refine VL.eff (O.store ty43 rfl rfl rfl rfl zU zP ?_)
  refine VL.nil ?_
  refine VE.block_normal ?_
  refine VE.seq ?_
  refine VC.region ?_
  refine VL.quietE (v' := .int .i64 1) (by decide) ((by first | exact Q.addI rfl rfl (by omega) (by omega) | exact Q.add rfl rfl)) (by rfl) ?_
  refine VL.q (Q.move rfl) ?_
  refine VL.nil ?_
  refine VE.then_normal ?_
  refine VC.rnd (m := 38) ?_
  refine VC.seq ?_
  refine VC.region ?_
  refine VL.q (Q.lt rfl rfl) ?_
  refine VL.nil ?_
  refine VE.seq ?_
  refine VC.seq ?_
  refine VC.condF rfl ?_
  refine VC.exit ?_
  refine VE.then_exit ?_
  refine VE.then_exit ?_
  refine VE.block_here ?_
  refine VE.seq ?_
  refine VC.seq ?_
  refine VC.region ?_
  refine VL.q (Q.fieldAddr fa50_0 rfl) ?_
  refine VL.eff (O.store ty5 rfl rfl rfl rfl zU zP ?_)
  refine VL.q (Q.fieldAddr fa50_1 rfl) ?_
  refine VL.eff (O.store ty5 rfl rfl rfl rfl zU zP ?_)
  refine VL.q (Q.fieldAddr fa50_6 rfl) ?_
  refine VL.eff (O.store ty4 rfl rfl rfl rfl zU zP ?_)
  refine VL.q (Q.fieldAddr fa50_7 rfl) ?_
  refine VL.eff (O.store ty4 rfl rfl rfl rfl zU zP ?_)
  refine VL.q (Q.fieldAddr fa50_9 rfl) ?_
  refine VL.eff (O.store ty3 rfl rfl rfl rfl zU zP ?_)
  refine VL.nil ?_
  refine VE.seq ?_
  refine VC.seq ?_
  refine VC.seq ?_
  refine VK.keep (by exact .cons (i := 1) rfl (.cons (i := 2) rfl (.cons (i := 3) rfl (.cons (i := 5) rfl ( .nil))))) ?_
  refine VC.region ?_
  refine VL.q (Q.fieldAddr fa50_0 rfl) ?_
  refine VL.q (Q.load1 ty5 rfl zM rfl) ?_
  refine VL.quietE (v' := .bool false) (by decide) (Q.eq rfl rfl) (by rfl) ?_
  refine VL.nil ?_
  refine VE.seq ?_
  refine VC.condF rfl ?_
  refine VC.skip ?_
  refine VE.seq ?_
  refine VC.seq ?_
  refine VC.seq ?_
  refine VC.region ?_
  refine VL.q (Q.fieldAddr fa90_1 rfl) ?_
  refine VL.q (Q.load1 ty4 rfl zM rfl) ?_
  refine VL.nil ?_
  refine VE.seq ?_
  refine VC.condF rfl ?_
  refine VC.skip ?_
  refine VE.seq ?_
  refine VC.seq ?_
  refine VC.seq ?_
  refine VC.region ?_
  refine VL.q (Q.fieldAddr fa90_2 rfl) ?_
  refine VL.q (Q.load1 ty4 rfl zM rfl) ?_
  refine VL.nil ?_
  refine VE.seq ?_
  refine VC.condF rfl ?_
  refine VC.skip ?_
  refine VE.seq ?_
  refine VC.seq ?_
  refine VC.region ?_
  refine VL.q (Q.assign rfl) ?_
  refine VL.nil ?_
  refine VE.seq ?_
  refine VC.seq ?_
  refine VC.region ?_
  refine VL.q (Q.move rfl) ?_
  refine VL.q (Q.fieldAddr fa50_9 rfl) ?_
  refine VL.q (Q.load1 ty3 rfl zM rfl) ?_
  refine VL.eff (O.call0 ok45 rfl rfl (by decide) (in_c _ _ (by omega)) (fun _ _ _ => trivial) ?_)
  intro x67 y67
  refine VL.q (Q.move rfl) ?_
  refine VL.yes rfl rfl ?_
  refine VL.q (Q.move rfl) ?_
  refine VL.yes rfl rfl ?_
  refine VL.q (Q.fieldAddr fa50_14 rfl) ?_
  refine VL.yes rfl rfl ?_
  refine VL.q (Q.load1 ty3 rfl zM rfl) ?_
  refine VL.yes rfl rfl ?_
  refine VL.eff (O.call0 ok45 rfl rfl (by decide) (in_c _ _ (by omega)) (fun _ _ _ => trivial) ?_)
  intro x72 y72
  refine VL.quietE (v' := .bool true) (by decide) (Q.pick_true rfl rfl) (by rfl) ?_
  refine VL.q (Q.move rfl) ?_
  refine VL.yes rfl rfl ?_
  refine VL.q (Q.move rfl) ?_
  refine VL.yes rfl rfl ?_
  refine VL.q (Q.fieldAddr fa50_15 rfl) ?_
  refine VL.yes rfl rfl ?_
  refine VL.q (Q.load1 ty3 rfl zM rfl) ?_
  refine VL.yes rfl rfl ?_
  refine VL.eff (O.call0 ok45 rfl rfl (by decide) (in_c _ _ (by omega)) (fun _ _ _ => trivial) ?_)
  intro x78 y78
  refine VL.quietE (v' := .bool true) (by decide) (Q.pick_true rfl rfl) (by rfl) ?_
  refine VL.q (Q.move rfl) ?_
  refine VL.yes rfl rfl ?_
  refine VL.q (Q.move rfl) ?_
  refine VL.yes rfl rfl ?_
  refine VL.q (Q.fieldAddr fa50_16 rfl) ?_
  refine VL.yes rfl rfl ?_
  refine VL.q (Q.load1 ty3 rfl zM rfl) ?_
  refine VL.yes rfl rfl ?_
  refine VL.eff (O.call0 ok45 rfl rfl (by decide) (in_c _ _ (by omega)) (fun _ _ _ => trivial) ?_)
  intro x84 y84
  refine VL.quietE (v' := .bool true) (by decide) (Q.pick_true rfl rfl) (by rfl) ?_
  refine VL.q (Q.move rfl) ?_
  refine VL.yes rfl rfl ?_
  refine VL.q (Q.fieldAddr fa50_17 rfl) ?_
  refine VL.yes rfl rfl ?_
  refine VL.q (Q.load1 ty5 rfl zM rfl) ?_
  refine VL.yes rfl rfl ?_
  refine VL.quietE (v' := .bool true) (by decide) (Q.le rfl rfl) (by rfl) ?_
  refine VL.quietE (v' := .bool true) (by decide) (Q.pick_true rfl rfl) (by rfl) ?_
  refine VL.q (Q.assign rfl) ?_
  refine VL.nil ?_
  refine VE.seq ?_
  refine VC.seq ?_
  refine VK.keep (by exact .cons (i := 1) rfl (.cons (i := 2) rfl (.cons (i := 5) rfl (.cons (i := 11) rfl ( .nil))))) ?_
  refine VC.region ?_
  refine VL.q (Q.fieldAddr fa50_4 rfl) ?_
  refine VL.q (Q.load1 ty4 rfl zM rfl) ?_
  refine VL.quietE (v' := .bool true) (by decide) (Q.not rfl) (by rfl) ?_
  refine VL.q (Q.move rfl) ?_
  refine VL.yes rfl rfl ?_
  refine VL.q (Q.fieldAddr fa50_15 rfl) ?_
  refine VL.yes rfl rfl ?_
  refine VL.q (Q.load1 ty3 rfl zM rfl) ?_
  refine VL.yes rfl rfl ?_
  refine VL.quietE (v' := .bool true) (by decide) (Q.eq rfl rfl) (by rfl) ?_
  refine VL.quietE (v' := .bool true) (by decide) (Q.pick_true rfl rfl) (by rfl) ?_
  refine VL.q (Q.assign rfl) ?_
  refine VL.nil ?_
  refine VE.seq ?_
  refine VC.seq ?_
  refine VC.region ?_
  refine VL.q (Q.fieldAddr fa50_11 rfl) ?_
  refine VL.q (Q.loadA ty43 rfl zM zS) ?_
  refine VL.eff (O.call0 ok46 rfl rfl (by decide) (group_no) (fun _ _ _ => trivial) ?_)
  intro x101 y101
  refine VL.quietE (v' := .bool true) (by decide) (Q.not rfl) (by rfl) ?_
  refine VL.q (Q.move rfl) ?_
  refine VL.yes rfl rfl ?_
  refine VL.q (Q.move rfl) ?_
  refine VL.yes rfl rfl ?_
  refine VL.q (Q.move rfl) ?_
  refine VL.no (by simp) rfl rfl (.inl rfl) ?_
  refine VL.no (by simp) rfl rfl (.inl rfl) ?_
  refine VL.no (by simp) rfl rfl (.inl rfl) ?_
  refine VL.no (by simp) rfl rfl (.inl rfl) ?_
  refine VL.yes rfl rfl ?_
  refine VL.quietE (v' := .bool true) (by decide) (Q.pick_true rfl rfl) (by rfl) ?_
  refine VL.quietE (v' := .bool true) (by decide) (Q.pick_true rfl rfl) (by rfl) ?_
  refine VL.q (Q.assign rfl) ?_
  refine VL.nil ?_
  refine VE.seq ?_
  refine VC.seq ?_
  refine VC.seq ?_
  refine VC.region ?_
  refine VL.q (Q.loadA ty50 rfl zM zS) ?_
  refine VL.q (Q.build lay50 zF) ?_
  refine VL.quietE (v' := .bool false) (by decide) (Q.neS flt50 (by decide) ty50 eg50 rfl rfl rfl rfl) (by rfl) ?_
  refine VL.q (Q.move rfl) ?_
  refine VL.yes rfl rfl ?_
  refine VL.q (Q.move rfl) ?_
  refine VL.yes rfl rfl ?_
  refine VL.quietE (v' := .bool false) (by decide) (Q.not rfl) (by rfl) ?_
  refine VL.quietE (v' := .bool false) (by decide) (Q.pick_false rfl rfl) (by rfl) ?_
  refine VL.q (Q.move rfl) ?_
  refine VL.yes rfl rfl ?_
  refine VL.q (Q.move rfl) ?_
  refine VL.yes rfl rfl ?_
  refine VL.quietE (v' := .bool false) (by decide) (Q.not rfl) (by rfl) ?_
  refine VL.quietE (v' := .bool false) (by decide) (Q.pick_false rfl rfl) (by rfl) ?_
  refine VL.q (Q.move rfl) ?_
  refine VL.yes rfl rfl ?_
  refine VL.q (Q.loadA ty50 rfl zM zS) ?_
  refine VL.yes rfl rfl ?_
  refine VL.eff (O.call0 ok47 rfl rfl (by decide) (null_cts D) (fun _ _ _ => trivial) ?_)
  intro x125 y125
  refine VL.yes rfl rfl ?_
  refine VL.q (Q.move rfl) ?_
  refine VL.no (by simp) rfl rfl (.inl rfl) ?_
  refine VL.no (by simp) rfl rfl (.inl rfl) ?_
  refine VL.no (by simp) rfl rfl (.inl rfl) ?_
  refine VL.no (by simp) rfl rfl (.inr rfl) ?_
  refine VL.no (by simp) rfl rfl (.inr rfl) ?_
  refine VL.no (by simp) rfl rfl (.inl rfl) ?_
  refine VL.no (by simp) rfl rfl (.inl rfl) ?_
  refine VL.no (by simp) rfl rfl (.inr rfl) ?_
  refine VL.no (by simp) rfl rfl (.inr rfl) ?_
  refine VL.no (by simp) rfl rfl (.inl rfl) ?_
  refine VL.yes rfl rfl ?_
  refine VL.quietE (v' := .bool false) (by decide) (Q.pick_false rfl rfl) (by rfl) ?_
  refine VL.quietE (v' := .bool false) (by decide) (Q.pick_false rfl rfl) (by rfl) ?_
  refine VL.nil ?_
  refine VE.seq ?_
  refine VC.condF rfl ?_
  refine VC.skip ?_
  refine VE.seq ?_
  refine VC.seq ?_
  refine VK.keep (by exact .cons (i := 2) rfl ( .nil)) ?_
  refine VC.region ?_
  refine VL.q (Q.assign rfl) ?_
  refine VL.nil ?_
  refine VE.seq ?_
  refine VC.ret ?_
  refine VE.ret rfl (.tmp rfl .nil) () ?_ ?_ (List.nil_sublist _)
  · trivial
  · first | rfl | (exfalso; simp at *; omega)

theorem check_data (D : Nat) (hD : D ≤ 32767) :
    Does Tryd.prog 28 [.agg #[.int .u8 2, .int .u8 8, .bool false, .bool false, .bool false, .bool false, .bool false, .bool false, .bool false, .int .i64 (D : Int), .int .u8 2, .int .u8 0, .int .u8 0, .int .u8 0, .int .u8 0, .int .u8 1, .int .u8 2, .int .u8 0, .int .u8 0, .int .u8 0, .int .u8 0, .int .u8 2, .int .u8 0, .int .u8 0, .int .u8 0, .int .u8 0, .int .u8 0, .int .u8 0, .int .u8 0, .int .u8 0, .int .u8 0, .int .u8 0, .int .u8 0, .int .u8 0, .int .i64 0, .int .i64 0, .int .i64 0, .int .u8 0, .bool false, .bool false]] [] (fun _ => True) (X := Unit) (fun _ => True) (fun _ => .int .i64 0) (fun _ => []) := by
  refine Does.enter Tryd.func28 rfl (m := 139) rfl (by simp) ?_
  intro W0 hro
  refine VC.seq ?_
  refine VC.region ?_
  refine VL.eff (O.box rfl rfl (by decide) ?_)
  intro g1
  refine VL.q (Q.assign rfl) ?_
  refine VL.nil ?_
  refine VE.seq ?_
  refine VC.seq ?_
  refine VC.region ?_
  refine VL.q (Q.fieldAddr fa50_0 rfl) ?_
  refine VL.q (Q.load1 ty5 rfl zM rfl) ?_
  refine VL.q (Q.fieldAddr fa50_1 rfl) ?_
  refine VL.q (Q.load1 ty5 rfl zM rfl) ?_
  refine VL.eff (O.call0 ok34 rfl rfl (by decide) (known_data) (fun _ _ _ => trivial) ?_)
  intro x19 y19
  refine VL.q (Q.move rfl) ?_
  refine VL.q (Q.extract rfl rfl) ?_
  refine VL.q (Q.extract rfl rfl) ?_
  refine VL.eff (O.alloc zo90 (by decide) ?_)
  intro g3
  refine VL.eff (O.store ty90 rfl rfl rfl rfl zU zP ?_)
  refine VL.q (Q.assign rfl) ?_
  refine VL.nil ?_
  refine VE.seq ?_
  refine VC.seq ?_
  refine VC.seq ?_
  refine VC.region ?_
  refine VL.q (Q.move rfl) ?_
  refine VL.quietE (v' := .bool false) (by decide) (Q.not rfl) (by rfl) ?_
  refine VL.nil ?_
  refine VE.seq ?_
  refine VC.condF rfl ?_
  refine VC.skip ?_
  refine VE.seq ?_
  refine VC.seq ?_
  refine VC.region ?_
  refine VL.q (Q.loadA ty50 rfl zM zS) ?_
  refine VL.eff (O.alloc zo50 (by decide) ?_)
  intro g5
  refine VL.eff (O.store ty50 rfl rfl rfl rfl zU zP ?_)
  refine VL.nil ?_
  refine VE.seq ?_
  refine VC.seq ?_
  refine VC.region ?_
  refine VL.eff (O.call0 ok36 rfl rfl (by decide) (places_data _) (fun _ _ hw => Rd.seg hw zM zS) ?_)
  intro x26 y26
  refine VL.q (Q.move rfl) ?_
  refine VL.q (Q.extract rfl rfl) ?_
  refine VL.q (Q.extract rfl rfl) ?_
  refine VL.q (Q.assign rfl) ?_
  refine VL.q (Q.assign rfl) ?_
  refine VL.nil ?_
  refine VE.seq ?_
  refine VC.seq ?_
  refine VC.seq ?_
  refine VC.region ?_
  refine VL.q (Q.move rfl) ?_
  refine VL.q (Q.move rfl) ?_
  refine VL.q (Q.append0 sl93 rfl rfl (by omega)) ?_
  refine VL.q (Q.len sl93 rfl) ?_
  refine VL.q (Q.move rfl) ?_
  refine VL.nil ?_
  refine VE.seq ?_
  refine VC.block ?_
  refine VC.rounds 40 ?_
  refine VC.rnd (m := 39) ?_
  refine VC.seq ?_
  refine VC.region ?_
  refine VL.q (Q.lt rfl rfl) ?_
  refine VL.nil ?_
  refine VE.seq ?_
  refine VC.seq ?_
  refine VC.condT rfl ?_
  refine VC.skip ?_
  refine VE.seq ?_
  refine VC.seq ?_
  refine VC.block ?_
  refine VC.seq ?_
  refine VC.region ?_
  refine VL.q (Q.indexAddr sl93 (j := 0) rfl rfl rfl (by omega)) ?_
  refine VL.q (Q.load1 ty97 rfl zM rfl) ?_
  refine VL.q (Q.assign rfl) ?_
  refine VL.nil ?_
  refine VE.seq ?_
  refine VC.region ?_
  refine VL.q (Q.move rfl) ?_
  refine VL.q (Q.build lay43 zF) ?_
  refine VL.q (Q.nilCheck rfl) ?_
  refine VL.eff (O.store ty43 rfl rfl rfl rfl zU zP ?_)
  refine VL.nil ?_
  refine VE.block_normal ?_
  refine VE.seq ?_
  refine VC.region ?_
  refine VL.quietE (v' := .int .i64 1) (by decide) ((by first | exact Q.addI rfl rfl (by omega) (by omega) | exact Q.add rfl rfl)) (by rfl) ?_
  refine VL.q (Q.move rfl) ?_
  refine VL.nil ?_
  refine VE.then_normal ?_
  refine VC.rnd (m := 38) ?_
  refine VC.seq ?_
  refine VC.region ?_
  refine VL.q (Q.lt rfl rfl) ?_
  refine VL.nil ?_
  refine VE.seq ?_
  refine VC.seq ?_
  refine VC.condT rfl ?_
  refine VC.skip ?_
  refine VE.seq ?_
  refine VC.seq ?_
  refine VC.block ?_
  refine VC.seq ?_
  refine VC.region ?_
  refine VL.q (Q.indexAddr sl93 (j := 1) rfl rfl rfl (by omega)) ?_
  refine VL.q (Q.load1 ty97 rfl zM rfl) ?_
  refine VL.q (Q.assign rfl) ?_
  refine VL.nil ?_
  refine VE.seq ?_
  refine VC.region ?_
  refine VL.q (Q.move rfl) ?_
  refine VL.q (Q.build lay43 zF) ?_
  refine VL.q (Q.nilCheck rfl) ?_
  refine VL.eff (O.store ty43 rfl rfl rfl rfl zU zP ?_)
  refine VL.nil ?_
  refine VE.block_normal ?_
  refine VE.seq ?_
  refine VC.region ?_
  refine VL.quietE (v' := .int .i64 2) (by decide) ((by first | exact Q.addI rfl rfl (by omega) (by omega) | exact Q.add rfl rfl)) (by rfl) ?_
  refine VL.q (Q.move rfl) ?_
  refine VL.nil ?_
  refine VE.then_normal ?_
  refine VC.rnd (m := 37) ?_
  refine VC.seq ?_
  refine VC.region ?_
  refine VL.q (Q.lt rfl rfl) ?_
  refine VL.nil ?_
  refine VE.seq ?_
  refine VC.seq ?_
  refine VC.condT rfl ?_
  refine VC.skip ?_
  refine VE.seq ?_
  refine VC.seq ?_
  refine VC.block ?_
  refine VC.seq ?_
  refine VC.region ?_
  refine VL.q (Q.indexAddr sl93 (j := 2) rfl rfl rfl (by omega)) ?_
  refine VL.q (Q.load1 ty97 rfl zM rfl) ?_
  refine VL.q (Q.assign rfl) ?_
  refine VL.nil ?_
  refine VE.seq ?_
  refine VC.region ?_
  refine VL.q (Q.move rfl) ?_
  refine VL.q (Q.build lay43 zF) ?_
  refine VL.q (Q.nilCheck rfl) ?_
  refine VL.eff (O.store ty43 rfl rfl rfl rfl zU zP ?_)
  refine VL.nil ?_
  refine VE.block_normal ?_
  refine VE.seq ?_
  refine VC.region ?_
  refine VL.quietE (v' := .int .i64 3) (by decide) ((by first | exact Q.addI rfl rfl (by omega) (by omega) | exact Q.add rfl rfl)) (by rfl) ?_
  refine VL.q (Q.move rfl) ?_
  refine VL.nil ?_
  refine VE.then_normal ?_
  refine VC.rnd (m := 36) ?_
  refine VC.seq ?_
  refine VC.region ?_
  refine VL.q (Q.lt rfl rfl) ?_
  refine VL.nil ?_
  refine VE.seq ?_
  refine VC.seq ?_
  refine VC.condF rfl ?_
  refine VC.exit ?_
  refine VE.then_exit ?_
  refine VE.then_exit ?_
  refine VE.block_here ?_
  refine VE.seq ?_
  refine VC.seq ?_
  refine VC.region ?_
  refine VL.q (Q.fieldAddr fa50_0 rfl) ?_
  refine VL.eff (O.store ty5 rfl rfl rfl rfl zU zP ?_)
  refine VL.q (Q.fieldAddr fa50_1 rfl) ?_
  refine VL.eff (O.store ty5 rfl rfl rfl rfl zU zP ?_)
  refine VL.q (Q.fieldAddr fa50_6 rfl) ?_
  refine VL.eff (O.store ty4 rfl rfl rfl rfl zU zP ?_)
  refine VL.q (Q.fieldAddr fa50_7 rfl) ?_
  refine VL.eff (O.store ty4 rfl rfl rfl rfl zU zP ?_)
  refine VL.q (Q.fieldAddr fa50_9 rfl) ?_
  refine VL.eff (O.store ty3 rfl rfl rfl rfl zU zP ?_)
  refine VL.nil ?_
  refine VE.seq ?_
  refine VC.seq ?_
  refine VC.seq ?_
  refine VK.keep (by exact .cons (i := 1) rfl (.cons (i := 2) rfl (.cons (i := 3) rfl (.cons (i := 5) rfl ( .nil))))) ?_
  refine VC.region ?_
  refine VL.q (Q.fieldAddr fa50_0 rfl) ?_
  refine VL.q (Q.load1 ty5 rfl zM rfl) ?_
  refine VL.quietE (v' := .bool true) (by decide) (Q.eq rfl rfl) (by rfl) ?_
  refine VL.nil ?_
  refine VE.seq ?_
  refine VC.condT rfl ?_
  refine VC.region ?_
  refine VL.q (Q.fieldAddr fa50_2 rfl) ?_
  refine VL.eff (O.store ty4 rfl rfl rfl rfl zU zP ?_)
  refine VL.q (Q.fieldAddr fa50_3 rfl) ?_
  refine VL.eff (O.store ty4 rfl rfl rfl rfl zU zP ?_)
  refine VL.nil ?_
  refine VE.seq ?_
  refine VC.seq ?_
  refine VC.seq ?_
  refine VC.region ?_
  refine VL.q (Q.fieldAddr fa90_1 rfl) ?_
  refine VL.q (Q.load1 ty4 rfl zM rfl) ?_
  refine VL.nil ?_
  refine VE.seq ?_
  refine VC.condT rfl ?_
  refine VC.region ?_
  refine VL.q (Q.fieldAddr fa50_4 rfl) ?_
  refine VL.eff (O.store ty4 rfl rfl rfl rfl zU zP ?_)
  refine VL.q (Q.fieldAddr fa50_5 rfl) ?_
  refine VL.eff (O.store ty4 rfl rfl rfl rfl zU zP ?_)
  refine VL.q (Q.fieldAddr fa50_8 rfl) ?_
  refine VL.eff (O.store ty4 rfl rfl rfl rfl zU zP ?_)
  refine VL.q (Q.fieldAddr fa50_14 rfl) ?_
  refine VL.eff (O.store ty3 rfl rfl rfl rfl zU zP ?_)
  refine VL.q (Q.fieldAddr fa50_15 rfl) ?_
  refine VL.eff (O.store ty3 rfl rfl rfl rfl zU zP ?_)
  refine VL.nil ?_
  refine VE.seq ?_
  refine VC.seq ?_
  refine VC.seq ?_
  refine VC.region ?_
  refine VL.q (Q.fieldAddr fa90_2 rfl) ?_
  refine VL.q (Q.load1 ty4 rfl zM rfl) ?_
  refine VL.nil ?_
  refine VE.seq ?_
  refine VC.condT rfl ?_
  refine VC.region ?_
  refine VL.q (Q.fieldAddr fa50_16 rfl) ?_
  refine VL.eff (O.store ty3 rfl rfl rfl rfl zU zP ?_)
  refine VL.q (Q.fieldAddr fa50_17 rfl) ?_
  refine VL.eff (O.store ty5 rfl rfl rfl rfl zU zP ?_)
  refine VL.q (Q.fieldAddr fa50_18 rfl) ?_
  refine VL.eff (O.store ty4 rfl rfl rfl rfl zU zP ?_)
  refine VL.q (Q.fieldAddr fa50_19 rfl) ?_
  refine VL.eff (O.store ty4 rfl rfl rfl rfl zU zP ?_)
  refine VL.nil ?_
  refine VE.seq ?_
  refine VC.seq ?_
  refine VC.region ?_
  refine VL.q (Q.assign rfl) ?_
  refine VL.nil ?_
  refine VE.seq ?_
  refine VC.seq ?_
  refine VC.region ?_
  refine VL.q (Q.move rfl) ?_
  refine VL.q (Q.fieldAddr fa50_9 rfl) ?_
  refine VL.q (Q.load1 ty3 rfl zM rfl) ?_
  refine VL.eff (O.call0 ok45 rfl rfl (by decide) (in_c _ _ (by omega)) (fun _ _ _ => trivial) ?_)
  intro x67 y67
  refine VL.q (Q.move rfl) ?_
  refine VL.yes rfl rfl ?_
  refine VL.q (Q.move rfl) ?_
  refine VL.yes rfl rfl ?_
  refine VL.q (Q.fieldAddr fa50_14 rfl) ?_
  refine VL.yes rfl rfl ?_
  refine VL.q (Q.load1 ty3 rfl zM rfl) ?_
  refine VL.yes rfl rfl ?_
  refine VL.eff (O.call0 ok45 rfl rfl (by decide) (in_c _ _ (by omega)) (fun _ _ _ => trivial) ?_)
  intro x72 y72
  refine VL.quietE (v' := .bool true) (by decide) (Q.pick_true rfl rfl) (by rfl) ?_
  refine VL.q (Q.move rfl) ?_
  refine VL.yes rfl rfl ?_
  refine VL.q (Q.move rfl) ?_
  refine VL.yes rfl rfl ?_
  refine VL.q (Q.fieldAddr fa50_15 rfl) ?_
  refine VL.yes rfl rfl ?_
  refine VL.q (Q.load1 ty3 rfl zM rfl) ?_
  refine VL.yes rfl rfl ?_
  refine VL.eff (O.call0 ok45 rfl rfl (by decide) (in_c _ _ (by omega)) (fun _ _ _ => trivial) ?_)
  intro x78 y78
  refine VL.quietE (v' := .bool true) (by decide) (Q.pick_true rfl rfl) (by rfl) ?_
  refine VL.q (Q.move rfl) ?_
  refine VL.yes rfl rfl ?_
  refine VL.q (Q.move rfl) ?_
  refine VL.yes rfl rfl ?_
  refine VL.q (Q.fieldAddr fa50_16 rfl) ?_
  refine VL.yes rfl rfl ?_
  refine VL.q (Q.load1 ty3 rfl zM rfl) ?_
  refine VL.yes rfl rfl ?_
  refine VL.eff (O.call0 ok45 rfl rfl (by decide) (in_c _ _ (by omega)) (fun _ _ _ => trivial) ?_)
  intro x84 y84
  refine VL.quietE (v' := .bool true) (by decide) (Q.pick_true rfl rfl) (by rfl) ?_
  refine VL.q (Q.move rfl) ?_
  refine VL.yes rfl rfl ?_
  refine VL.q (Q.fieldAddr fa50_17 rfl) ?_
  refine VL.yes rfl rfl ?_
  refine VL.q (Q.load1 ty5 rfl zM rfl) ?_
  refine VL.yes rfl rfl ?_
  refine VL.quietE (v' := .bool true) (by decide) (Q.le rfl rfl) (by rfl) ?_
  refine VL.quietE (v' := .bool true) (by decide) (Q.pick_true rfl rfl) (by rfl) ?_
  refine VL.q (Q.assign rfl) ?_
  refine VL.nil ?_
  refine VE.seq ?_
  refine VC.seq ?_
  refine VK.keep (by exact .cons (i := 1) rfl (.cons (i := 2) rfl (.cons (i := 5) rfl (.cons (i := 11) rfl ( .nil))))) ?_
  refine VC.region ?_
  refine VL.q (Q.fieldAddr fa50_4 rfl) ?_
  refine VL.q (Q.load1 ty4 rfl zM rfl) ?_
  refine VL.quietE (v' := .bool true) (by decide) (Q.not rfl) (by rfl) ?_
  refine VL.q (Q.move rfl) ?_
  refine VL.yes rfl rfl ?_
  refine VL.q (Q.fieldAddr fa50_15 rfl) ?_
  refine VL.yes rfl rfl ?_
  refine VL.q (Q.load1 ty3 rfl zM rfl) ?_
  refine VL.yes rfl rfl ?_
  refine VL.quietE (v' := .bool true) (by decide) (Q.eq rfl rfl) (by rfl) ?_
  refine VL.quietE (v' := .bool true) (by decide) (Q.pick_true rfl rfl) (by rfl) ?_
  refine VL.q (Q.assign rfl) ?_
  refine VL.nil ?_
  refine VE.seq ?_
  refine VC.seq ?_
  refine VC.region ?_
  refine VL.q (Q.fieldAddr fa50_11 rfl) ?_
  refine VL.q (Q.loadA ty43 rfl zM zS) ?_
  refine VL.eff (O.call0 ok46 rfl rfl (by decide) (group_st) (fun _ _ _ => trivial) ?_)
  intro x101 y101
  refine VL.quietE (v' := .bool true) (by decide) (Q.not rfl) (by rfl) ?_
  refine VL.q (Q.move rfl) ?_
  refine VL.yes rfl rfl ?_
  refine VL.q (Q.move rfl) ?_
  refine VL.yes rfl rfl ?_
  refine VL.q (Q.move rfl) ?_
  refine VL.no (by simp) rfl rfl (.inl rfl) ?_
  refine VL.no (by simp) rfl rfl (.inl rfl) ?_
  refine VL.no (by simp) rfl rfl (.inl rfl) ?_
  refine VL.no (by simp) rfl rfl (.inl rfl) ?_
  refine VL.yes rfl rfl ?_
  refine VL.quietE (v' := .bool true) (by decide) (Q.pick_true rfl rfl) (by rfl) ?_
  refine VL.quietE (v' := .bool true) (by decide) (Q.pick_true rfl rfl) (by rfl) ?_
  refine VL.q (Q.assign rfl) ?_
  refine VL.nil ?_
  refine VE.seq ?_
  refine VC.seq ?_
  refine VC.seq ?_
  refine VC.region ?_
  refine VL.q (Q.loadA ty50 rfl zM zS) ?_
  refine VL.q (Q.build lay50 zF) ?_
  refine VL.quietE (v' := .bool false) (by decide) (Q.neS flt50 (by decide) ty50 eg50 rfl rfl rfl rfl) (by rfl) ?_
  refine VL.q (Q.move rfl) ?_
  refine VL.yes rfl rfl ?_
  refine VL.q (Q.move rfl) ?_
  refine VL.yes rfl rfl ?_
  refine VL.quietE (v' := .bool false) (by decide) (Q.not rfl) (by rfl) ?_
  refine VL.quietE (v' := .bool false) (by decide) (Q.pick_false rfl rfl) (by rfl) ?_
  refine VL.q (Q.move rfl) ?_
  refine VL.yes rfl rfl ?_
  refine VL.q (Q.move rfl) ?_
  refine VL.yes rfl rfl ?_
  refine VL.quietE (v' := .bool false) (by decide) (Q.not rfl) (by rfl) ?_
  refine VL.quietE (v' := .bool false) (by decide) (Q.pick_false rfl rfl) (by rfl) ?_
  refine VL.q (Q.move rfl) ?_
  refine VL.yes rfl rfl ?_
  refine VL.q (Q.loadA ty50 rfl zM zS) ?_
  refine VL.yes rfl rfl ?_
  refine VL.eff (O.call0 ok47 rfl rfl (by decide) (null_data D) (fun _ _ _ => trivial) ?_)
  intro x125 y125
  refine VL.yes rfl rfl ?_
  refine VL.q (Q.move rfl) ?_
  refine VL.no (by simp) rfl rfl (.inl rfl) ?_
  refine VL.no (by simp) rfl rfl (.inl rfl) ?_
  refine VL.no (by simp) rfl rfl (.inl rfl) ?_
  refine VL.no (by simp) rfl rfl (.inr rfl) ?_
  refine VL.no (by simp) rfl rfl (.inr rfl) ?_
  refine VL.no (by simp) rfl rfl (.inl rfl) ?_
  refine VL.no (by simp) rfl rfl (.inl rfl) ?_
  refine VL.no (by simp) rfl rfl (.inr rfl) ?_
  refine VL.no (by simp) rfl rfl (.inr rfl) ?_
  refine VL.no (by simp) rfl rfl (.inl rfl) ?_
  refine VL.yes rfl rfl ?_
  refine VL.quietE (v' := .bool false) (by decide) (Q.pick_false rfl rfl) (by rfl) ?_
  refine VL.quietE (v' := .bool false) (by decide) (Q.pick_false rfl rfl) (by rfl) ?_
  refine VL.nil ?_
  refine VE.seq ?_
  refine VC.condF rfl ?_
  refine VC.skip ?_
  refine VE.seq ?_
  refine VC.seq ?_
  refine VK.keep (by exact .cons (i := 2) rfl ( .nil)) ?_
  refine VC.region ?_
  refine VL.q (Q.assign rfl) ?_
  refine VL.nil ?_
  refine VE.seq ?_
  refine VC.ret ?_
  refine VE.ret rfl (.tmp rfl .nil) () ?_ ?_ (List.nil_sublist _)
  · trivial
  · first | rfl | (exfalso; simp at *; omega)

theorem check_ack (D : Nat) (hD : D ≤ 32767) :
    Does Tryd.prog 28 [.agg #[.int .u8 1, .int .u8 13, .bool false, .bool false, .bool false, .bool false, .bool false, .bool false, .bool false, .int .i64 (D : Int), .int .u8 2, .int .u8 0, .int .u8 0, .int .u8 0, .int .u8 0, .int .u8 2, .int .u8 0, .int .u8 0, .int .u8 0, .int .u8 0, .int .u8 0, .int .u8 0, .int .u8 0, .int .u8 0, .int .u8 0, .int .u8 0, .int .u8 0, .int .u8 0, .int .u8 0, .int .u8 0, .int .u8 0, .int .u8 0, .int .u8 0, .int .u8 0, .int .i64 0, .int .i64 0, .int .i64 0, .int .u8 0, .bool false, .bool false]] [] (fun _ => True) (X := Unit) (fun _ => True) (fun _ => .int .i64 0) (fun _ => []) := by
  refine Does.enter Tryd.func28 rfl (m := 139) rfl (by simp) ?_
  intro W0 hro
  refine VC.seq ?_
  refine VC.region ?_
  refine VL.eff (O.box rfl rfl (by decide) ?_)
  intro g1
  refine VL.q (Q.assign rfl) ?_
  refine VL.nil ?_
  refine VE.seq ?_
  refine VC.seq ?_
  refine VC.region ?_
  refine VL.q (Q.fieldAddr fa50_0 rfl) ?_
  refine VL.q (Q.load1 ty5 rfl zM rfl) ?_
  refine VL.q (Q.fieldAddr fa50_1 rfl) ?_
  refine VL.q (Q.load1 ty5 rfl zM rfl) ?_
  refine VL.eff (O.call0 ok34 rfl rfl (by decide) (known_ack) (fun _ _ _ => trivial) ?_)
  intro x19 y19
  refine VL.q (Q.move rfl) ?_
  refine VL.q (Q.extract rfl rfl) ?_
  refine VL.q (Q.extract rfl rfl) ?_
  refine VL.eff (O.alloc zo90 (by decide) ?_)
  intro g3
  refine VL.eff (O.store ty90 rfl rfl rfl rfl zU zP ?_)
  refine VL.q (Q.assign rfl) ?_
  refine VL.nil ?_
  refine VE.seq ?_
  refine VC.seq ?_
  refine VC.seq ?_
  refine VC.region ?_
  refine VL.q (Q.move rfl) ?_
  refine VL.quietE (v' := .bool false) (by decide) (Q.not rfl) (by rfl) ?_
  refine VL.nil ?_
  refine VE.seq ?_
  refine VC.condF rfl ?_
  refine VC.skip ?_
  refine VE.seq ?_
  refine VC.seq ?_
  refine VC.region ?_
  refine VL.q (Q.loadA ty50 rfl zM zS) ?_
  refine VL.eff (O.alloc zo50 (by decide) ?_)
  intro g5
  refine VL.eff (O.store ty50 rfl rfl rfl rfl zU zP ?_)
  refine VL.nil ?_
  refine VE.seq ?_
  refine VC.seq ?_
  refine VC.region ?_
  refine VL.eff (O.call0 ok36 rfl rfl (by decide) (places_ack _) (fun _ _ hw => Rd.seg hw zM zS) ?_)
  intro x26 y26
  refine VL.q (Q.move rfl) ?_
  refine VL.q (Q.extract rfl rfl) ?_
  refine VL.q (Q.extract rfl rfl) ?_
  refine VL.q (Q.assign rfl) ?_
  refine VL.q (Q.assign rfl) ?_
  refine VL.nil ?_
  refine VE.seq ?_
  refine VC.seq ?_
  refine VC.seq ?_
  refine VC.region ?_
  refine VL.q (Q.move rfl) ?_
  refine VL.q (Q.move rfl) ?_
  refine VL.q (Q.append0 sl93 rfl rfl (by omega)) ?_
  refine VL.q (Q.len sl93 rfl) ?_
  refine VL.q (Q.move rfl) ?_
  refine VL.nil ?_
  refine VE.seq ?_
  refine VC.block ?_
  refine VC.rounds 40 ?_
  refine VC.rnd (m := 39) ?_
  refine VC.seq ?_
  refine VC.region ?_
  refine VL.q (Q.lt rfl rfl) ?_
  refine VL.nil ?_
  refine VE.seq ?_
  refine VC.seq ?_
  refine VC.condT rfl ?_
  refine VC.skip ?_
  refine VE.seq ?_
  refine VC.seq ?_
  refine VC.block ?_
  refine VC.seq ?_
  refine VC.region ?_
  refine VL.q (Q.indexAddr sl93 (j := 0) rfl rfl rfl (by omega)) ?_
  refine VL.q (Q.load1 ty97 rfl zM rfl) ?_
  refine VL.q (Q.assign rfl) ?_
  refine VL.nil ?_
  refine VE.seq ?_
  refine VC.region ?_
  refine VL.q (Q.move rfl) ?_
  refine VL.q (Q.build lay43 zF) ?_
  refine VL.q (Q.nilCheck rfl) ?_
  refine VL.eff (O.store ty43 rfl rfl rfl rfl zU zP ?_)
  refine VL.nil ?_
  refine VE.block_normal ?_
  refine VE.seq ?_
  refine VC.region ?_
  refine VL.quietE (v' := .int .i64 1) (by decide) ((by first | exact Q.addI rfl rfl (by omega) (by omega) | exact Q.add rfl rfl)) (by rfl) ?_
  refine VL.q (Q.move rfl) ?_
  refine VL.nil ?_
  refine VE.then_normal ?_
  refine VC.rnd (m := 38) ?_
  refine VC.seq ?_
  refine VC.region ?_
  refine VL.q (Q.lt rfl rfl) ?_
  refine VL.nil ?_
  refine VE.seq ?_
  refine VC.seq ?_
  refine VC.condF rfl ?_
  refine VC.exit ?_
  refine VE.then_exit ?_
  refine VE.then_exit ?_
  refine VE.block_here ?_
  refine VE.seq ?_
  refine VC.seq ?_
  refine VC.region ?_
  refine VL.q (Q.fieldAddr fa50_0 rfl) ?_
  refine VL.eff (O.store ty5 rfl rfl rfl rfl zU zP ?_)
  refine VL.q (Q.fieldAddr fa50_1 rfl) ?_
  refine VL.eff (O.store ty5 rfl rfl rfl rfl zU zP ?_)
  refine VL.q (Q.fieldAddr fa50_6 rfl) ?_
  refine VL.eff (O.store ty4 rfl rfl rfl rfl zU zP ?_)
  refine VL.q (Q.fieldAddr fa50_7 rfl) ?_
  refine VL.eff (O.store ty4 rfl rfl rfl rfl zU zP ?_)
  refine VL.q (Q.fieldAddr fa50_9 rfl) ?_
  refine VL.eff (O.store ty3 rfl rfl rfl rfl zU zP ?_)
  refine VL.nil ?_
  refine VE.seq ?_
  refine VC.seq ?_
  refine VC.seq ?_
  refine VK.keep (by exact .cons (i := 1) rfl (.cons (i := 2) rfl (.cons (i := 3) rfl (.cons (i := 5) rfl ( .nil))))) ?_
  refine VC.region ?_
  refine VL.q (Q.fieldAddr fa50_0 rfl) ?_
  refine VL.q (Q.load1 ty5 rfl zM rfl) ?_
  refine VL.quietE (v' := .bool false) (by decide) (Q.eq rfl rfl) (by rfl) ?_
  refine VL.nil ?_
  refine VE.seq ?_
  refine VC.condF rfl ?_
  refine VC.skip ?_
  refine VE.seq ?_
  refine VC.seq ?_
  refine VC.seq ?_
  refine VC.region ?_
  refine VL.q (Q.fieldAddr fa90_1 rfl) ?_
  refine VL.q (Q.load1 ty4 rfl zM rfl) ?_
  refine VL.nil ?_
  refine VE.seq ?_
  refine VC.condF rfl ?_
  refine VC.skip ?_
  refine VE.seq ?_
  refine VC.seq ?_
  refine VC.seq ?_
  refine VC.region ?_
  refine VL.q (Q.fieldAddr fa90_2 rfl) ?_
  refine VL.q (Q.load1 ty4 rfl zM rfl) ?_
  refine VL.nil ?_
  refine VE.seq ?_
  refine VC.condF rfl ?_
  refine VC.skip ?_
  refine VE.seq ?_
  refine VC.seq ?_
  refine VC.region ?_
  refine VL.q (Q.assign rfl) ?_
  refine VL.nil ?_
  refine VE.seq ?_
  refine VC.seq ?_
  refine VC.region ?_
  refine VL.q (Q.move rfl) ?_
  refine VL.q (Q.fieldAddr fa50_9 rfl) ?_
  refine VL.q (Q.load1 ty3 rfl zM rfl) ?_
  refine VL.eff (O.call0 ok45 rfl rfl (by decide) (in_c _ _ (by omega)) (fun _ _ _ => trivial) ?_)
  intro x67 y67
  refine VL.q (Q.move rfl) ?_
  refine VL.yes rfl rfl ?_
  refine VL.q (Q.move rfl) ?_
  refine VL.yes rfl rfl ?_
  refine VL.q (Q.fieldAddr fa50_14 rfl) ?_
  refine VL.yes rfl rfl ?_
  refine VL.q (Q.load1 ty3 rfl zM rfl) ?_
  refine VL.yes rfl rfl ?_
  refine VL.eff (O.call0 ok45 rfl rfl (by decide) (in_c _ _ (by omega)) (fun _ _ _ => trivial) ?_)
  intro x72 y72
  refine VL.quietE (v' := .bool true) (by decide) (Q.pick_true rfl rfl) (by rfl) ?_
  refine VL.q (Q.move rfl) ?_
  refine VL.yes rfl rfl ?_
  refine VL.q (Q.move rfl) ?_
  refine VL.yes rfl rfl ?_
  refine VL.q (Q.fieldAddr fa50_15 rfl) ?_
  refine VL.yes rfl rfl ?_
  refine VL.q (Q.load1 ty3 rfl zM rfl) ?_
  refine VL.yes rfl rfl ?_
  refine VL.eff (O.call0 ok45 rfl rfl (by decide) (in_c _ _ (by omega)) (fun _ _ _ => trivial) ?_)
  intro x78 y78
  refine VL.quietE (v' := .bool true) (by decide) (Q.pick_true rfl rfl) (by rfl) ?_
  refine VL.q (Q.move rfl) ?_
  refine VL.yes rfl rfl ?_
  refine VL.q (Q.move rfl) ?_
  refine VL.yes rfl rfl ?_
  refine VL.q (Q.fieldAddr fa50_16 rfl) ?_
  refine VL.yes rfl rfl ?_
  refine VL.q (Q.load1 ty3 rfl zM rfl) ?_
  refine VL.yes rfl rfl ?_
  refine VL.eff (O.call0 ok45 rfl rfl (by decide) (in_c _ _ (by omega)) (fun _ _ _ => trivial) ?_)
  intro x84 y84
  refine VL.quietE (v' := .bool true) (by decide) (Q.pick_true rfl rfl) (by rfl) ?_
  refine VL.q (Q.move rfl) ?_
  refine VL.yes rfl rfl ?_
  refine VL.q (Q.fieldAddr fa50_17 rfl) ?_
  refine VL.yes rfl rfl ?_
  refine VL.q (Q.load1 ty5 rfl zM rfl) ?_
  refine VL.yes rfl rfl ?_
  refine VL.quietE (v' := .bool true) (by decide) (Q.le rfl rfl) (by rfl) ?_
  refine VL.quietE (v' := .bool true) (by decide) (Q.pick_true rfl rfl) (by rfl) ?_
  refine VL.q (Q.assign rfl) ?_
  refine VL.nil ?_
  refine VE.seq ?_
  refine VC.seq ?_
  refine VK.keep (by exact .cons (i := 1) rfl (.cons (i := 2) rfl (.cons (i := 5) rfl (.cons (i := 11) rfl ( .nil))))) ?_
  refine VC.region ?_
  refine VL.q (Q.fieldAddr fa50_4 rfl) ?_
  refine VL.q (Q.load1 ty4 rfl zM rfl) ?_
  refine VL.quietE (v' := .bool true) (by decide) (Q.not rfl) (by rfl) ?_
  refine VL.q (Q.move rfl) ?_
  refine VL.yes rfl rfl ?_
  refine VL.q (Q.fieldAddr fa50_15 rfl) ?_
  refine VL.yes rfl rfl ?_
  refine VL.q (Q.load1 ty3 rfl zM rfl) ?_
  refine VL.yes rfl rfl ?_
  refine VL.quietE (v' := .bool true) (by decide) (Q.eq rfl rfl) (by rfl) ?_
  refine VL.quietE (v' := .bool true) (by decide) (Q.pick_true rfl rfl) (by rfl) ?_
  refine VL.q (Q.assign rfl) ?_
  refine VL.nil ?_
  refine VE.seq ?_
  refine VC.seq ?_
  refine VC.region ?_
  refine VL.q (Q.fieldAddr fa50_11 rfl) ?_
  refine VL.q (Q.loadA ty43 rfl zM zS) ?_
  refine VL.eff (O.call0 ok46 rfl rfl (by decide) (group_no) (fun _ _ _ => trivial) ?_)
  intro x101 y101
  refine VL.quietE (v' := .bool true) (by decide) (Q.not rfl) (by rfl) ?_
  refine VL.q (Q.move rfl) ?_
  refine VL.yes rfl rfl ?_
  refine VL.q (Q.move rfl) ?_
  refine VL.yes rfl rfl ?_
  refine VL.q (Q.move rfl) ?_
  refine VL.no (by simp) rfl rfl (.inl rfl) ?_
  refine VL.no (by simp) rfl rfl (.inl rfl) ?_
  refine VL.no (by simp) rfl rfl (.inl rfl) ?_
  refine VL.no (by simp) rfl rfl (.inl rfl) ?_
  refine VL.yes rfl rfl ?_
  refine VL.quietE (v' := .bool true) (by decide) (Q.pick_true rfl rfl) (by rfl) ?_
  refine VL.quietE (v' := .bool true) (by decide) (Q.pick_true rfl rfl) (by rfl) ?_
  refine VL.q (Q.assign rfl) ?_
  refine VL.nil ?_
  refine VE.seq ?_
  refine VC.seq ?_
  refine VC.seq ?_
  refine VC.region ?_
  refine VL.q (Q.loadA ty50 rfl zM zS) ?_
  refine VL.q (Q.build lay50 zF) ?_
  refine VL.quietE (v' := .bool false) (by decide) (Q.neS flt50 (by decide) ty50 eg50 rfl rfl rfl rfl) (by rfl) ?_
  refine VL.q (Q.move rfl) ?_
  refine VL.yes rfl rfl ?_
  refine VL.q (Q.move rfl) ?_
  refine VL.yes rfl rfl ?_
  refine VL.quietE (v' := .bool false) (by decide) (Q.not rfl) (by rfl) ?_
  refine VL.quietE (v' := .bool false) (by decide) (Q.pick_false rfl rfl) (by rfl) ?_
  refine VL.q (Q.move rfl) ?_
  refine VL.yes rfl rfl ?_
  refine VL.q (Q.move rfl) ?_
  refine VL.yes rfl rfl ?_
  refine VL.quietE (v' := .bool false) (by decide) (Q.not rfl) (by rfl) ?_
  refine VL.quietE (v' := .bool false) (by decide) (Q.pick_false rfl rfl) (by rfl) ?_
  refine VL.q (Q.move rfl) ?_
  refine VL.yes rfl rfl ?_
  refine VL.q (Q.loadA ty50 rfl zM zS) ?_
  refine VL.yes rfl rfl ?_
  refine VL.eff (O.call0 ok47 rfl rfl (by decide) (null_ack D) (fun _ _ _ => trivial) ?_)
  intro x125 y125
  refine VL.yes rfl rfl ?_
  refine VL.q (Q.move rfl) ?_
  refine VL.no (by simp) rfl rfl (.inl rfl) ?_
  refine VL.no (by simp) rfl rfl (.inl rfl) ?_
  refine VL.no (by simp) rfl rfl (.inl rfl) ?_
  refine VL.no (by simp) rfl rfl (.inr rfl) ?_
  refine VL.no (by simp) rfl rfl (.inr rfl) ?_
  refine VL.no (by simp) rfl rfl (.inl rfl) ?_
  refine VL.no (by simp) rfl rfl (.inl rfl) ?_
  refine VL.no (by simp) rfl rfl (.inr rfl) ?_
  refine VL.no (by simp) rfl rfl (.inr rfl) ?_
  refine VL.no (by simp) rfl rfl (.inl rfl) ?_
  refine VL.yes rfl rfl ?_
  refine VL.quietE (v' := .bool false) (by decide) (Q.pick_false rfl rfl) (by rfl) ?_
  refine VL.quietE (v' := .bool false) (by decide) (Q.pick_false rfl rfl) (by rfl) ?_
  refine VL.nil ?_
  refine VE.seq ?_
  refine VC.condF rfl ?_
  refine VC.skip ?_
  refine VE.seq ?_
  refine VC.seq ?_
  refine VK.keep (by exact .cons (i := 2) rfl ( .nil)) ?_
  refine VC.region ?_
  refine VL.q (Q.assign rfl) ?_
  refine VL.nil ?_
  refine VE.seq ?_
  refine VC.ret ?_
  refine VE.ret rfl (.tmp rfl .nil) () ?_ ?_ (List.nil_sublist _)
  · trivial
  · first | rfl | (exfalso; simp at *; omega)

theorem check_bar (D : Nat) (hD : D ≤ 32767) :
    Does Tryd.prog 28 [.agg #[.int .u8 1, .int .u8 8, .bool false, .bool false, .bool false, .bool false, .bool false, .bool false, .bool false, .int .i64 (D : Int), .int .u8 2, .int .u8 0, .int .u8 0, .int .u8 0, .int .u8 0, .int .u8 1, .int .u8 2, .int .u8 0, .int .u8 0, .int .u8 0, .int .u8 0, .int .u8 2, .int .u8 0, .int .u8 0, .int .u8 0, .int .u8 0, .int .u8 0, .int .u8 0, .int .u8 0, .int .u8 0, .int .u8 0, .int .u8 0, .int .u8 0, .int .u8 0, .int .i64 0, .int .i64 0, .int .i64 0, .int .u8 0, .bool false, .bool false]] [] (fun _ => True) (X := Unit) (fun _ => True) (fun _ => .int .i64 0) (fun _ => []) := by
  refine Does.enter Tryd.func28 rfl (m := 139) rfl (by simp) ?_
  intro W0 hro
  refine VC.seq ?_
  refine VC.region ?_
  refine VL.eff (O.box rfl rfl (by decide) ?_)
  intro g1
  refine VL.q (Q.assign rfl) ?_
  refine VL.nil ?_
  refine VE.seq ?_
  refine VC.seq ?_
  refine VC.region ?_
  refine VL.q (Q.fieldAddr fa50_0 rfl) ?_
  refine VL.q (Q.load1 ty5 rfl zM rfl) ?_
  refine VL.q (Q.fieldAddr fa50_1 rfl) ?_
  refine VL.q (Q.load1 ty5 rfl zM rfl) ?_
  refine VL.eff (O.call0 ok34 rfl rfl (by decide) (known_bar) (fun _ _ _ => trivial) ?_)
  intro x19 y19
  refine VL.q (Q.move rfl) ?_
  refine VL.q (Q.extract rfl rfl) ?_
  refine VL.q (Q.extract rfl rfl) ?_
  refine VL.eff (O.alloc zo90 (by decide) ?_)
  intro g3
  refine VL.eff (O.store ty90 rfl rfl rfl rfl zU zP ?_)
  refine VL.q (Q.assign rfl) ?_
  refine VL.nil ?_
  refine VE.seq ?_
  refine VC.seq ?_
  refine VC.seq ?_
  refine VC.region ?_
  refine VL.q (Q.move rfl) ?_
  refine VL.quietE (v' := .bool false) (by decide) (Q.not rfl) (by rfl) ?_
  refine VL.nil ?_
  refine VE.seq ?_
  refine VC.condF rfl ?_
  refine VC.skip ?_
  refine VE.seq ?_
  refine VC.seq ?_
  refine VC.region ?_
  refine VL.q (Q.loadA ty50 rfl zM zS) ?_
  refine VL.eff (O.alloc zo50 (by decide) ?_)
  intro g5
  refine VL.eff (O.store ty50 rfl rfl rfl rfl zU zP ?_)
  refine VL.nil ?_
  refine VE.seq ?_
  refine VC.seq ?_
  refine VC.region ?_
  refine VL.eff (O.call0 ok36 rfl rfl (by decide) (places_bar _) (fun _ _ hw => Rd.seg hw zM zS) ?_)
  intro x26 y26
  refine VL.q (Q.move rfl) ?_
  refine VL.q (Q.extract rfl rfl) ?_
  refine VL.q (Q.extract rfl rfl) ?_
  refine VL.q (Q.assign rfl) ?_
  refine VL.q (Q.assign rfl) ?_
  refine VL.nil ?_
  refine VE.seq ?_
  refine VC.seq ?_
  refine VC.seq ?_
  refine VC.region ?_
  refine VL.q (Q.move rfl) ?_
  refine VL.q (Q.move rfl) ?_
  refine VL.q (Q.append0 sl93 rfl rfl (by omega)) ?_
  refine VL.q (Q.len sl93 rfl) ?_
  refine VL.q (Q.move rfl) ?_
  refine VL.nil ?_
  refine VE.seq ?_
  refine VC.block ?_
  refine VC.rounds 40 ?_
  refine VC.rnd (m := 39) ?_
  refine VC.seq ?_
  refine VC.region ?_
  refine VL.q (Q.lt rfl rfl) ?_
  refine VL.nil ?_
  refine VE.seq ?_
  refine VC.seq ?_
  refine VC.condT rfl ?_
  refine VC.skip ?_
  refine VE.seq ?_
  refine VC.seq ?_
  refine VC.block ?_
  refine VC.seq ?_
  refine VC.region ?_
  refine VL.q (Q.indexAddr sl93 (j := 0) rfl rfl rfl (by omega)) ?_
  refine VL.q (Q.load1 ty97 rfl zM rfl) ?_
  refine VL.q (Q.assign rfl) ?_
  refine VL.nil ?_
  refine VE.seq ?_
  refine VC.region ?_
  refine VL.q (Q.move rfl) ?_
  refine VL.q (Q.build lay43 zF) ?_
  refine VL.q (Q.nilCheck rfl) ?_
  refine VL.eff (O.store ty43 rfl rfl rfl rfl zU zP ?_)
  refine VL.nil ?_
  refine VE.block_normal ?_
  refine VE.seq ?_
  refine VC.region ?_
  refine VL.quietE (v' := .int .i64 1) (by decide) ((by first | exact Q.addI rfl rfl (by omega) (by omega) | exact Q.add rfl rfl)) (by rfl) ?_
  refine VL.q (Q.move rfl) ?_
  refine VL.nil ?_
  refine VE.then_normal ?_
  refine VC.rnd (m := 38) ?_
  refine VC.seq ?_
  refine VC.region ?_
  refine VL.q (Q.lt rfl rfl) ?_
  refine VL.nil ?_
  refine VE.seq ?_
  refine VC.seq ?_
  refine VC.condT rfl ?_
  refine VC.skip ?_
  refine VE.seq ?_
  refine VC.seq ?_
  refine VC.block ?_
  refine VC.seq ?_
  refine VC.region ?_
  refine VL.q (Q.indexAddr sl93 (j := 1) rfl rfl rfl (by omega)) ?_
  refine VL.q (Q.load1 ty97 rfl zM rfl) ?_
  refine VL.q (Q.assign rfl) ?_
  refine VL.nil ?_
  refine VE.seq ?_
  refine VC.region ?_
  refine VL.q (Q.move rfl) ?_
  refine VL.q (Q.build lay43 zF) ?_
  refine VL.q (Q.nilCheck rfl) ?_
  refine VL.eff (O.store ty43 rfl rfl rfl rfl zU zP ?_)
  refine VL.nil ?_
  refine VE.block_normal ?_
  refine VE.seq ?_
  refine VC.region ?_
  refine VL.quietE (v' := .int .i64 2) (by decide) ((by first | exact Q.addI rfl rfl (by omega) (by omega) | exact Q.add rfl rfl)) (by rfl) ?_
  refine VL.q (Q.move rfl) ?_
  refine VL.nil ?_
  refine VE.then_normal ?_
  refine VC.rnd (m := 37) ?_
  refine VC.seq ?_
  refine VC.region ?_
  refine VL.q (Q.lt rfl rfl) ?_
  refine VL.nil ?_
  refine VE.seq ?_
  refine VC.seq ?_
  refine VC.condF rfl ?_
  refine VC.exit ?_
  refine VE.then_exit ?_
  refine VE.then_exit ?_
  refine VE.block_here ?_
  refine VE.seq ?_
  refine VC.seq ?_
  refine VC.region ?_
  refine VL.q (Q.fieldAddr fa50_0 rfl) ?_
  refine VL.eff (O.store ty5 rfl rfl rfl rfl zU zP ?_)
  refine VL.q (Q.fieldAddr fa50_1 rfl) ?_
  refine VL.eff (O.store ty5 rfl rfl rfl rfl zU zP ?_)
  refine VL.q (Q.fieldAddr fa50_6 rfl) ?_
  refine VL.eff (O.store ty4 rfl rfl rfl rfl zU zP ?_)
  refine VL.q (Q.fieldAddr fa50_7 rfl) ?_
  refine VL.eff (O.store ty4 rfl rfl rfl rfl zU zP ?_)
  refine VL.q (Q.fieldAddr fa50_9 rfl) ?_
  refine VL.eff (O.store ty3 rfl rfl rfl rfl zU zP ?_)
  refine VL.nil ?_
  refine VE.seq ?_
  refine VC.seq ?_
  refine VC.seq ?_
  refine VK.keep (by exact .cons (i := 1) rfl (.cons (i := 2) rfl (.cons (i := 3) rfl (.cons (i := 5) rfl ( .nil))))) ?_
  refine VC.region ?_
  refine VL.q (Q.fieldAddr fa50_0 rfl) ?_
  refine VL.q (Q.load1 ty5 rfl zM rfl) ?_
  refine VL.quietE (v' := .bool false) (by decide) (Q.eq rfl rfl) (by rfl) ?_
  refine VL.nil ?_
  refine VE.seq ?_
  refine VC.condF rfl ?_
  refine VC.skip ?_
  refine VE.seq ?_
  refine VC.seq ?_
  refine VC.seq ?_
  refine VC.region ?_
  refine VL.q (Q.fieldAddr fa90_1 rfl) ?_
  refine VL.q (Q.load1 ty4 rfl zM rfl) ?_
  refine VL.nil ?_
  refine VE.seq ?_
  refine VC.condF rfl ?_
  refine VC.skip ?_
  refine VE.seq ?_
  refine VC.seq ?_
  refine VC.seq ?_
  refine VC.region ?_
  refine VL.q (Q.fieldAddr fa90_2 rfl) ?_
  refine VL.q (Q.load1 ty4 rfl zM rfl) ?_
  refine VL.nil ?_
  refine VE.seq ?_
  refine VC.condF rfl ?_
  refine VC.skip ?_
  refine VE.seq ?_
  refine VC.seq ?_
  refine VC.region ?_
  refine VL.q (Q.assign rfl) ?_
  refine VL.nil ?_
  refine VE.seq ?_
  refine VC.seq ?_
  refine VC.region ?_
  refine VL.q (Q.move rfl) ?_
  refine VL.q (Q.fieldAddr fa50_9 rfl) ?_
  refine VL.q (Q.load1 ty3 rfl zM rfl) ?_
  refine VL.eff (O.call0 ok45 rfl rfl (by decide) (in_c _ _ (by omega)) (fun _ _ _ => trivial) ?_)
  intro x67 y67
  refine VL.q (Q.move rfl) ?_
  refine VL.yes rfl rfl ?_
  refine VL.q (Q.move rfl) ?_
  refine VL.yes rfl rfl ?_
  refine VL.q (Q.fieldAddr fa50_14 rfl) ?_
  refine VL.yes rfl rfl ?_
  refine VL.q (Q.load1 ty3 rfl zM rfl) ?_
  refine VL.yes rfl rfl ?_
  refine VL.eff (O.call0 ok45 rfl rfl (by decide) (in_c _ _ (by omega)) (fun _ _ _ => trivial) ?_)
  intro x72 y72
  refine VL.quietE (v' := .bool true) (by decide) (Q.pick_true rfl rfl) (by rfl) ?_
  refine VL.q (Q.move rfl) ?_
  refine VL.yes rfl rfl ?_
  refine VL.q (Q.move rfl) ?_
  refine VL.yes rfl rfl ?_
  refine VL.q (Q.fieldAddr fa50_15 rfl) ?_
  refine VL.yes rfl rfl ?_
  refine VL.q (Q.load1 ty3 rfl zM rfl) ?_
  refine VL.yes rfl rfl ?_
  refine VL.eff (O.call0 ok45 rfl rfl (by decide) (in_c _ _ (by omega)) (fun _ _ _ => trivial) ?_)
  intro x78 y78
  refine VL.quietE (v' := .bool true) (by decide) (Q.pick_true rfl rfl) (by rfl) ?_
  refine VL.q (Q.move rfl) ?_
  refine VL.yes rfl rfl ?_
  refine VL.q (Q.move rfl) ?_
  refine VL.yes rfl rfl ?_
  refine VL.q (Q.fieldAddr fa50_16 rfl) ?_
  refine VL.yes rfl rfl ?_
  refine VL.q (Q.load1 ty3 rfl zM rfl) ?_
  refine VL.yes rfl rfl ?_
  refine VL.eff (O.call0 ok45 rfl rfl (by decide) (in_c _ _ (by omega)) (fun _ _ _ => trivial) ?_)
  intro x84 y84
  refine VL.quietE (v' := .bool true) (by decide) (Q.pick_true rfl rfl) (by rfl) ?_
  refine VL.q (Q.move rfl) ?_
  refine VL.yes rfl rfl ?_
  refine VL.q (Q.fieldAddr fa50_17 rfl) ?_
  refine VL.yes rfl rfl ?_
  refine VL.q (Q.load1 ty5 rfl zM rfl) ?_
  refine VL.yes rfl rfl ?_
  refine VL.quietE (v' := .bool true) (by decide) (Q.le rfl rfl) (by rfl) ?_
  refine VL.quietE (v' := .bool true) (by decide) (Q.pick_true rfl rfl) (by rfl) ?_
  refine VL.q (Q.assign rfl) ?_
  refine VL.nil ?_
  refine VE.seq ?_
  refine VC.seq ?_
  refine VK.keep (by exact .cons (i := 1) rfl (.cons (i := 2) rfl (.cons (i := 5) rfl (.cons (i := 11) rfl ( .nil))))) ?_
  refine VC.region ?_
  refine VL.q (Q.fieldAddr fa50_4 rfl) ?_
  refine VL.q (Q.load1 ty4 rfl zM rfl) ?_
  refine VL.quietE (v' := .bool true) (by decide) (Q.not rfl) (by rfl) ?_
  refine VL.q (Q.move rfl) ?_
  refine VL.yes rfl rfl ?_
  refine VL.q (Q.fieldAddr fa50_15 rfl) ?_
  refine VL.yes rfl rfl ?_
  refine VL.q (Q.load1 ty3 rfl zM rfl) ?_
  refine VL.yes rfl rfl ?_
  refine VL.quietE (v' := .bool true) (by decide) (Q.eq rfl rfl) (by rfl) ?_
  refine VL.quietE (v' := .bool true) (by decide) (Q.pick_true rfl rfl) (by rfl) ?_
  refine VL.q (Q.assign rfl) ?_
  refine VL.nil ?_
  refine VE.seq ?_
  refine VC.seq ?_
  refine VC.region ?_
  refine VL.q (Q.fieldAddr fa50_11 rfl) ?_
  refine VL.q (Q.loadA ty43 rfl zM zS) ?_
  refine VL.eff (O.call0 ok46 rfl rfl (by decide) (group_st) (fun _ _ _ => trivial) ?_)
  intro x101 y101
  refine VL.quietE (v' := .bool true) (by decide) (Q.not rfl) (by rfl) ?_
  refine VL.q (Q.move rfl) ?_
  refine VL.yes rfl rfl ?_
  refine VL.q (Q.move rfl) ?_
  refine VL.yes rfl rfl ?_
  refine VL.q (Q.move rfl) ?_
  refine VL.no (by simp) rfl rfl (.inl rfl) ?_
  refine VL.no (by simp) rfl rfl (.inl rfl) ?_
  refine VL.no (by simp) rfl rfl (.inl rfl) ?_
  refine VL.no (by simp) rfl rfl (.inl rfl) ?_
  refine VL.yes rfl rfl ?_
  refine VL.quietE (v' := .bool true) (by decide) (Q.pick_true rfl rfl) (by rfl) ?_
  refine VL.quietE (v' := .bool true) (by decide) (Q.pick_true rfl rfl) (by rfl) ?_
  refine VL.q (Q.assign rfl) ?_
  refine VL.nil ?_
  refine VE.seq ?_
  refine VC.seq ?_
  refine VC.seq ?_
  refine VC.region ?_
  refine VL.q (Q.loadA ty50 rfl zM zS) ?_
  refine VL.q (Q.build lay50 zF) ?_
  refine VL.quietE (v' := .bool false) (by decide) (Q.neS flt50 (by decide) ty50 eg50 rfl rfl rfl rfl) (by rfl) ?_
  refine VL.q (Q.move rfl) ?_
  refine VL.yes rfl rfl ?_
  refine VL.q (Q.move rfl) ?_
  refine VL.yes rfl rfl ?_
  refine VL.quietE (v' := .bool false) (by decide) (Q.not rfl) (by rfl) ?_
  refine VL.quietE (v' := .bool false) (by decide) (Q.pick_false rfl rfl) (by rfl) ?_
  refine VL.q (Q.move rfl) ?_
  refine VL.yes rfl rfl ?_
  refine VL.q (Q.move rfl) ?_
  refine VL.yes rfl rfl ?_
  refine VL.quietE (v' := .bool false) (by decide) (Q.not rfl) (by rfl) ?_
  refine VL.quietE (v' := .bool false) (by decide) (Q.pick_false rfl rfl) (by rfl) ?_
  refine VL.q (Q.move rfl) ?_
  refine VL.yes rfl rfl ?_
  refine VL.q (Q.loadA ty50 rfl zM zS) ?_
  refine VL.yes rfl rfl ?_
  refine VL.eff (O.call0 ok47 rfl rfl (by decide) (null_bar D) (fun _ _ _ => trivial) ?_)
  intro x125 y125
  refine VL.yes rfl rfl ?_
  refine VL.q (Q.move rfl) ?_
  refine VL.no (by simp) rfl rfl (.inl rfl) ?_
  refine VL.no (by simp) rfl rfl (.inl rfl) ?_
  refine VL.no (by simp) rfl rfl (.inl rfl) ?_
  refine VL.no (by simp) rfl rfl (.inr rfl) ?_
  refine VL.no (by simp) rfl rfl (.inr rfl) ?_
  refine VL.no (by simp) rfl rfl (.inl rfl) ?_
  refine VL.no (by simp) rfl rfl (.inl rfl) ?_
  refine VL.no (by simp) rfl rfl (.inr rfl) ?_
  refine VL.no (by simp) rfl rfl (.inr rfl) ?_
  refine VL.no (by simp) rfl rfl (.inl rfl) ?_
  refine VL.yes rfl rfl ?_
  refine VL.quietE (v' := .bool false) (by decide) (Q.pick_false rfl rfl) (by rfl) ?_
  refine VL.quietE (v' := .bool false) (by decide) (Q.pick_false rfl rfl) (by rfl) ?_
  refine VL.nil ?_
  refine VE.seq ?_
  refine VC.condF rfl ?_
  refine VC.skip ?_
  refine VE.seq ?_
  refine VC.seq ?_
  refine VK.keep (by exact .cons (i := 2) rfl ( .nil)) ?_
  refine VC.region ?_
  refine VL.q (Q.assign rfl) ?_
  refine VL.nil ?_
  refine VE.seq ?_
  refine VC.ret ?_
  refine VE.ret rfl (.tmp rfl .nil) () ?_ ?_ (List.nil_sublist _)
  · trivial
  · first | rfl | (exfalso; simp at *; omega)

theorem check_back (D : Nat) (hD : D ≤ 32767) :
    Does Tryd.prog 28 [.agg #[.int .u8 1, .int .u8 9, .bool false, .bool false, .bool false, .bool false, .bool false, .bool false, .bool false, .int .i64 (D : Int), .int .u8 2, .int .u8 0, .int .u8 0, .int .u8 0, .int .u8 0, .int .u8 2, .int .u8 2, .int .u8 0, .int .u8 0, .int .u8 0, .int .u8 0, .int .u8 1, .int .u8 0, .int .u8 0, .int .u8 0, .int .u8 0, .int .u8 0, .int .u8 0, .int .u8 0, .int .u8 0, .int .u8 0, .int .u8 0, .int .u8 0, .int .u8 0, .int .i64 0, .int .i64 0, .int .i64 0, .int .u8 0, .bool false, .bool false]] [] (fun _ => True) (X := Unit) (fun _ => True) (fun _ => .int .i64 0) (fun _ => []) := by
  refine Does.enter Tryd.func28 rfl (m := 139) rfl (by simp) ?_
  intro W0 hro
  refine VC.seq ?_
  refine VC.region ?_
  refine VL.eff (O.box rfl rfl (by decide) ?_)
  intro g1
  refine VL.q (Q.assign rfl) ?_
  refine VL.nil ?_
  refine VE.seq ?_
  refine VC.seq ?_
  refine VC.region ?_
  refine VL.q (Q.fieldAddr fa50_0 rfl) ?_
  refine VL.q (Q.load1 ty5 rfl zM rfl) ?_
  refine VL.q (Q.fieldAddr fa50_1 rfl) ?_
  refine VL.q (Q.load1 ty5 rfl zM rfl) ?_
  refine VL.eff (O.call0 ok34 rfl rfl (by decide) (known_back) (fun _ _ _ => trivial) ?_)
  intro x19 y19
  refine VL.q (Q.move rfl) ?_
  refine VL.q (Q.extract rfl rfl) ?_
  refine VL.q (Q.extract rfl rfl) ?_
  refine VL.eff (O.alloc zo90 (by decide) ?_)
  intro g3
  refine VL.eff (O.store ty90 rfl rfl rfl rfl zU zP ?_)
  refine VL.q (Q.assign rfl) ?_
  refine VL.nil ?_
  refine VE.seq ?_
  refine VC.seq ?_
  refine VC.seq ?_
  refine VC.region ?_
  refine VL.q (Q.move rfl) ?_
  refine VL.quietE (v' := .bool false) (by decide) (Q.not rfl) (by rfl) ?_
  refine VL.nil ?_
  refine VE.seq ?_
  refine VC.condF rfl ?_
  refine VC.skip ?_
  refine VE.seq ?_
  refine VC.seq ?_
  refine VC.region ?_
  refine VL.q (Q.loadA ty50 rfl zM zS) ?_
  refine VL.eff (O.alloc zo50 (by decide) ?_)
  intro g5
  refine VL.eff (O.store ty50 rfl rfl rfl rfl zU zP ?_)
  refine VL.nil ?_
  refine VE.seq ?_
  refine VC.seq ?_
  refine VC.region ?_
  refine VL.eff (O.call0 ok36 rfl rfl (by decide) (places_back _) (fun _ _ hw => Rd.seg hw zM zS) ?_)
  intro x26 y26
  refine VL.q (Q.move rfl) ?_
  refine VL.q (Q.extract rfl rfl) ?_
  refine VL.q (Q.extract rfl rfl) ?_
  refine VL.q (Q.assign rfl) ?_
  refine VL.q (Q.assign rfl) ?_
  refine VL.nil ?_
  refine VE.seq ?_
  refine VC.seq ?_
  refine VC.seq ?_
  refine VC.region ?_
  refine VL.q (Q.move rfl) ?_
  refine VL.q (Q.move rfl) ?_
  refine VL.q (Q.append0 sl93 rfl rfl (by omega)) ?_
  refine VL.q (Q.len sl93 rfl) ?_
  refine VL.q (Q.move rfl) ?_
  refine VL.nil ?_
  refine VE.seq ?_
  refine VC.block ?_
  refine VC.rounds 40 ?_
  refine VC.rnd (m := 39) ?_
  refine VC.seq ?_
  refine VC.region ?_
  refine VL.q (Q.lt rfl rfl) ?_
  refine VL.nil ?_
  refine VE.seq ?_
  refine VC.seq ?_
  refine VC.condT rfl ?_
  refine VC.skip ?_
  refine VE.seq ?_
  refine VC.seq ?_
  refine VC.block ?_
  refine VC.seq ?_
  refine VC.region ?_
  refine VL.q (Q.indexAddr sl93 (j := 0) rfl rfl rfl (by omega)) ?_
  refine VL.q (Q.load1 ty97 rfl zM rfl) ?_
  refine VL.q (Q.assign rfl) ?_
  refine VL.nil ?_
  refine VE.seq ?_
  refine VC.region ?_
  refine VL.q (Q.move rfl) ?_
  refine VL.q (Q.build lay43 zF) ?_
  refine VL.q (Q.nilCheck rfl) ?_
  refine VL.eff (O.store ty43 rfl rfl rfl rfl zU zP ?_)
  refine VL.nil ?_
  refine VE.block_normal ?_
  refine VE.seq ?_
  refine VC.region ?_
  refine VL.quietE (v' := .int .i64 1) (by decide) ((by first | exact Q.addI rfl rfl (by omega) (by omega) | exact Q.add rfl rfl)) (by rfl) ?_
  refine VL.q (Q.move rfl) ?_
  refine VL.nil ?_
  refine VE.then_normal ?_
  refine VC.rnd (m := 38) ?_
  refine VC.seq ?_
  refine VC.region ?_
  refine VL.q (Q.lt rfl rfl) ?_
  refine VL.nil ?_
  refine VE.seq ?_
  refine VC.seq ?_
  refine VC.condT rfl ?_
  refine VC.skip ?_
  refine VE.seq ?_
  refine VC.seq ?_
  refine VC.block ?_
  refine VC.seq ?_
  refine VC.region ?_
  refine VL.q (Q.indexAddr sl93 (j := 1) rfl rfl rfl (by omega)) ?_
  refine VL.q (Q.load1 ty97 rfl zM rfl) ?_
  refine VL.q (Q.assign rfl) ?_
  refine VL.nil ?_
  refine VE.seq ?_
  refine VC.region ?_
  refine VL.q (Q.move rfl) ?_
  refine VL.q (Q.build lay43 zF) ?_
  refine VL.q (Q.nilCheck rfl) ?_
  refine VL.eff (O.store ty43 rfl rfl rfl rfl zU zP ?_)
  refine VL.nil ?_
  refine VE.block_normal ?_
  refine VE.seq ?_
  refine VC.region ?_
  refine VL.quietE (v' := .int .i64 2) (by decide) ((by first | exact Q.addI rfl rfl (by omega) (by omega) | exact Q.add rfl rfl)) (by rfl) ?_
  refine VL.q (Q.move rfl) ?_
  refine VL.nil ?_
  refine VE.then_normal ?_
  refine VC.rnd (m := 37) ?_
  refine VC.seq ?_
  refine VC.region ?_
  refine VL.q (Q.lt rfl rfl) ?_
  refine VL.nil ?_
  refine VE.seq ?_
  refine VC.seq ?_
  refine VC.condF rfl ?_
  refine VC.exit ?_
  refine VE.then_exit ?_
  refine VE.then_exit ?_
  refine VE.block_here ?_
  refine VE.seq ?_
  refine VC.seq ?_
  refine VC.region ?_
  refine VL.q (Q.fieldAddr fa50_0 rfl) ?_
  refine VL.eff (O.store ty5 rfl rfl rfl rfl zU zP ?_)
  refine VL.q (Q.fieldAddr fa50_1 rfl) ?_
  refine VL.eff (O.store ty5 rfl rfl rfl rfl zU zP ?_)
  refine VL.q (Q.fieldAddr fa50_6 rfl) ?_
  refine VL.eff (O.store ty4 rfl rfl rfl rfl zU zP ?_)
  refine VL.q (Q.fieldAddr fa50_7 rfl) ?_
  refine VL.eff (O.store ty4 rfl rfl rfl rfl zU zP ?_)
  refine VL.q (Q.fieldAddr fa50_9 rfl) ?_
  refine VL.eff (O.store ty3 rfl rfl rfl rfl zU zP ?_)
  refine VL.nil ?_
  refine VE.seq ?_
  refine VC.seq ?_
  refine VC.seq ?_
  refine VK.keep (by exact .cons (i := 1) rfl (.cons (i := 2) rfl (.cons (i := 3) rfl (.cons (i := 5) rfl ( .nil))))) ?_
  refine VC.region ?_
  refine VL.q (Q.fieldAddr fa50_0 rfl) ?_
  refine VL.q (Q.load1 ty5 rfl zM rfl) ?_
  refine VL.quietE (v' := .bool false) (by decide) (Q.eq rfl rfl) (by rfl) ?_
  refine VL.nil ?_
  refine VE.seq ?_
  refine VC.condF rfl ?_
  refine VC.skip ?_
  refine VE.seq ?_
  refine VC.seq ?_
  refine VC.seq ?_
  refine VC.region ?_
  refine VL.q (Q.fieldAddr fa90_1 rfl) ?_
  refine VL.q (Q.load1 ty4 rfl zM rfl) ?_
  refine VL.nil ?_
  refine VE.seq ?_
  refine VC.condF rfl ?_
  refine VC.skip ?_
  refine VE.seq ?_
  refine VC.seq ?_
  refine VC.seq ?_
  refine VC.region ?_
  refine VL.q (Q.fieldAddr fa90_2 rfl) ?_
  refine VL.q (Q.load1 ty4 rfl zM rfl) ?_
  refine VL.nil ?_
  refine VE.seq ?_
  refine VC.condF rfl ?_
  refine VC.skip ?_
  refine VE.seq ?_
  refine VC.seq ?_
  refine VC.region ?_
  refine VL.q (Q.assign rfl) ?_
  refine VL.nil ?_
  refine VE.seq ?_
  refine VC.seq ?_
  refine VC.region ?_
  refine VL.q (Q.move rfl) ?_
  refine VL.q (Q.fieldAddr fa50_9 rfl) ?_
  refine VL.q (Q.load1 ty3 rfl zM rfl) ?_
  refine VL.eff (O.call0 ok45 rfl rfl (by decide) (in_c _ _ (by omega)) (fun _ _ _ => trivial) ?_)
  intro x67 y67
  refine VL.q (Q.move rfl) ?_
  refine VL.yes rfl rfl ?_
  refine VL.q (Q.move rfl) ?_
  refine VL.yes rfl rfl ?_
  refine VL.q (Q.fieldAddr fa50_14 rfl) ?_
  refine VL.yes rfl rfl ?_
  refine VL.q (Q.load1 ty3 rfl zM rfl) ?_
  refine VL.yes rfl rfl ?_
  refine VL.eff (O.call0 ok45 rfl rfl (by decide) (in_c _ _ (by omega)) (fun _ _ _ => trivial) ?_)
  intro x72 y72
  refine VL.quietE (v' := .bool true) (by decide) (Q.pick_true rfl rfl) (by rfl) ?_
  refine VL.q (Q.move rfl) ?_
  refine VL.yes rfl rfl ?_
  refine VL.q (Q.move rfl) ?_
  refine VL.yes rfl rfl ?_
  refine VL.q (Q.fieldAddr fa50_15 rfl) ?_
  refine VL.yes rfl rfl ?_
  refine VL.q (Q.load1 ty3 rfl zM rfl) ?_
  refine VL.yes rfl rfl ?_
  refine VL.eff (O.call0 ok45 rfl rfl (by decide) (in_c _ _ (by omega)) (fun _ _ _ => trivial) ?_)
  intro x78 y78
  refine VL.quietE (v' := .bool true) (by decide) (Q.pick_true rfl rfl) (by rfl) ?_
  refine VL.q (Q.move rfl) ?_
  refine VL.yes rfl rfl ?_
  refine VL.q (Q.move rfl) ?_
  refine VL.yes rfl rfl ?_
  refine VL.q (Q.fieldAddr fa50_16 rfl) ?_
  refine VL.yes rfl rfl ?_
  refine VL.q (Q.load1 ty3 rfl zM rfl) ?_
  refine VL.yes rfl rfl ?_
  refine VL.eff (O.call0 ok45 rfl rfl (by decide) (in_c _ _ (by omega)) (fun _ _ _ => trivial) ?_)
  intro x84 y84
  refine VL.quietE (v' := .bool true) (by decide) (Q.pick_true rfl rfl) (by rfl) ?_
  refine VL.q (Q.move rfl) ?_
  refine VL.yes rfl rfl ?_
  refine VL.q (Q.fieldAddr fa50_17 rfl) ?_
  refine VL.yes rfl rfl ?_
  refine VL.q (Q.load1 ty5 rfl zM rfl) ?_
  refine VL.yes rfl rfl ?_
  refine VL.quietE (v' := .bool true) (by decide) (Q.le rfl rfl) (by rfl) ?_
  refine VL.quietE (v' := .bool true) (by decide) (Q.pick_true rfl rfl) (by rfl) ?_
  refine VL.q (Q.assign rfl) ?_
  refine VL.nil ?_
  refine VE.seq ?_
  refine VC.seq ?_
  refine VK.keep (by exact .cons (i := 1) rfl (.cons (i := 2) rfl (.cons (i := 5) rfl (.cons (i := 11) rfl ( .nil))))) ?_
  refine VC.region ?_
  refine VL.q (Q.fieldAddr fa50_4 rfl) ?_
  refine VL.q (Q.load1 ty4 rfl zM rfl) ?_
  refine VL.quietE (v' := .bool true) (by decide) (Q.not rfl) (by rfl) ?_
  refine VL.q (Q.move rfl) ?_
  refine VL.yes rfl rfl ?_
  refine VL.q (Q.fieldAddr fa50_15 rfl) ?_
  refine VL.yes rfl rfl ?_
  refine VL.q (Q.load1 ty3 rfl zM rfl) ?_
  refine VL.yes rfl rfl ?_
  refine VL.quietE (v' := .bool true) (by decide) (Q.eq rfl rfl) (by rfl) ?_
  refine VL.quietE (v' := .bool true) (by decide) (Q.pick_true rfl rfl) (by rfl) ?_
  refine VL.q (Q.assign rfl) ?_
  refine VL.nil ?_
  refine VE.seq ?_
  refine VC.seq ?_
  refine VC.region ?_
  refine VL.q (Q.fieldAddr fa50_11 rfl) ?_
  refine VL.q (Q.loadA ty43 rfl zM zS) ?_
  refine VL.eff (O.call0 ok46 rfl rfl (by decide) (group_pt) (fun _ _ _ => trivial) ?_)
  intro x101 y101
  refine VL.quietE (v' := .bool true) (by decide) (Q.not rfl) (by rfl) ?_
  refine VL.q (Q.move rfl) ?_
  refine VL.yes rfl rfl ?_
  refine VL.q (Q.move rfl) ?_
  refine VL.yes rfl rfl ?_
  refine VL.q (Q.move rfl) ?_
  refine VL.no (by simp) rfl rfl (.inl rfl) ?_
  refine VL.no (by simp) rfl rfl (.inl rfl) ?_
  refine VL.no (by simp) rfl rfl (.inl rfl) ?_
  refine VL.no (by simp) rfl rfl (.inl rfl) ?_
  refine VL.yes rfl rfl ?_
  refine VL.quietE (v' := .bool true) (by decide) (Q.pick_true rfl rfl) (by rfl) ?_
  refine VL.quietE (v' := .bool true) (by decide) (Q.pick_true rfl rfl) (by rfl) ?_
  refine VL.q (Q.assign rfl) ?_
  refine VL.nil ?_
  refine VE.seq ?_
  refine VC.seq ?_
  refine VC.seq ?_
  refine VC.region ?_
  refine VL.q (Q.loadA ty50 rfl zM zS) ?_
  refine VL.q (Q.build lay50 zF) ?_
  refine VL.quietE (v' := .bool false) (by decide) (Q.neS flt50 (by decide) ty50 eg50 rfl rfl rfl rfl) (by rfl) ?_
  refine VL.q (Q.move rfl) ?_
  refine VL.yes rfl rfl ?_
  refine VL.q (Q.move rfl) ?_
  refine VL.yes rfl rfl ?_
  refine VL.quietE (v' := .bool false) (by decide) (Q.not rfl) (by rfl) ?_
  refine VL.quietE (v' := .bool false) (by decide) (Q.pick_false rfl rfl) (by rfl) ?_
  refine VL.q (Q.move rfl) ?_
  refine VL.yes rfl rfl ?_
  refine VL.q (Q.move rfl) ?_
  refine VL.yes rfl rfl ?_
  refine VL.quietE (v' := .bool false) (by decide) (Q.not rfl) (by rfl) ?_
  refine VL.quietE (v' := .bool false) (by decide) (Q.pick_false rfl rfl) (by rfl) ?_
  refine VL.q (Q.move rfl) ?_
  refine VL.yes rfl rfl ?_
  refine VL.q (Q.loadA ty50 rfl zM zS) ?_
  refine VL.yes rfl rfl ?_
  refine VL.eff (O.call0 ok47 rfl rfl (by decide) (null_back D) (fun _ _ _ => trivial) ?_)
  intro x125 y125
  refine VL.yes rfl rfl ?_
  refine VL.q (Q.move rfl) ?_
  refine VL.no (by simp) rfl rfl (.inl rfl) ?_
  refine VL.no (by simp) rfl rfl (.inl rfl) ?_
  refine VL.no (by simp) rfl rfl (.inl rfl) ?_
  refine VL.no (by simp) rfl rfl (.inr rfl) ?_
  refine VL.no (by simp) rfl rfl (.inr rfl) ?_
  refine VL.no (by simp) rfl rfl (.inl rfl) ?_
  refine VL.no (by simp) rfl rfl (.inl rfl) ?_
  refine VL.no (by simp) rfl rfl (.inr rfl) ?_
  refine VL.no (by simp) rfl rfl (.inr rfl) ?_
  refine VL.no (by simp) rfl rfl (.inl rfl) ?_
  refine VL.yes rfl rfl ?_
  refine VL.quietE (v' := .bool false) (by decide) (Q.pick_false rfl rfl) (by rfl) ?_
  refine VL.quietE (v' := .bool false) (by decide) (Q.pick_false rfl rfl) (by rfl) ?_
  refine VL.nil ?_
  refine VE.seq ?_
  refine VC.condF rfl ?_
  refine VC.skip ?_
  refine VE.seq ?_
  refine VC.seq ?_
  refine VK.keep (by exact .cons (i := 2) rfl ( .nil)) ?_
  refine VC.region ?_
  refine VL.q (Q.assign rfl) ?_
  refine VL.nil ?_
  refine VE.seq ?_
  refine VC.ret ?_
  refine VE.ret rfl (.tmp rfl .nil) () ?_ ?_ (List.nil_sublist _)
  · trivial
  · first | rfl | (exfalso; simp at *; omega)

end Go.Proofs.YtencghlmckbmlaaDoor
