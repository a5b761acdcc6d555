/- The contracts of package header, for the shapes of headers that the seat makes. Conditions: those that each bears. -/
import Derived.Test.YtencghlmckbmlaaGreatRows
import Derived.Test.YtencghlmckbmlaaGreatMore
import Derived.Test.YtencghlmckbmlaaGreatCheck
namespace Go.Proofs.YtencghlmckbmlaaGreat
open Go Go.RowKit Go.Sx
set_option maxRecDepth 100000

theorem ar296 : tyArr Tryz.prog 296 = some (4, 200, 1) := by kernel_rfl
theorem ar44 : tyArr Tryz.prog 44 = some (6, 5, 1) := by kernel_rfl
theorem eg103 : Tryz.prog.eqGuardType Tryz.prog.depth 103 = false := by kernel_rfl
theorem fa103_0 : tyField Tryz.prog 103 0 = some 0 := by kernel_rfl
theorem fa103_1 : tyField Tryz.prog 103 1 = some 1 := by kernel_rfl
theorem fa103_10 : tyField Tryz.prog 103 10 = some 10 := by kernel_rfl
theorem fa103_11 : tyField Tryz.prog 103 11 = some 16 := by kernel_rfl
theorem fa103_12 : tyField Tryz.prog 103 12 = some 22 := by kernel_rfl
theorem fa103_13 : tyField Tryz.prog 103 13 = some 28 := by kernel_rfl
theorem fa103_14 : tyField Tryz.prog 103 14 = some 34 := by kernel_rfl
theorem fa103_15 : tyField Tryz.prog 103 15 = some 35 := by kernel_rfl
theorem fa103_16 : tyField Tryz.prog 103 16 = some 36 := by kernel_rfl
theorem fa103_17 : tyField Tryz.prog 103 17 = some 37 := by kernel_rfl
theorem fa103_4 : tyField Tryz.prog 103 4 = some 4 := by kernel_rfl
theorem fa103_5 : tyField Tryz.prog 103 5 = some 5 := by kernel_rfl
theorem fa103_6 : tyField Tryz.prog 103 6 = some 6 := by kernel_rfl
theorem fa103_7 : tyField Tryz.prog 103 7 = some 7 := by kernel_rfl
theorem fa103_8 : tyField Tryz.prog 103 8 = some 8 := by kernel_rfl
theorem fa103_9 : tyField Tryz.prog 103 9 = some 9 := by kernel_rfl
theorem fa193_1 : tyField Tryz.prog 193 1 = some 1 := by kernel_rfl
theorem fa193_2 : tyField Tryz.prog 193 2 = some 2 := by kernel_rfl
theorem flt103 : flat Tryz.prog 6 103 = some [.int .u8, .int .u8, .bool, .bool, .bool, .bool, .bool, .bool, .bool, .int .i64, .int .u8, .int .u8, .int .u8, .int .u8, .int .u8, .int .u8, .int .u8, .int .u8, .int .u8, .int .u8, .int .u8, .int .u8, .int .u8, .int .u8, .int .u8, .int .u8, .int .u8, .int .u8, .int .u8, .int .u8, .int .u8, .int .u8, .int .u8, .int .u8, .int .i64, .int .i64, .int .i64, .int .u8, .bool, .bool] := by kernel_rfl
theorem lay103 : laysOf Tryz.prog 103 = some ([.int .u8 0, .int .u8 0, .bool false, .bool false, .bool false, .bool false, .bool false, .bool false, .bool false, .int .i64 0, .int .u8 0, .int .u8 0, .int .u8 0, .int .u8 0, .int .u8 0, .int .u8 0, .int .u8 0, .int .u8 0, .int .u8 0, .int .u8 0, .int .u8 0, .int .u8 0, .int .u8 0, .int .u8 0, .int .u8 0, .int .u8 0, .int .u8 0, .int .u8 0, .int .u8 0, .int .u8 0, .int .u8 0, .int .u8 0, .int .u8 0, .int .u8 0, .int .i64 0, .int .i64 0, .int .i64 0, .int .u8 0, .bool false, .bool false], [(0, 1), (1, 1), (2, 1), (3, 1), (4, 1), (5, 1), (6, 1), (7, 1), (8, 1), (9, 1), (10, 6), (16, 6), (22, 6), (28, 6), (34, 1), (35, 1), (36, 1), (37, 1), (38, 1), (39, 1)]) := by kernel_rfl
theorem lay193 : laysOf Tryz.prog 193 = some ([.bool false, .bool false, .bool false], [(0, 1), (1, 1), (2, 1)]) := by kernel_rfl
theorem lay296 : laysOf Tryz.prog 296 = some ([.pointer none, .pointer none, .pointer none, .pointer none], [(0, 1), (1, 1), (2, 1), (3, 1)]) := by kernel_rfl
theorem lay44 : laysOf Tryz.prog 44 = some ([.int .u8 0, .int .u8 0, .int .u8 0, .int .u8 0, .int .u8 0, .int .u8 0], [(0, 1), (1, 1), (2, 1), (3, 1), (4, 1), (5, 1)]) := by kernel_rfl
theorem ok156 : okFunc Tryz.prog 156 = true := by kernel_rfl
theorem ok157 : okFunc Tryz.prog 157 = true := by kernel_rfl
theorem ok158 : okFunc Tryz.prog 158 = true := by kernel_rfl
theorem ok73 : okFunc Tryz.prog 73 = true := by kernel_rfl
theorem ok75 : okFunc Tryz.prog 75 = true := by kernel_rfl
theorem sl196 : tySlice Tryz.prog 196 = some (200, 1, 8) := by kernel_rfl
theorem ty103 : tySz Tryz.prog 103 = some (true, 40) := by kernel_rfl
theorem ty193 : tySz Tryz.prog 193 = some (true, 3) := by kernel_rfl
theorem ty200 : tySz Tryz.prog 200 = some (false, 1) := by kernel_rfl
theorem ty296 : tySz Tryz.prog 296 = some (true, 4) := by kernel_rfl
theorem ty3 : tySz Tryz.prog 3 = some (false, 1) := by kernel_rfl
theorem ty4 : tySz Tryz.prog 4 = some (false, 1) := by kernel_rfl
theorem ty44 : tySz Tryz.prog 44 = some (true, 6) := by kernel_rfl
theorem zo103 : tyZero Tryz.prog 103 = some [.int .u8 0, .int .u8 0, .bool false, .bool false, .bool false, .bool false, .bool false, .bool false, .bool false, .int .i64 0, .int .u8 0, .int .u8 0, .int .u8 0, .int .u8 0, .int .u8 0, .int .u8 0, .int .u8 0, .int .u8 0, .int .u8 0, .int .u8 0, .int .u8 0, .int .u8 0, .int .u8 0, .int .u8 0, .int .u8 0, .int .u8 0, .int .u8 0, .int .u8 0, .int .u8 0, .int .u8 0, .int .u8 0, .int .u8 0, .int .u8 0, .int .u8 0, .int .i64 0, .int .i64 0, .int .i64 0, .int .u8 0, .bool false, .bool false] := by kernel_rfl
theorem zo193 : tyZero Tryz.prog 193 = some [.bool false, .bool false, .bool false] := by kernel_rfl
theorem zo296 : tyZero Tryz.prog 296 = some [.pointer none, .pointer none, .pointer none, .pointer none] := by kernel_rfl

theorem put16_c (p : Option Addr) (m c : Nat) (xs : List Value) (v : Int) (hv : 0 ≤ v ∧ v ≤ 65535) (hm : m ≤ 1000000) :
  Does Tryz.prog 196 [.slice p m c, .int .i64 v] [.row (.slice p m c) 5 1 m xs] (fun _ => True) (X := Option Addr × Nat) (fun x => m + 2 ≤ x.2) (fun x => .slice x.1 (m + 2) x.2) (fun x => [.row (.slice x.1 (m + 2) x.2) 5 1 (m + 2) (xs ++ [.int .u8 (v % 256), .int .u8 (v / 256)])]) := by
 refine Does.enter Tryz.func196 rfl (m := 13) rfl (by simp) ?_
 intro W0 hro
 refine VC.seq ?_
 refine VC.region ?_
 refine VL.q (Q.assign rfl) ?_
 refine VL.nil ?_
 refine VE.seq ?_
 refine VC.seq ?_
 refine VC.region ?_
 refine VL.q (Q.move rfl) ?_
 refine VL.q (Q.move rfl) ?_
 refine VL.q (Q.convM (M := 256) ti3 ti5 rfl rfl rfl) ?_
 refine VL.q (Q.move rfl) ?_
 refine VL.q (Q.shrC (s := 8) (m := 256) rfl rfl (by decide) (by decide)) ?_
 refine VL.q (Q.convF ti3 ti5 rfl (by simp only [klo]; omega) (by simp only [khi]; omega)) ?_
 refine VL.eff (O.buildSlice sl23 ze5 (by decide) zF (by decide) ?_)
 intro g11
 refine VL.eff (O.appendS sl23 ze5 rfl (by decide) rfl rfl zM zS rfl (by decide) (by unfold maxLen; omega) (by omega) zA ?_)
 intro p12 c12 hc12
 refine VL.q (Q.assign rfl) ?_
 refine VL.nil ?_
 refine VE.seq ?_
 refine VC.ret ?_
 refine VE.ret rfl (.tmp rfl .nil) (p12, c12) ?_ ?_ (.cons _ (.cons_cons _ (List.nil_sublist _)))
 ·
  omega
 ·
  first | rfl | (exfalso; simp at *; omega)

theorem known_bcn  :
  Does Tryz.prog 73 [.int .u8 0, .int .u8 8] [] (fun _ => True) (X := Unit) (fun _ => True) (fun _ => .tuple #[.agg #[.bool true, .bool true, .bool false], .bool true]) (fun _ => []) := by
 refine Does.enter Tryz.func73 rfl (m := 47) rfl (by simp) ?_
 intro W0 hro
 refine VC.seq ?_
 refine VC.region ?_
 refine VL.eff (O.alloc zo193 (by decide) ?_)
 intro g4
 refine VL.q (Q.assign rfl) ?_
 refine VL.nil ?_
 refine VE.seq ?_
 refine VC.seq ?_
 refine VC.seq ?_
 refine VC.region ?_
 refine VL.q (Q.move rfl) ?_
 refine VL.nil ?_
 refine VE.seq ?_
 refine VC.block ?_
 refine VC.seq ?_
 refine VC.region ?_
 refine VL.quietE (v' := .bool true) (by decide) (Q.eq rfl rfl) (by rfl) ?_
 refine VL.q (Q.assign rfl) ?_
 refine VL.nil ?_
 refine VE.seq ?_
 refine VC.condT rfl ?_
 refine VC.seq ?_
 refine VC.region ?_
 refine VL.q (Q.build lay193 zF) ?_
 refine VL.q (Q.move rfl) ?_
 refine VL.quietE (v' := .bool false) (by decide) (Q.le rfl rfl) (by rfl) ?_
 refine VL.q (Q.move rfl) ?_
 refine VL.yes rfl rfl ?_
 refine VL.q (Q.move rfl) ?_
 refine VL.yes rfl rfl ?_
 refine VL.quietE (v' := .bool true) (by decide) (Q.eq rfl rfl) (by rfl) ?_
 refine VL.quietE (v' := .bool true) (by decide) (Q.pick_false rfl rfl) (by rfl) ?_
 refine VL.q (Q.move rfl) ?_
 refine VL.no (by simp) rfl rfl (.inl rfl) ?_
 refine VL.no (by simp) rfl rfl (.inl rfl) ?_
 refine VL.no (by simp) rfl rfl (.inl rfl) ?_
 refine VL.no (by simp) rfl rfl (.inr rfl) ?_
 refine VL.no (by simp) rfl rfl (.inr rfl) ?_
 refine VL.no (by simp) rfl rfl (.inl rfl) ?_
 refine VL.quietE (v' := .bool true) (by decide) (Q.pick_true rfl rfl) (by rfl) ?_
 refine VL.eff (O.store ty193 rfl rfl rfl rfl zU zP ?_)
 refine VL.q (Q.assign rfl) ?_
 refine VL.nil ?_
 refine VE.seq ?_
 refine VC.ret ?_
 refine VE.block_ret ?_
 refine VE.then_ret ?_
 refine VE.ret rfl (.cell ty193 rfl zM rfl (.tmp rfl .nil)) () ?_ ?_ (List.nil_sublist _)
 ·
  trivial
 ·
  first | rfl | (exfalso; simp at *; omega)

theorem null_bcn (D : Nat) (t f : Nat) (ht : t ≤ 255) (hf : f ≤ 255) :
  Does Tryz.prog 158 [.agg #[.int .u8 0, .int .u8 8, .bool false, .bool false, .bool false, .bool false, .bool false, .bool false, .bool false, .int .i64 (D : Int), .int .u8 255, .int .u8 255, .int .u8 255, .int .u8 255, .int .u8 255, .int .u8 255, .int .u8 2, .int .u8 0, .int .u8 0, .int .u8 0, .int .u8 1, .int .u8 (f : Int), .int .u8 2, .int .u8 0, .int .u8 0, .int .u8 0, .int .u8 1, .int .u8 (f : Int), .int .u8 0, .int .u8 0, .int .u8 0, .int .u8 0, .int .u8 0, .int .u8 0, .int .i64 0, .int .i64 0, .int .i64 0, .int .u8 0, .bool false, .bool false]] [] (fun _ => True) (X := Unit) (fun _ => True) (fun _ => .bool false) (fun _ => []) := by
 refine Does.enter Tryz.func158 rfl (m := 12) rfl (by simp) ?_
 intro W0 hro
 refine VC.seq ?_
 refine VC.region ?_
 refine VL.eff (O.box rfl rfl (by decide) ?_)
 intro g1
 refine VL.q (Q.assign rfl) ?_
 refine VL.nil ?_
 refine VE.seq ?_
 refine VC.seq ?_
 refine VC.region ?_
 refine VL.q (Q.fieldAddr fa103_0 rfl) ?_
 refine VL.q (Q.load1 ty5 rfl zM rfl) ?_
 refine VL.quietE (v' := .bool false) (by decide) (Q.eq rfl rfl) (by rfl) ?_
 refine VL.q (Q.move rfl) ?_
 refine VL.no (by simp) rfl rfl (.inl rfl) ?_
 refine VL.no (by simp) rfl rfl (.inl rfl) ?_
 refine VL.no (by simp) rfl rfl (.inl rfl) ?_
 refine VL.no (by simp) rfl rfl (.inl rfl) ?_
 refine VL.quietE (v' := .bool false) (by decide) (Q.pick_false rfl rfl) (by rfl) ?_
 refine VL.q (Q.assign rfl) ?_
 refine VL.nil ?_
 refine VE.seq ?_
 refine VC.ret ?_
 refine VE.ret rfl (.tmp rfl .nil) () ?_ ?_ (List.nil_sublist _)
 ·
  trivial
 ·
  first | rfl | (exfalso; simp at *; omega)

theorem bare_bcn (D : Nat) (t f : Nat) (ht : t ≤ 255) (hf : f ≤ 255) :
  Does Tryz.prog 77 [.agg #[.int .u8 0, .int .u8 8, .bool false, .bool false, .bool false, .bool false, .bool false, .bool false, .bool false, .int .i64 (D : Int), .int .u8 255, .int .u8 255, .int .u8 255, .int .u8 255, .int .u8 255, .int .u8 255, .int .u8 2, .int .u8 0, .int .u8 0, .int .u8 0, .int .u8 1, .int .u8 (f : Int), .int .u8 2, .int .u8 0, .int .u8 0, .int .u8 0, .int .u8 1, .int .u8 (f : Int), .int .u8 0, .int .u8 0, .int .u8 0, .int .u8 0, .int .u8 0, .int .u8 0, .int .i64 0, .int .i64 0, .int .i64 0, .int .u8 0, .bool false, .bool false]] [] (fun _ => True) (X := Unit) (fun _ => True) (fun _ => .bool false) (fun _ => []) := by
 refine Does.enter Tryz.func77 rfl (m := 15) rfl (by simp) ?_
 intro W0 hro
 refine VC.seq ?_
 refine VC.region ?_
 refine VL.eff (O.box rfl rfl (by decide) ?_)
 intro g1
 refine VL.q (Q.assign rfl) ?_
 refine VL.nil ?_
 refine VE.seq ?_
 refine VC.seq ?_
 refine VC.region ?_
 refine VL.q (Q.loadA ty103 rfl zM zS) ?_
 refine VL.eff (O.call0 ok158 rfl rfl (by decide) (null_bcn D t f ht hf) (fun _ _ _ => trivial) ?_)
 intro x4 y4
 refine VL.q (Q.move rfl) ?_
 refine VL.yes rfl rfl ?_
 refine VL.q (Q.fieldAddr fa103_0 rfl) ?_
 refine VL.yes rfl rfl ?_
 refine VL.q (Q.load1 ty5 rfl zM rfl) ?_
 refine VL.yes rfl rfl ?_
 refine VL.quietE (v' := .bool false) (by decide) (Q.eq rfl rfl) (by rfl) ?_
 refine VL.yes rfl rfl ?_
 refine VL.q (Q.move rfl) ?_
 refine VL.no (by simp) rfl rfl (.inl rfl) ?_
 refine VL.no (by simp) rfl rfl (.inl rfl) ?_
 refine VL.no (by simp) rfl rfl (.inl rfl) ?_
 refine VL.yes rfl rfl ?_
 refine VL.quietE (v' := .bool false) (by decide) (Q.pick_false rfl rfl) (by rfl) ?_
 refine VL.quietE (v' := .bool false) (by decide) (Q.pick_false rfl rfl) (by rfl) ?_
 refine VL.q (Q.assign rfl) ?_
 refine VL.nil ?_
 refine VE.seq ?_
 refine VC.ret ?_
 refine VE.ret rfl (.tmp rfl .nil) () ?_ ?_ (List.nil_sublist _)
 ·
  trivial
 ·
  first | rfl | (exfalso; simp at *; omega)

theorem group_bcn (f : Nat) (hf : f ≤ 255) :
  Does Tryz.prog 157 [.agg #[.int .u8 2, .int .u8 0, .int .u8 0, .int .u8 0, .int .u8 1, .int .u8 (f : Int)]] [] (fun _ => True) (X := Unit) (fun _ => True) (fun _ => .bool false) (fun _ => []) := by
 refine Does.enter Tryz.func157 rfl (m := 7) rfl (by simp) ?_
 intro W0 hro
 refine VC.seq ?_
 refine VC.region ?_
 refine VL.eff (O.box rfl rfl (by decide) ?_)
 intro g1
 refine VL.q (Q.assign rfl) ?_
 refine VL.nil ?_
 refine VE.seq ?_
 refine VC.seq ?_
 refine VC.region ?_
 refine VL.q (Q.indexAddrA ar44 (j := 0) rfl rfl rfl (by omega)) ?_
 refine VL.q (Q.load1 ty5 rfl zM rfl) ?_
 refine VL.quietE (v' := .int .u8 0) (by decide) (Q.and rfl rfl (by omega) (by simp only [khi]; omega) (by omega) (by simp only [khi]; omega)) (by rfl) ?_
 refine VL.quietE (v' := .bool false) (by decide) (Q.ne rfl rfl) (by rfl) ?_
 refine VL.q (Q.assign rfl) ?_
 refine VL.nil ?_
 refine VE.seq ?_
 refine VC.ret ?_
 refine VE.ret rfl (.tmp rfl .nil) () ?_ ?_ (List.nil_sublist _)
 ·
  trivial
 ·
  first | rfl | (exfalso; simp at *; omega)

theorem in_c (v m : Int) (h : 0 ≤ v ∧ v ≤ m) :
  Does Tryz.prog 156 [.int .i64 v, .int .i64 m] [] (fun _ => True) (X := Unit) (fun _ => True) (fun _ => .bool true) (fun _ => []) := by
 refine Does.enter Tryz.func156 rfl (m := 12) rfl (by simp) ?_
 intro W0 hro
 refine VC.seq ?_
 refine VC.region ?_
 refine VL.q (Q.assign rfl) ?_
 refine VL.nil ?_
 refine VE.seq ?_
 refine VC.seq ?_
 refine VC.region ?_
 refine VL.q (Q.move rfl) ?_
 refine VL.q (Q.ge rfl rfl) ?_
 refine VL.q (Q.move rfl) ?_
 refine VK.case 7 rfl ?_ ?_
 ·
  intro h7
  refine VL.yes rfl rfl ?_
  refine VL.q (Q.move rfl) ?_
  refine VL.yes rfl rfl ?_
  refine VL.q (Q.move rfl) ?_
  refine VL.yes rfl rfl ?_
  refine VL.q (Q.le rfl rfl) ?_
  refine VL.q (Q.pick_true rfl rfl) ?_
  refine VL.q (Q.assign rfl) ?_
  refine VL.nil ?_
  refine VE.seq ?_
  refine VC.ret ?_
  refine VE.ret rfl (.tmp rfl .nil) () ?_ ?_ (List.nil_sublist _)
  ·
   trivial
  ·
   first | rfl | exact congrArg Value.bool (by simp; omega) | (exfalso; simp at *; omega)
 ·
  intro h7
  refine VL.no (by simp) rfl rfl (.inl rfl) ?_
  refine VL.no (by simp) rfl rfl (.inl rfl) ?_
  refine VL.no (by simp) rfl rfl (.inl rfl) ?_
  refine VL.q (Q.pick_false rfl rfl) ?_
  refine VL.q (Q.assign rfl) ?_
  refine VL.nil ?_
  refine VE.seq ?_
  refine VC.ret ?_
  refine VE.ret rfl (.tmp rfl .nil) () ?_ ?_ (List.nil_sublist _)
  ·
   trivial
  ·
   first | rfl | exact congrArg Value.bool (by simp; omega) | (exfalso; simp at *; omega)

theorem places_bcn (g : Nat) :
  Does Tryz.prog 75 [.pointer (some ⟨g, 0, none⟩)] [] (fun W => Rd W (some ⟨g, 0, none⟩) [.int .u8 0, .int .u8 8, .bool false, .bool false]) (X := Nat) (fun _ => True) (fun x => .tuple #[.slice (some ⟨x, 0, none⟩) 3 4, .slice none 0 0]) (fun x => [.blk x [.pointer (some ⟨g, 10, none⟩), .pointer (some ⟨g, 16, none⟩), .pointer (some ⟨g, 22, none⟩), .pointer (some ⟨g, 28, none⟩)] 296]) := by
 refine Does.enter Tryz.func75 rfl (m := 67) rfl (by simp) ?_
 intro W0 hro
 refine VC.seq ?_
 refine VC.region ?_
 refine VL.q (Q.assign rfl) ?_
 refine VL.q (Q.assign rfl) ?_
 refine VL.nil ?_
 refine VE.seq ?_
 refine VC.seq ?_
 refine VA.start (Ls := []) (Cs := []) mixed ?_
 refine VA.take 0 rfl (by kernel_rfl) (by kernel_rfl) (by kernel_rfl) (Still.then Still.body) (List.nil_sublist _) Cells.nil (by decide) (Quiet.c (Q.move rfl)) ?_
 refine VA.take 1 rfl (by kernel_rfl) (by kernel_rfl) (by kernel_rfl) (Still.then Still.body) (List.nil_sublist _) Cells.nil (by decide) (Quiet.c (Q.nilCheck rfl)) ?_
 refine VA.take 2 rfl (by kernel_rfl) (by kernel_rfl) (by kernel_rfl) (Still.then Still.body) (List.nil_sublist _) Cells.nil (by decide) (Quiet.c (Q.fieldAddr fa103_10 rfl)) ?_
 refine VA.take 3 rfl (by kernel_rfl) (by kernel_rfl) (by kernel_rfl) (Still.then Still.body) (List.nil_sublist _) Cells.nil (by decide) (Quiet.c (Q.move rfl)) ?_
 refine VA.take 4 rfl (by kernel_rfl) (by kernel_rfl) (by kernel_rfl) (Still.then Still.body) (List.nil_sublist _) Cells.nil (by decide) (Quiet.c (Q.nilCheck rfl)) ?_
 refine VA.take 5 rfl (by kernel_rfl) (by kernel_rfl) (by kernel_rfl) (Still.then Still.body) (List.nil_sublist _) Cells.nil (by decide) (Quiet.c (Q.fieldAddr fa103_11 rfl)) ?_
 refine VA.take 6 rfl (by kernel_rfl) (by kernel_rfl) (by kernel_rfl) (Still.then Still.body) (List.nil_sublist _) Cells.nil (by decide) (Quiet.c (Q.move rfl)) ?_
 refine VA.take 7 rfl (by kernel_rfl) (by kernel_rfl) (by kernel_rfl) (Still.then Still.body) (List.nil_sublist _) Cells.nil (by decide) (Quiet.c (Q.nilCheck rfl)) ?_
 refine VA.take 8 rfl (by kernel_rfl) (by kernel_rfl) (by kernel_rfl) (Still.then Still.body) (List.nil_sublist _) Cells.nil (by decide) (Quiet.c (Q.fieldAddr fa103_12 rfl)) ?_
 refine VA.take 9 rfl (by kernel_rfl) (by kernel_rfl) (by kernel_rfl) (Still.then Still.body) (List.nil_sublist _) Cells.nil (by decide) (Quiet.c (Q.move rfl)) ?_
 refine VA.take 10 rfl (by kernel_rfl) (by kernel_rfl) (by kernel_rfl) (Still.then Still.body) (List.nil_sublist _) Cells.nil (by decide) (Quiet.c (Q.nilCheck rfl)) ?_
 refine VA.take 11 rfl (by kernel_rfl) (by kernel_rfl) (by kernel_rfl) (Still.then Still.body) (List.nil_sublist _) Cells.nil (by decide) (Quiet.c (Q.fieldAddr fa103_13 rfl)) ?_
 refine VA.take 12 rfl (by kernel_rfl) (by kernel_rfl) (by kernel_rfl) (Still.then Still.body) (List.nil_sublist _) Cells.nil (by decide) (Quiet.c (Q.build lay296 zF)) ?_
 refine VA.all (rs := [13]) (by kernel_rfl) (by simp) ?_
 refine VA.forall1 ?_
 ·
  refine VA.eff rfl ?_
  refine id (O.alloc zo296 (by decide) ?_)
  intro g4
  refine VA.next (List.nil_sublist _) Cells.nil ?_
  refine VA.all (rs := [14]) (by kernel_rfl) (by simp) ?_
  refine VA.forall1 ?_
  ·
   refine VA.eff rfl ?_
   refine id (O.store ty296 rfl rfl rfl rfl zU zP ?_)
   refine VA.next (List.nil_sublist _) Cells.nil ?_
   refine VA.done (by kernel_rfl) ?_
   refine VE.seq ?_
   refine VC.seq ?_
   refine VC.block ?_
   refine VC.seq ?_
   refine VC.region ?_
   refine VL.q (Q.move rfl) ?_
   refine VL.q (Q.nilCheck rfl) ?_
   refine VL.q (Q.fieldAddr fa103_0 rfl) ?_
   refine VL.q (Q.load0 ty5 rfl (Rd.at (j := 0) hro rfl) (by simp)) ?_
   refine VL.quietE (v' := .bool false) (by decide) (Q.eq rfl rfl) (by rfl) ?_
   refine VL.q (Q.move rfl) ?_
   refine VL.no (by simp) rfl rfl (.inl rfl) ?_
   refine VL.no (by simp) rfl rfl (.inl rfl) ?_
   refine VL.no (by simp) rfl rfl (.inl rfl) ?_
   refine VL.no (by simp) rfl rfl (.inl rfl) ?_
   refine VL.no (by simp) rfl rfl (.inl rfl) ?_
   refine VL.no (by simp) rfl rfl (.inl rfl) ?_
   refine VL.no (by simp) rfl rfl (.inr rfl) ?_
   refine VL.no (by simp) rfl rfl (.inr rfl) ?_
   refine VL.no (by simp) rfl rfl (.inr rfl) ?_
   refine VL.no (by simp) rfl rfl (.inr rfl) ?_
   refine VL.no (by simp) rfl rfl (.inr rfl) ?_
   refine VL.no (by simp) rfl rfl (.inl rfl) ?_
   refine VL.quietE (v' := .bool false) (by decide) (Q.pick_false rfl rfl) (by rfl) ?_
   refine VL.q (Q.assign rfl) ?_
   refine VL.nil ?_
   refine VE.seq ?_
   refine VC.condF rfl ?_
   refine VC.seq ?_
   refine VC.region ?_
   refine VL.q (Q.move rfl) ?_
   refine VL.q (Q.nilCheck rfl) ?_
   refine VL.q (Q.fieldAddr fa103_0 rfl) ?_
   refine VL.q (Q.load0 ty5 rfl (Rd.at (j := 0) hro rfl) (by simp)) ?_
   refine VL.quietE (v' := .bool false) (by decide) (Q.eq rfl rfl) (by rfl) ?_
   refine VL.q (Q.assign rfl) ?_
   refine VL.nil ?_
   refine VE.seq ?_
   refine VC.condF rfl ?_
   refine VC.seq ?_
   refine VK.keep (by exact .cons (i := 0) rfl (.cons (i := 2) rfl (.cons (i := 3) rfl (.cons (i := 4) rfl ( .nil))))) ?_
   refine VC.region ?_
   refine VL.q (Q.move rfl) ?_
   refine VL.q (Q.nilCheck rfl) ?_
   refine VL.q (Q.fieldAddr fa103_0 rfl) ?_
   refine VL.q (Q.load0 ty5 rfl (Rd.at (j := 0) hro rfl) (by simp)) ?_
   refine VL.quietE (v' := .bool false) (by decide) (Q.eq rfl rfl) (by rfl) ?_
   refine VL.q (Q.move rfl) ?_
   refine VL.no (by simp) rfl rfl (.inl rfl) ?_
   refine VL.no (by simp) rfl rfl (.inl rfl) ?_
   refine VL.no (by simp) rfl rfl (.inl rfl) ?_
   refine VL.no (by simp) rfl rfl (.inl rfl) ?_
   refine VL.quietE (v' := .bool false) (by decide) (Q.pick_false rfl rfl) (by rfl) ?_
   refine VL.q (Q.move rfl) ?_
   refine VL.no (by simp) rfl rfl (.inl rfl) ?_
   refine VL.no (by simp) rfl rfl (.inl rfl) ?_
   refine VL.no (by simp) rfl rfl (.inl rfl) ?_
   refine VL.no (by simp) rfl rfl (.inl rfl) ?_
   refine VL.quietE (v' := .bool false) (by decide) (Q.pick_false rfl rfl) (by rfl) ?_
   refine VL.q (Q.assign rfl) ?_
   refine VL.nil ?_
   refine VE.seq ?_
   refine VC.condF rfl ?_
   refine VC.skip ?_
   refine VE.block_normal ?_
   refine VE.seq ?_
   refine VC.seq ?_
   refine VC.region ?_
   refine VL.q (Q.slcA0 ar296 (h := 3) rfl ⟨_, _, rfl, rfl⟩ (by omega)) ?_
   refine VL.q (Q.assign rfl) ?_
   refine VL.q (Q.assign rfl) ?_
   refine VL.nil ?_
   refine VE.seq ?_
   refine VC.ret ?_
   refine VE.ret rfl (.tmp rfl (.tmp rfl .nil)) g4 ?_ ?_ (.cons_cons _ (List.nil_sublist _))
   ·
    trivial
   ·
    first | rfl | (exfalso; simp at *; omega)

theorem check_bcn (D : Nat) (hD : D ≤ 32767) (t f : Nat) (ht : t ≤ 255) (hf : f ≤ 255) :
  Does Tryz.prog 76 [.agg #[.int .u8 0, .int .u8 8, .bool false, .bool false, .bool false, .bool false, .bool false, .bool false, .bool false, .int .i64 (D : Int), .int .u8 255, .int .u8 255, .int .u8 255, .int .u8 255, .int .u8 255, .int .u8 255, .int .u8 2, .int .u8 0, .int .u8 0, .int .u8 0, .int .u8 1, .int .u8 (f : Int), .int .u8 2, .int .u8 0, .int .u8 0, .int .u8 0, .int .u8 1, .int .u8 (f : Int), .int .u8 0, .int .u8 0, .int .u8 0, .int .u8 0, .int .u8 0, .int .u8 0, .int .i64 0, .int .i64 0, .int .i64 0, .int .u8 0, .bool false, .bool false]] [] (fun _ => True) (X := Unit) (fun _ => True) (fun _ => .int .i64 0) (fun _ => []) := by
 refine Does.enter Tryz.func76 rfl (m := 139) rfl (by simp) ?_
 intro W0 hro
 refine VC.seq ?_
 refine VC.region ?_
 refine VL.eff (O.box rfl rfl (by decide) ?_)
 intro g1
 refine VL.q (Q.assign rfl) ?_
 refine VL.nil ?_
 refine VE.seq ?_
 refine VC.seq ?_
 refine VC.region ?_
 refine VL.q (Q.fieldAddr fa103_0 rfl) ?_
 refine VL.q (Q.load1 ty5 rfl zM rfl) ?_
 refine VL.q (Q.fieldAddr fa103_1 rfl) ?_
 refine VL.q (Q.load1 ty5 rfl zM rfl) ?_
 refine VL.eff (O.call0 ok73 rfl rfl (by decide) (known_bcn) (fun _ _ _ => trivial) ?_)
 intro x19 y19
 refine VL.q (Q.move rfl) ?_
 refine VL.q (Q.extract rfl rfl) ?_
 refine VL.q (Q.extract rfl rfl) ?_
 refine VL.eff (O.alloc zo193 (by decide) ?_)
 intro g3
 refine VL.eff (O.store ty193 rfl rfl rfl rfl zU zP ?_)
 refine VL.q (Q.assign rfl) ?_
 refine VL.nil ?_
 refine VE.seq ?_
 refine VC.seq ?_
 refine VC.seq ?_
 refine VC.region ?_
 refine VL.q (Q.move rfl) ?_
 refine VL.quietE (v' := .bool false) (by decide) (Q.not rfl) (by rfl) ?_
 refine VL.nil ?_
 refine VE.seq ?_
 refine VC.condF rfl ?_
 refine VC.skip ?_
 refine VE.seq ?_
 refine VC.seq ?_
 refine VC.region ?_
 refine VL.q (Q.loadA ty103 rfl zM zS) ?_
 refine VL.eff (O.alloc zo103 (by decide) ?_)
 intro g5
 refine VL.eff (O.store ty103 rfl rfl rfl rfl zU zP ?_)
 refine VL.nil ?_
 refine VE.seq ?_
 refine VC.seq ?_
 refine VC.region ?_
 refine VL.eff (O.call0 ok75 rfl rfl (by decide) (places_bcn _) (fun _ _ hw => Rd.seg hw zM zS) ?_)
 intro x26 y26
 refine VL.q (Q.move rfl) ?_
 refine VL.q (Q.extract rfl rfl) ?_
 refine VL.q (Q.extract rfl rfl) ?_
 refine VL.q (Q.assign rfl) ?_
 refine VL.q (Q.assign rfl) ?_
 refine VL.nil ?_
 refine VE.seq ?_
 refine VC.seq ?_
 refine VC.seq ?_
 refine VC.region ?_
 refine VL.q (Q.move rfl) ?_
 refine VL.q (Q.move rfl) ?_
 refine VL.q (Q.append0 sl196 rfl rfl (by omega)) ?_
 refine VL.q (Q.len sl196 rfl) ?_
 refine VL.q (Q.move rfl) ?_
 refine VL.nil ?_
 refine VE.seq ?_
 refine VC.block ?_
 refine VC.rounds 40 ?_
 refine VC.rnd (m := 39) ?_
 refine VC.seq ?_
 refine VC.region ?_
 refine VL.q (Q.lt rfl rfl) ?_
 refine VL.nil ?_
 refine VE.seq ?_
 refine VC.seq ?_
 refine VC.condT rfl ?_
 refine VC.skip ?_
 refine VE.seq ?_
 refine VC.seq ?_
 refine VC.block ?_
 refine VC.seq ?_
 refine VC.region ?_
 refine VL.q (Q.indexAddr sl196 (j := 0) rfl rfl rfl (by omega)) ?_
 refine VL.q (Q.load1 ty200 rfl zM rfl) ?_
 refine VL.q (Q.assign rfl) ?_
 refine VL.nil ?_
 refine VE.seq ?_
 refine VC.region ?_
 refine VL.q (Q.move rfl) ?_
 refine VL.q (Q.build lay44 zF) ?_
 refine VL.q (Q.nilCheck rfl) ?_
 refine VL.eff (O.store ty44 rfl rfl rfl rfl zU zP ?_)
 refine VL.nil ?_
 refine VE.block_normal ?_
 refine VE.seq ?_
 refine VC.region ?_
 refine VL.quietE (v' := .int .i64 1) (by decide) ((by first | exact Q.addI rfl rfl (by omega) (by omega) | exact Q.add rfl rfl)) (by rfl) ?_
 refine VL.q (Q.move rfl) ?_
 refine VL.nil ?_
 refine VE.then_normal ?_
 refine VC.rnd (m := 38) ?_
 refine VC.seq ?_
 refine VC.region ?_
 refine VL.q (Q.lt rfl rfl) ?_
 refine VL.nil ?_
 refine VE.seq ?_
 refine VC.seq ?_
 refine VC.condT rfl ?_
 refine VC.skip ?_
 refine VE.seq ?_
 refine VC.seq ?_
 refine VC.block ?_
 refine VC.seq ?_
 refine VC.region ?_
 refine VL.q (Q.indexAddr sl196 (j := 1) rfl rfl rfl (by omega)) ?_
 refine VL.q (Q.load1 ty200 rfl zM rfl) ?_
 refine VL.q (Q.assign rfl) ?_
 refine VL.nil ?_
 refine VE.seq ?_
 refine VC.region ?_
 refine VL.q (Q.move rfl) ?_
 refine VL.q (Q.build lay44 zF) ?_
 refine VL.q (Q.nilCheck rfl) ?_
 refine VL.eff (O.store ty44 rfl rfl rfl rfl zU zP ?_)
 refine VL.nil ?_
 refine VE.block_normal ?_
 refine VE.seq ?_
 refine VC.region ?_
 refine VL.quietE (v' := .int .i64 2) (by decide) ((by first | exact Q.addI rfl rfl (by omega) (by omega) | exact Q.add rfl rfl)) (by rfl) ?_
 refine VL.q (Q.move rfl) ?_
 refine VL.nil ?_
 refine VE.then_normal ?_
 refine VC.rnd (m := 37) ?_
 refine VC.seq ?_
 refine VC.region ?_
 refine VL.q (Q.lt rfl rfl) ?_
 refine VL.nil ?_
 refine VE.seq ?_
 refine VC.seq ?_
 refine VC.condT rfl ?_
 refine VC.skip ?_
 refine VE.seq ?_
 refine VC.seq ?_
 refine VC.block ?_
 refine VC.seq ?_
 refine VC.region ?_
 refine VL.q (Q.indexAddr sl196 (j := 2) rfl rfl rfl (by omega)) ?_
 refine VL.q (Q.load1 ty200 rfl zM rfl) ?_
 refine VL.q (Q.assign rfl) ?_
 refine VL.nil ?_
 refine VE.seq ?_
 refine VC.region ?_
 refine VL.q (Q.move rfl) ?_
 refine VL.q (Q.build lay44 zF) ?_
 refine VL.q (Q.nilCheck rfl) ?_
 refine VL.eff (O.store ty44 rfl rfl rfl rfl zU zP ?_)
 refine VL.nil ?_
 refine VE.block_normal ?_
 refine VE.seq ?_
 refine VC.region ?_
 refine VL.quietE (v' := .int .i64 3) (by decide) ((by first | exact Q.addI rfl rfl (by omega) (by omega) | exact Q.add rfl rfl)) (by rfl) ?_
 refine VL.q (Q.move rfl) ?_
 refine VL.nil ?_
 refine VE.then_normal ?_
 refine VC.rnd (m := 36) ?_
 refine VC.seq ?_
 refine VC.region ?_
 refine VL.q (Q.lt rfl rfl) ?_
 refine VL.nil ?_
 refine VE.seq ?_
 refine VC.seq ?_
 refine VC.condF rfl ?_
 refine VC.exit ?_
 refine VE.then_exit ?_
 refine VE.then_exit ?_
 refine VE.block_here ?_
 refine VE.seq ?_
 refine VC.seq ?_
 refine VC.region ?_
 refine VL.q (Q.fieldAddr fa103_0 rfl) ?_
 refine VL.eff (O.store ty5 rfl rfl rfl rfl zU zP ?_)
 refine VL.q (Q.fieldAddr fa103_1 rfl) ?_
 refine VL.eff (O.store ty5 rfl rfl rfl rfl zU zP ?_)
 refine VL.q (Q.fieldAddr fa103_6 rfl) ?_
 refine VL.eff (O.store ty4 rfl rfl rfl rfl zU zP ?_)
 refine VL.q (Q.fieldAddr fa103_7 rfl) ?_
 refine VL.eff (O.store ty4 rfl rfl rfl rfl zU zP ?_)
 refine VL.q (Q.fieldAddr fa103_9 rfl) ?_
 refine VL.eff (O.store ty3 rfl rfl rfl rfl zU zP ?_)
 refine VL.nil ?_
 refine VE.seq ?_
 refine VC.seq ?_
 refine VC.seq ?_
 refine VK.keep (by exact .cons (i := 1) rfl (.cons (i := 2) rfl (.cons (i := 3) rfl (.cons (i := 5) rfl ( .nil))))) ?_
 refine VC.region ?_
 refine VL.q (Q.fieldAddr fa103_0 rfl) ?_
 refine VL.q (Q.load1 ty5 rfl zM rfl) ?_
 refine VL.quietE (v' := .bool false) (by decide) (Q.eq rfl rfl) (by rfl) ?_
 refine VL.nil ?_
 refine VE.seq ?_
 refine VC.condF rfl ?_
 refine VC.skip ?_
 refine VE.seq ?_
 refine VC.seq ?_
 refine VC.seq ?_
 refine VC.region ?_
 refine VL.q (Q.fieldAddr fa193_1 rfl) ?_
 refine VL.q (Q.load1 ty4 rfl zM rfl) ?_
 refine VL.nil ?_
 refine VE.seq ?_
 refine VC.condT rfl ?_
 refine VC.region ?_
 refine VL.q (Q.fieldAddr fa103_4 rfl) ?_
 refine VL.eff (O.store ty4 rfl rfl rfl rfl zU zP ?_)
 refine VL.q (Q.fieldAddr fa103_5 rfl) ?_
 refine VL.eff (O.store ty4 rfl rfl rfl rfl zU zP ?_)
 refine VL.q (Q.fieldAddr fa103_8 rfl) ?_
 refine VL.eff (O.store ty4 rfl rfl rfl rfl zU zP ?_)
 refine VL.q (Q.fieldAddr fa103_14 rfl) ?_
 refine VL.eff (O.store ty3 rfl rfl rfl rfl zU zP ?_)
 refine VL.q (Q.fieldAddr fa103_15 rfl) ?_
 refine VL.eff (O.store ty3 rfl rfl rfl rfl zU zP ?_)
 refine VL.nil ?_
 refine VE.seq ?_
 refine VC.seq ?_
 refine VC.seq ?_
 refine VC.region ?_
 refine VL.q (Q.fieldAddr fa193_2 rfl) ?_
 refine VL.q (Q.load1 ty4 rfl zM rfl) ?_
 refine VL.nil ?_
 refine VE.seq ?_
 refine VC.condF rfl ?_
 refine VC.skip ?_
 refine VE.seq ?_
 refine VC.seq ?_
 refine VC.region ?_
 refine VL.q (Q.assign rfl) ?_
 refine VL.nil ?_
 refine VE.seq ?_
 refine VC.seq ?_
 refine VC.region ?_
 refine VL.q (Q.move rfl) ?_
 refine VL.q (Q.fieldAddr fa103_9 rfl) ?_
 refine VL.q (Q.load1 ty3 rfl zM rfl) ?_
 refine VL.eff (O.call0 ok156 rfl rfl (by decide) (in_c _ _ (by omega)) (fun _ _ _ => trivial) ?_)
 intro x67 y67
 refine VL.q (Q.move rfl) ?_
 refine VL.yes rfl rfl ?_
 refine VL.q (Q.move rfl) ?_
 refine VL.yes rfl rfl ?_
 refine VL.q (Q.fieldAddr fa103_14 rfl) ?_
 refine VL.yes rfl rfl ?_
 refine VL.q (Q.load1 ty3 rfl zM rfl) ?_
 refine VL.yes rfl rfl ?_
 refine VL.eff (O.call0 ok156 rfl rfl (by decide) (in_c _ _ (by omega)) (fun _ _ _ => trivial) ?_)
 intro x72 y72
 refine VL.quietE (v' := .bool true) (by decide) (Q.pick_true rfl rfl) (by rfl) ?_
 refine VL.q (Q.move rfl) ?_
 refine VL.yes rfl rfl ?_
 refine VL.q (Q.move rfl) ?_
 refine VL.yes rfl rfl ?_
 refine VL.q (Q.fieldAddr fa103_15 rfl) ?_
 refine VL.yes rfl rfl ?_
 refine VL.q (Q.load1 ty3 rfl zM rfl) ?_
 refine VL.yes rfl rfl ?_
 refine VL.eff (O.call0 ok156 rfl rfl (by decide) (in_c _ _ (by omega)) (fun _ _ _ => trivial) ?_)
 intro x78 y78
 refine VL.quietE (v' := .bool true) (by decide) (Q.pick_true rfl rfl) (by rfl) ?_
 refine VL.q (Q.move rfl) ?_
 refine VL.yes rfl rfl ?_
 refine VL.q (Q.move rfl) ?_
 refine VL.yes rfl rfl ?_
 refine VL.q (Q.fieldAddr fa103_16 rfl) ?_
 refine VL.yes rfl rfl ?_
 refine VL.q (Q.load1 ty3 rfl zM rfl) ?_
 refine VL.yes rfl rfl ?_
 refine VL.eff (O.call0 ok156 rfl rfl (by decide) (in_c _ _ (by omega)) (fun _ _ _ => trivial) ?_)
 intro x84 y84
 refine VL.quietE (v' := .bool true) (by decide) (Q.pick_true rfl rfl) (by rfl) ?_
 refine VL.q (Q.move rfl) ?_
 refine VL.yes rfl rfl ?_
 refine VL.q (Q.fieldAddr fa103_17 rfl) ?_
 refine VL.yes rfl rfl ?_
 refine VL.q (Q.load1 ty5 rfl zM rfl) ?_
 refine VL.yes rfl rfl ?_
 refine VL.quietE (v' := .bool true) (by decide) (Q.le rfl rfl) (by rfl) ?_
 refine VL.quietE (v' := .bool true) (by decide) (Q.pick_true rfl rfl) (by rfl) ?_
 refine VL.q (Q.assign rfl) ?_
 refine VL.nil ?_
 refine VE.seq ?_
 refine VC.seq ?_
 refine VK.keep (by exact .cons (i := 1) rfl (.cons (i := 2) rfl (.cons (i := 5) rfl (.cons (i := 11) rfl ( .nil))))) ?_
 refine VC.region ?_
 refine VL.q (Q.fieldAddr fa103_4 rfl) ?_
 refine VL.q (Q.load1 ty4 rfl zM rfl) ?_
 refine VL.quietE (v' := .bool true) (by decide) (Q.not rfl) (by rfl) ?_
 refine VL.q (Q.move rfl) ?_
 refine VL.yes rfl rfl ?_
 refine VL.q (Q.fieldAddr fa103_15 rfl) ?_
 refine VL.yes rfl rfl ?_
 refine VL.q (Q.load1 ty3 rfl zM rfl) ?_
 refine VL.yes rfl rfl ?_
 refine VL.quietE (v' := .bool true) (by decide) (Q.eq rfl rfl) (by rfl) ?_
 refine VL.quietE (v' := .bool true) (by decide) (Q.pick_true rfl rfl) (by rfl) ?_
 refine VL.q (Q.assign rfl) ?_
 refine VL.nil ?_
 refine VE.seq ?_
 refine VC.seq ?_
 refine VC.region ?_
 refine VL.q (Q.fieldAddr fa103_11 rfl) ?_
 refine VL.q (Q.loadA ty44 rfl zM zS) ?_
 refine VL.eff (O.call0 ok157 rfl rfl (by decide) (group_bcn f hf) (fun _ _ _ => trivial) ?_)
 intro x101 y101
 refine VL.quietE (v' := .bool true) (by decide) (Q.not rfl) (by rfl) ?_
 refine VL.q (Q.move rfl) ?_
 refine VL.yes rfl rfl ?_
 refine VL.q (Q.move rfl) ?_
 refine VL.yes rfl rfl ?_
 refine VL.q (Q.move rfl) ?_
 refine VL.no (by simp) rfl rfl (.inl rfl) ?_
 refine VL.no (by simp) rfl rfl (.inl rfl) ?_
 refine VL.no (by simp) rfl rfl (.inl rfl) ?_
 refine VL.no (by simp) rfl rfl (.inl rfl) ?_
 refine VL.yes rfl rfl ?_
 refine VL.quietE (v' := .bool true) (by decide) (Q.pick_true rfl rfl) (by rfl) ?_
 refine VL.quietE (v' := .bool true) (by decide) (Q.pick_true rfl rfl) (by rfl) ?_
 refine VL.q (Q.assign rfl) ?_
 refine VL.nil ?_
 refine VE.seq ?_
 refine VC.seq ?_
 refine VC.seq ?_
 refine VC.region ?_
 refine VL.q (Q.loadA ty103 rfl zM zS) ?_
 refine VL.q (Q.build lay103 zF) ?_
 refine VL.quietE (v' := .bool false) (by decide) (Q.neS flt103 (by decide) ty103 eg103 rfl rfl rfl rfl) (by rfl) ?_
 refine VL.q (Q.move rfl) ?_
 refine VL.yes rfl rfl ?_
 refine VL.q (Q.move rfl) ?_
 refine VL.yes rfl rfl ?_
 refine VL.quietE (v' := .bool false) (by decide) (Q.not rfl) (by rfl) ?_
 refine VL.quietE (v' := .bool false) (by decide) (Q.pick_false rfl rfl) (by rfl) ?_
 refine VL.q (Q.move rfl) ?_
 refine VL.yes rfl rfl ?_
 refine VL.q (Q.move rfl) ?_
 refine VL.yes rfl rfl ?_
 refine VL.quietE (v' := .bool false) (by decide) (Q.not rfl) (by rfl) ?_
 refine VL.quietE (v' := .bool false) (by decide) (Q.pick_false rfl rfl) (by rfl) ?_
 refine VL.q (Q.move rfl) ?_
 refine VL.yes rfl rfl ?_
 refine VL.q (Q.loadA ty103 rfl zM zS) ?_
 refine VL.yes rfl rfl ?_
 refine VL.eff (O.call0 ok158 rfl rfl (by decide) (null_bcn D t f ht hf) (fun _ _ _ => trivial) ?_)
 intro x125 y125
 refine VL.yes rfl rfl ?_
 refine VL.q (Q.move rfl) ?_
 refine VL.no (by simp) rfl rfl (.inl rfl) ?_
 refine VL.no (by simp) rfl rfl (.inl rfl) ?_
 refine VL.no (by simp) rfl rfl (.inl rfl) ?_
 refine VL.no (by simp) rfl rfl (.inr rfl) ?_
 refine VL.no (by simp) rfl rfl (.inr rfl) ?_
 refine VL.no (by simp) rfl rfl (.inl rfl) ?_
 refine VL.no (by simp) rfl rfl (.inl rfl) ?_
 refine VL.no (by simp) rfl rfl (.inr rfl) ?_
 refine VL.no (by simp) rfl rfl (.inr rfl) ?_
 refine VL.no (by simp) rfl rfl (.inl rfl) ?_
 refine VL.yes rfl rfl ?_
 refine VL.quietE (v' := .bool false) (by decide) (Q.pick_false rfl rfl) (by rfl) ?_
 refine VL.quietE (v' := .bool false) (by decide) (Q.pick_false rfl rfl) (by rfl) ?_
 refine VL.nil ?_
 refine VE.seq ?_
 refine VC.condF rfl ?_
 refine VC.skip ?_
 refine VE.seq ?_
 refine VC.seq ?_
 refine VK.keep (by exact .cons (i := 2) rfl ( .nil)) ?_
 refine VC.region ?_
 refine VL.q (Q.assign rfl) ?_
 refine VL.nil ?_
 refine VE.seq ?_
 refine VC.ret ?_
 refine VE.ret rfl (.tmp rfl .nil) () ?_ ?_ (List.nil_sublist _)
 ·
  trivial
 ·
  first | rfl | (exfalso; simp at *; omega)

end Go.Proofs.YtencghlmckbmlaaGreat
