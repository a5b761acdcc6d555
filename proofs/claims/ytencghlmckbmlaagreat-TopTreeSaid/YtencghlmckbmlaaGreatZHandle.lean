/- The contract of root.Handle. Conditions: those that it bears. -/
import Derived.Test.YtencghlmckbmlaaGreatRows
import Derived.Test.YtencghlmckbmlaaGreatZRoot
namespace Go.Proofs.YtencghlmckbmlaaGreat
open Go Go.RowKit Go.Sx
set_option maxRecDepth 100000

theorem fa132_0 : tyField Tryz.prog 132 0 = some 0 := by kernel_rfl
theorem fa132_4 : tyField Tryz.prog 132 4 = some 9 := by kernel_rfl
theorem lay151 : laysOf Tryz.prog 151 = some ([.int .u8 0, .int .u8 0, .int .u8 0, .int .u8 0, .int .u8 0, .int .u8 0, .int .u8 0, .int .u8 0, .int .u8 0, .int .u8 0, .int .u8 0, .int .u8 0, .int .i64 0, .int .i64 0, .int .i64 0, .bool false, .int .i64 0], [(0, 6), (6, 6), (12, 1), (13, 1), (14, 1), (15, 1), (16, 1)]) := by kernel_rfl
theorem lay50 : laysOf Tryz.prog 50 = some ([.int .u8 0, .int .u8 0, .int .u8 0, .int .u8 0, .int .u8 0, .int .u8 0, .bool false, .bool false, .int .i64 0, .slice none 0 0, .slice none 0 0], [(0, 6), (6, 1), (7, 1), (8, 1), (9, 1), (10, 1)]) := by kernel_rfl
theorem ok113 : okFunc Tryz.prog 113 = true := by kernel_rfl
theorem ok115 : okFunc Tryz.prog 115 = true := by kernel_rfl
theorem ok116 : okFunc Tryz.prog 116 = true := by kernel_rfl
theorem sl147 : tySlice Tryz.prog 147 = some (132, 10, 40) := by kernel_rfl
theorem ze132 : (Tryz.prog.info? 132).bind (·.zero) = some (.agg #[.int .u8 0, .int .u8 0, .int .u8 0, .int .u8 0, .int .u8 0, .int .u8 0, .int .i64 0, .int .i64 0, .int .i64 0, .bool false]) := by kernel_rfl

open Go.Mesh
theorem handle_c (o sq : Nat) (p : Option Addr) (n c : Nat) (l : List (Nat × TreeV)) (hl : l.length = n) (hok : TsOk o l) (hsq : sq ≤ 2147483647) (r s h co f e nw : Nat) (hr : r < 2) (hs : 1 ≤ s ∧ s ≤ 2147483647) (hh : h ≤ 14) (hf : f < 6) (hfo : f ≠ o) (he : 1 ≤ e) (hce : co + e ≤ 1099511627776) (hnw : nw ≤ 1099511627776) :
  Does Tryz.prog 44 [.agg #[.int .u8 2, .int .u8 0, .int .u8 0, .int .u8 0, .int .u8 2, .int .u8 (o : Int), .bool (decide (o < 2)), .bool (decide (o = 0)), .int .i64 (sq : Int), .slice p n c, .slice none 0 0], .agg #[.int .u8 2, .int .u8 0, .int .u8 0, .int .u8 0, .int .u8 2, .int .u8 (r : Int), .int .i64 (s : Int), .int .i64 (h : Int), .int .i64 (co : Int), .bool (decide (r = 0))], .agg #[.int .u8 2, .int .u8 0, .int .u8 0, .int .u8 0, .int .u8 2, .int .u8 (f : Int)], .int .i64 (e : Int), .int .i64 (nw : Int)] [] (fun W => Rd W p (l.flatMap treeC)) (X := HR) (fun x => HOk o r s (co + e) l x) (fun x => bif x.st then .tuple #[.agg #[.int .u8 0, .int .u8 0, .int .u8 0, .int .u8 0, .int .u8 0, .int .u8 0, .bool false, .bool false, .int .i64 0, .slice none 0 0, .slice none 0 0], .slice none 0 0, .int .i64 21] else .tuple #[.agg #[.int .u8 2, .int .u8 0, .int .u8 0, .int .u8 0, .int .u8 2, .int .u8 (o : Int), .bool (decide (o < 2)), .bool (decide (o = 0)), .int .i64 (sq : Int), .slice x.p (bif x.kn then l.length else l.length + 1) x.c, .slice none 0 0], .slice (some ⟨x.g, 0, none⟩) 1 1, .int .i64 0]) (fun x => bif x.st then [] else [.blk x.g [.int .u8 2, .int .u8 0, .int .u8 0, .int .u8 0, .int .u8 2, .int .u8 (r : Int), .int .i64 (s : Int), .int .i64 ((h + 1 : Nat) : Int), .int .i64 ((co + e : Nat) : Int), .bool (decide (r = 0))] 132, .row (.slice x.p (bif x.kn then l.length else l.length + 1) x.c) 151 17 (bif x.kn then l.length else l.length + 1) ((newL l x.i x.kn (r, (⟨f, s, h + 1, co + e, nw + 5000000⟩ : TreeV))).flatMap treeC)]) := by
 subst hl
 have hlen := hok.len
 refine Does.enter Tryz.func44 rfl (m := 157) rfl (by simp) ?_
 intro W0 hro
 refine VC.seq ?_
 refine VC.region ?_
 refine VL.eff (O.box rfl rfl (by decide) ?_)
 intro g5
 refine VL.eff (O.box rfl rfl (by decide) ?_)
 intro g6
 refine VL.eff (O.box rfl rfl (by decide) ?_)
 intro g7
 refine VL.eff (O.alloc zo50 (by decide) ?_)
 intro g10
 refine VL.q (Q.assign rfl) ?_
 refine VL.q (Q.assign rfl) ?_
 refine VL.nil ?_
 refine VE.seq ?_
 refine VC.seq ?_
 refine VC.seq ?_
 refine VC.region ?_
 refine VL.q (Q.loadA ty50 rfl zM zS) ?_
 refine VL.eff (O.call0 ok101 rfl rfl (by decide) (rcheck_c o sq p l.length c l rfl hok hsq) (fun _ ho _ => hro.only0 ho) ?_)
 intro x18 y18
 refine VL.q (Q.assign rfl) ?_
 refine VL.nil ?_
 refine VE.seq ?_
 refine VC.seq ?_
 refine VC.region ?_
 refine VL.q (Q.move rfl) ?_
 refine VL.quietE (v' := .bool false) (by decide) (Q.ne rfl rfl) (by rfl) ?_
 refine VL.nil ?_
 refine VE.seq ?_
 refine VC.condF rfl ?_
 refine VC.skip ?_
 refine VE.seq ?_
 refine VC.seq ?_
 refine VC.seq ?_
 refine VC.region ?_
 refine VL.q (Q.loadA ty132 rfl zM zS) ?_
 refine VL.eff (O.call0 ok113 rfl rfl (by decide) (checkword_c r s h co (decide (r = 0)) hs (by omega) (by omega)) (fun _ _ _ => trivial) ?_)
 intro x24 y24
 refine VL.quietE (v' := .bool false) (by decide) (Q.not rfl) (by rfl) ?_
 refine VL.q (Q.move rfl) ?_
 refine VL.yes rfl rfl ?_
 refine VL.q (Q.loadA ty44 rfl zM zS) ?_
 refine VL.yes rfl rfl ?_
 refine VL.q (Q.fieldAddr fa50_0 rfl) ?_
 refine VL.yes rfl rfl ?_
 refine VL.q (Q.loadA ty44 rfl zM zS) ?_
 refine VL.yes rfl rfl ?_
 refine VL.quietE (v' := .bool false) (by decide) (Q.eqS flt44 (by decide) ty44 eg44 rfl rfl rfl rfl) (congrArg Value.bool ((node_eq f o).trans (decide_eq_false hfo))) ?_
 refine VL.quietE (v' := .bool false) (by decide) (Q.pick_false rfl rfl) (by rfl) ?_
 refine VL.q (Q.move rfl) ?_
 refine VL.yes rfl rfl ?_
 refine VL.q (Q.move rfl) ?_
 refine VL.yes rfl rfl ?_
 refine VL.eff (O.call0 ok114 rfl rfl (by decide) (within_c _ _ _ (by omega)) (fun _ _ _ => trivial) ?_)
 intro x34 y34
 refine VL.yes rfl rfl ?_
 refine VL.quietE (v' := .bool false) (by decide) (Q.not rfl) (by rfl) ?_
 refine VL.quietE (v' := .bool false) (by decide) (Q.pick_false rfl rfl) (by rfl) ?_
 refine VL.q (Q.move rfl) ?_
 refine VL.yes rfl rfl ?_
 refine VL.q (Q.move rfl) ?_
 refine VL.yes rfl rfl ?_
 refine VL.eff (O.call0 ok114 rfl rfl (by decide) (within_c _ _ _ (by omega)) (fun _ _ _ => trivial) ?_)
 intro x39 y39
 refine VL.yes rfl rfl ?_
 refine VL.quietE (v' := .bool false) (by decide) (Q.not rfl) (by rfl) ?_
 refine VL.quietE (v' := .bool false) (by decide) (Q.pick_false rfl rfl) (by rfl) ?_
 refine VL.nil ?_
 refine VE.seq ?_
 refine VC.condF rfl ?_
 refine VC.skip ?_
 refine VE.seq ?_
 refine VC.seq ?_
 refine VC.region ?_
 refine VL.q (Q.fieldAddr fa132_0 rfl) ?_
 refine VL.q (Q.loadA ty44 rfl zM zS) ?_
 refine VL.q (Q.loadA ty44 rfl zM zS) ?_
 refine VL.q (Q.fieldAddr fa132_1 rfl) ?_
 refine VL.q (Q.load1 ty3 rfl zM rfl) ?_
 refine VL.q (Q.fieldAddr fa132_2 rfl) ?_
 refine VL.q (Q.load1 ty3 rfl zM rfl) ?_
 refine VL.quietE (v' := .int .i64 ((h + 1 : Nat) : Int)) (by decide) ((by first | exact Q.addI rfl rfl (by omega) (by omega) | exact Q.add rfl rfl)) (congrArg (Value.int .i64) (by omega)) ?_
 refine VL.q (Q.fieldAddr fa132_3 rfl) ?_
 refine VL.q (Q.load1 ty3 rfl zM rfl) ?_
 refine VL.q (Q.move rfl) ?_
 refine VL.quietE (v' := .int .i64 ((co + e : Nat) : Int)) (by decide) ((by first | exact Q.addI rfl rfl (by omega) (by omega) | exact Q.add rfl rfl)) (congrArg (Value.int .i64) (by omega)) ?_
 refine VL.q (Q.fieldAddr fa132_4 rfl) ?_
 refine VL.q (Q.load1 ty4 rfl zM rfl) ?_
 refine VL.q (Q.move rfl) ?_
 refine VL.quietE (v' := .int .i64 ((nw + 5000000 : Nat) : Int)) (by decide) ((by first | exact Q.addI rfl rfl (by omega) (by omega) | exact Q.add rfl rfl)) (congrArg (Value.int .i64) (by omega)) ?_
 refine VL.q (Q.build lay151 zF) ?_
 refine VL.eff (O.alloc zo151 (by decide) ?_)
 intro g14
 refine VL.eff (O.store ty151 rfl rfl rfl rfl zU zP ?_)
 refine VL.nil ?_
 refine VE.seq ?_
 refine VC.seq ?_
 refine VK.keep (by exact .cons (i := 5) rfl (.cons (i := 6) rfl (.cons (i := 10) rfl (.cons (i := 11) rfl (.cons (i := 12) rfl (.cons (i := 14) rfl ( .nil))))))) ?_
 refine VC.region ?_
 refine VL.q (Q.loadA ty50 rfl zM zS) ?_
 refine VL.q (Q.fieldAddr fa132_0 rfl) ?_
 refine VL.q (Q.loadA ty44 rfl zM zS) ?_
 refine VL.eff (O.call0 ok115 rfl rfl (by decide) (rtree_c o sq p l.length c l rfl hok r hr) (fun _ ho _ => hro.only0 ho) ?_)
 intro x64 y64
 obtain ⟨i, kn⟩ := x64
 refine VL.q (Q.move rfl) ?_
 refine VL.q (Q.extract rfl rfl) ?_
 refine VL.q (Q.extract rfl rfl) ?_
 refine VL.q (Q.assign rfl) ?_
 refine VL.q (Q.assign rfl) ?_
 refine VL.nil ?_
 refine VE.seq ?_
 refine VC.seq ?_
 refine VC.block ?_
 refine VC.seq ?_
 refine VC.region ?_
 refine VL.q (Q.fieldAddr fa132_0 rfl) ?_
 refine VL.q (Q.loadA ty44 rfl zM zS) ?_
 refine VL.q (Q.fieldAddr fa50_0 rfl) ?_
 refine VL.q (Q.loadA ty44 rfl zM zS) ?_
 refine VL.quietE (v' := .bool (decide (r = o))) (by decide) (Q.eqS flt44 (by decide) ty44 eg44 rfl rfl rfl rfl) (congrArg Value.bool (node_eq r o)) ?_
 refine VL.q (Q.assign rfl) ?_
 refine VL.nil ?_
 refine VE.seq ?_
 refine VC.cond rfl ?_ ?_
 ·
  intro h67
  refine VC.seq ?_
  refine VC.region ?_
  refine VL.q (Q.build lay50 zF) ?_
  refine VL.eff (O.store ty50 rfl rfl rfl rfl zU zP ?_)
  refine VL.q (Q.assign rfl) ?_
  refine VL.q (Q.assign rfl) ?_
  refine VL.nil ?_
  refine VE.seq ?_
  refine VC.ret ?_
  refine VE.block_ret ?_
  refine VE.then_ret ?_
  exact VE.ret rfl (.cell ty50 rfl zM rfl (.tmp rfl (.tmp rfl .nil))) (⟨i, kn, true, none, 0, 0⟩ : HR) ⟨y64, ⟨fun _ => .inl (of_decide_eq_true h67), fun _ => rfl⟩⟩ rfl zB
 ·
  intro h67
  have hro2 := of_decide_eq_false h67
  rcases kn with _ | _
  ·
   refine VC.seq ?_
   refine VA.start (Ls := []) (Cs := []) mixed ?_
   refine VA.tk 0 rfl (Still.then (Still.block (Still.then Still.body))) (List.nil_sublist _) Cells.nil (Quiet.c (Q.move rfl)) ?_
   refine VA.tk 1 rfl (Still.then (Still.block (Still.then Still.body))) (List.nil_sublist _) Cells.nil (Quiet.c (Q.move rfl)) ?_
   refine VA.takeN 2 rfl rfl rfl (.inl rfl) (by kernel_rfl) (by kernel_rfl) (by kernel_rfl) (Still.then (Still.block (Still.then Still.body))) (List.nil_sublist _) Cells.nil (by decide) ?_
   refine VA.takeN 3 rfl rfl rfl (.inl rfl) (by kernel_rfl) (by kernel_rfl) (by kernel_rfl) (Still.then (Still.block (Still.then Still.body))) (List.nil_sublist _) Cells.nil (by decide) ?_
   refine VA.takeN 4 rfl rfl rfl (.inl rfl) (by kernel_rfl) (by kernel_rfl) (by kernel_rfl) (Still.then (Still.block (Still.then Still.body))) (List.nil_sublist _) Cells.nil (by decide) ?_
   refine VA.takeN 5 rfl rfl rfl (.inl rfl) (by kernel_rfl) (by kernel_rfl) (by kernel_rfl) (Still.then (Still.block (Still.then Still.body))) (List.nil_sublist _) Cells.nil (by decide) ?_
   refine VA.takeN 6 rfl rfl rfl (.inl rfl) (by kernel_rfl) (by kernel_rfl) (by kernel_rfl) (Still.then (Still.block (Still.then Still.body))) (List.nil_sublist _) Cells.nil (by decide) ?_
   refine VA.takeN 7 rfl rfl rfl (.inl rfl) (by kernel_rfl) (by kernel_rfl) (by kernel_rfl) (Still.then (Still.block (Still.then Still.body))) (List.nil_sublist _) Cells.nil (by decide) ?_
   refine VA.takeN 8 rfl rfl rfl (.inl rfl) (by kernel_rfl) (by kernel_rfl) (by kernel_rfl) (Still.then (Still.block (Still.then Still.body))) (List.nil_sublist _) Cells.nil (by decide) ?_
   refine VA.takeN 9 rfl rfl rfl (.inl rfl) (by kernel_rfl) (by kernel_rfl) (by kernel_rfl) (Still.then (Still.block (Still.then Still.body))) (List.nil_sublist _) Cells.nil (by decide) ?_
   refine VA.takeN 10 rfl rfl rfl (.inl rfl) (by kernel_rfl) (by kernel_rfl) (by kernel_rfl) (Still.then (Still.block (Still.then Still.body))) (List.nil_sublist _) Cells.nil (by decide) ?_
   refine VA.takeN 11 rfl rfl rfl (.inl rfl) (by kernel_rfl) (by kernel_rfl) (by kernel_rfl) (Still.then (Still.block (Still.then Still.body))) (List.nil_sublist _) Cells.nil (by decide) ?_
   refine VA.takeN 12 rfl rfl rfl (.inr rfl) (by kernel_rfl) (by kernel_rfl) (by kernel_rfl) (Still.then (Still.block (Still.then Still.body))) (List.nil_sublist _) Cells.nil (by decide) ?_
   refine VA.takeN 13 rfl rfl rfl (.inr rfl) (by kernel_rfl) (by kernel_rfl) (by kernel_rfl) (Still.then (Still.block (Still.then Still.body))) (List.nil_sublist _) Cells.nil (by decide) ?_
   refine VA.takeN 14 rfl rfl rfl (.inr rfl) (by kernel_rfl) (by kernel_rfl) (by kernel_rfl) (Still.then (Still.block (Still.then Still.body))) (List.nil_sublist _) Cells.nil (by decide) ?_
   refine VA.takeN 15 rfl rfl rfl (.inr rfl) (by kernel_rfl) (by kernel_rfl) (by kernel_rfl) (Still.then (Still.block (Still.then Still.body))) (List.nil_sublist _) Cells.nil (by decide) ?_
   refine VA.takeN 16 rfl rfl rfl (.inr rfl) (by kernel_rfl) (by kernel_rfl) (by kernel_rfl) (Still.then (Still.block (Still.then Still.body))) (List.nil_sublist _) Cells.nil (by decide) ?_
   refine VA.takeN 17 rfl rfl rfl (.inr rfl) (by kernel_rfl) (by kernel_rfl) (by kernel_rfl) (Still.then (Still.block (Still.then Still.body))) (List.nil_sublist _) Cells.nil (by decide) ?_
   refine VA.takeN 18 rfl rfl rfl (.inr rfl) (by kernel_rfl) (by kernel_rfl) (by kernel_rfl) (Still.then (Still.block (Still.then Still.body))) (List.nil_sublist _) Cells.nil (by decide) ?_
   refine VA.takeN 19 rfl rfl rfl (.inr rfl) (by kernel_rfl) (by kernel_rfl) (by kernel_rfl) (Still.then (Still.block (Still.then Still.body))) (List.nil_sublist _) Cells.nil (by decide) ?_
   refine VA.takeN 20 rfl rfl rfl (.inr rfl) (by kernel_rfl) (by kernel_rfl) (by kernel_rfl) (Still.then (Still.block (Still.then Still.body))) (List.nil_sublist _) Cells.nil (by decide) ?_
   refine VA.takeN 21 rfl rfl rfl (.inr rfl) (by kernel_rfl) (by kernel_rfl) (by kernel_rfl) (Still.then (Still.block (Still.then Still.body))) (List.nil_sublist _) Cells.nil (by decide) ?_
   refine VA.takeN 22 rfl rfl rfl (.inr rfl) (by kernel_rfl) (by kernel_rfl) (by kernel_rfl) (Still.then (Still.block (Still.then Still.body))) (List.nil_sublist _) Cells.nil (by decide) ?_
   refine VA.takeN 23 rfl rfl rfl (.inr rfl) (by kernel_rfl) (by kernel_rfl) (by kernel_rfl) (Still.then (Still.block (Still.then Still.body))) (List.nil_sublist _) Cells.nil (by decide) ?_
   refine VA.takeN 24 rfl rfl rfl (.inr rfl) (by kernel_rfl) (by kernel_rfl) (by kernel_rfl) (Still.then (Still.block (Still.then Still.body))) (List.nil_sublist _) Cells.nil (by decide) ?_
   refine VA.takeN 25 rfl rfl rfl (.inr rfl) (by kernel_rfl) (by kernel_rfl) (by kernel_rfl) (Still.then (Still.block (Still.then Still.body))) (List.nil_sublist _) Cells.nil (by decide) ?_
   refine VA.takeN 26 rfl rfl rfl (.inr rfl) (by kernel_rfl) (by kernel_rfl) (by kernel_rfl) (Still.then (Still.block (Still.then Still.body))) (List.nil_sublist _) Cells.nil (by decide) ?_
   refine VA.takeN 27 rfl rfl rfl (.inr rfl) (by kernel_rfl) (by kernel_rfl) (by kernel_rfl) (Still.then (Still.block (Still.then Still.body))) (List.nil_sublist _) Cells.nil (by decide) ?_
   refine VA.takeN 28 rfl rfl rfl (.inr rfl) (by kernel_rfl) (by kernel_rfl) (by kernel_rfl) (Still.then (Still.block (Still.then Still.body))) (List.nil_sublist _) Cells.nil (by decide) ?_
   refine VA.takeN 29 rfl rfl rfl (.inr rfl) (by kernel_rfl) (by kernel_rfl) (by kernel_rfl) (Still.then (Still.block (Still.then Still.body))) (List.nil_sublist _) Cells.nil (by decide) ?_
   refine VA.takeN 30 rfl rfl rfl (.inr rfl) (by kernel_rfl) (by kernel_rfl) (by kernel_rfl) (Still.then (Still.block (Still.then Still.body))) (List.nil_sublist _) Cells.nil (by decide) ?_
   refine VA.takeN 31 rfl rfl rfl (.inr rfl) (by kernel_rfl) (by kernel_rfl) (by kernel_rfl) (Still.then (Still.block (Still.then Still.body))) (List.nil_sublist _) Cells.nil (by decide) ?_
   refine VA.takeN 32 rfl rfl rfl (.inl rfl) (by kernel_rfl) (by kernel_rfl) (by kernel_rfl) (Still.then (Still.block (Still.then Still.body))) (List.nil_sublist _) Cells.nil (by decide) ?_
   refine VA.tk 33 rfl (Still.then (Still.block (Still.then Still.body))) (List.nil_sublist _) Cells.nil (Quiet.c (Q.pick_false rfl rfl)) ?_
   refine VA.tk 34 rfl (Still.then (Still.block (Still.then Still.body))) (List.nil_sublist _) Cells.nil (Quiet.c (Q.assign rfl)) ?_
   refine VA.done (by kernel_rfl) ?_
   refine VE.seq ?_
   refine VC.condF rfl ?_
   refine VC.seq ?_
   refine VK.keep (by exact .cons (i := 5) rfl (.cons (i := 10) rfl (.cons (i := 11) rfl (.cons (i := 12) rfl (.cons (i := 14) rfl (.cons (i := 15) rfl (.cons (i := 16) rfl ( .nil)))))))) ?_
   refine VC.region ?_
   refine VL.q (Q.fieldAddr fa151_4 rfl) ?_
   refine VL.q (Q.load1 ty3 rfl zM rfl) ?_
   refine VL.quietE (v' := .bool false) (by decide) (Q.gt rfl rfl) (congrArg Value.bool (decide_eq_false (by omega))) ?_
   refine VL.q (Q.assign rfl) ?_
   refine VL.nil ?_
   refine VE.seq ?_
   refine VC.condF rfl ?_
   refine VC.seq ?_
   refine VC.region ?_
   refine VL.q (Q.move rfl) ?_
   refine VL.quietE (v' := .bool true) (by decide) (Q.not rfl) (by rfl) ?_
   refine VL.q (Q.move rfl) ?_
   refine VL.yes rfl rfl ?_
   refine VL.q (Q.fieldAddr fa50_4 rfl) ?_
   refine VL.yes rfl rfl ?_
   refine VL.q (Q.load1 ty47 rfl zM rfl) ?_
   refine VL.yes rfl rfl ?_
   refine VL.q (Q.len sl47 rfl) ?_
   refine VL.yes rfl rfl ?_
   refine VL.quietE (v' := .bool false) (by decide) (Q.eq rfl rfl) (congrArg Value.bool (decide_eq_false (by omega))) ?_
   refine VL.quietE (v' := .bool false) (by decide) (Q.pick_true rfl rfl) (by rfl) ?_
   refine VL.q (Q.assign rfl) ?_
   refine VL.nil ?_
   refine VE.seq ?_
   refine VC.condF rfl ?_
   refine VC.skip ?_
   refine VE.block_normal ?_
   refine VE.seq ?_
   refine VC.seq ?_
   refine VC.region ?_
   refine VL.q (Q.loadA ty50 rfl zM zS) ?_
   refine VL.eff (O.call0 ok102 rfl rfl (by decide) (twin_c o sq _ l.length c l rfl hok) (fun _ ho _ => hro.only0 ho) ?_)
   intro x126 y126
   obtain ⟨p9, c9⟩ := x126
   dsimp only at y126
   refine VL.eff (O.store ty50 rfl rfl rfl rfl zU zP ?_)
   refine VL.nil ?_
   refine VE.seq ?_
   refine VC.seq ?_
   refine VC.seq ?_
   refine VC.region ?_
   refine VL.q (Q.move rfl) ?_
   refine VL.nil ?_
   refine VE.seq ?_
   refine VC.condF rfl ?_
   rcases hok.place hr y64 with ⟨hi0, hi1⟩ | ⟨u, hu, hi0⟩
   ·
    subst hi0
    refine VC.region ?_
    refine VL.q (Q.fieldAddr fa50_4 rfl) ?_
    refine VL.q (Q.load1 ty47 rfl zM rfl) ?_
    refine VL.q (Q.move rfl) ?_
    refine VL.q (Q.loadA ty151 rfl zM zS) ?_
    refine VL.eff (O.buildSlice sl47 ze151 (by decide) zF (by decide) ?_)
    intro g137
    refine VL.eff (O.callP ok116 rfl rfl (by decide) (insend_tree p9 l.length c9 g137 (l.flatMap treeC) (treeC (r, (⟨f, s, h + 1, co + e, nw + 5000000⟩ : TreeV))) rfl rfl (by omega) (by assumption)) zKs (fun _ _ _ => trivial) ?_)
    intro x138 y138
    obtain ⟨pI, cI⟩ := x138
    refine VL.q (Q.fieldAddr fa50_4 rfl) ?_
    refine VL.eff (O.store ty47 rfl rfl rfl rfl zU zP ?_)
    refine VL.nil ?_
    refine VE.seq ?_
    refine VC.seq ?_
    refine VC.seq ?_
    refine VC.region ?_
    refine VL.q (Q.fieldAddr fa151_3 rfl) ?_
    refine VL.q (Q.load1 ty3 rfl zM rfl) ?_
    refine VL.quietE (v' := .bool true) (by decide) (Q.lt rfl rfl) (congrArg Value.bool (decide_eq_true (by omega))) ?_
    refine VL.nil ?_
    refine VE.seq ?_
    refine VC.condT rfl ?_
    refine VC.region ?_
    refine VL.q (Q.fieldAddr fa151_0 rfl) ?_
    refine VL.q (Q.loadA ty44 rfl zM zS) ?_
    refine VL.q (Q.fieldAddr fa151_2 rfl) ?_
    refine VL.q (Q.load1 ty3 rfl zM rfl) ?_
    refine VL.q (Q.fieldAddr fa151_3 rfl) ?_
    refine VL.q (Q.load1 ty3 rfl zM rfl) ?_
    refine VL.q (Q.fieldAddr fa151_4 rfl) ?_
    refine VL.q (Q.load1 ty3 rfl zM rfl) ?_
    refine VL.q (Q.fieldAddr fa151_5 rfl) ?_
    refine VL.q (Q.load1 ty4 rfl zM rfl) ?_
    refine VL.q (Q.build lay132 zF) ?_
    refine VL.eff (O.buildSlice sl147 ze132 (by decide) zF (by decide) ?_)
    intro g154
    refine VL.q (Q.assign rfl) ?_
    refine VL.nil ?_
    refine VE.seq ?_
    refine VC.seq ?_
    refine VK.keep (by exact .cons (i := 5) rfl (.cons (i := 10) rfl (.cons (i := 11) rfl (.cons (i := 12) rfl ( .nil))))) ?_
    refine VC.region ?_
    refine VL.q (Q.loadA ty50 rfl zM zS) ?_
    refine VL.q (Q.move rfl) ?_
    refine VL.eff (O.store ty50 rfl rfl rfl rfl zU zP ?_)
    refine VL.q (Q.assign rfl) ?_
    refine VL.q (Q.assign rfl) ?_
    refine VL.nil ?_
    refine VE.seq ?_
    refine VC.ret ?_
    rw [← newL_end l (r, (⟨f, s, h + 1, co + e, nw + 5000000⟩ : TreeV))]
    exact VE.ret rfl (.cell ty50 rfl zM rfl (.tmp rfl (.tmp rfl .nil))) (⟨_, false, false, pI, cI, g154⟩ : HR) ⟨y64, ⟨fun q => (by cases q), fun q => (by rcases q with q | ⟨q, _⟩; exact absurd q hro2; cases q)⟩⟩ rfl zB
   ·
    subst hu
    subst hi0
    refine VC.region ?_
    refine VL.q (Q.fieldAddr fa50_4 rfl) ?_
    refine VL.q (Q.load1 ty47 rfl zM rfl) ?_
    refine VL.q (Q.move rfl) ?_
    refine VL.q (Q.loadA ty151 rfl zM zS) ?_
    refine VL.eff (O.buildSlice sl47 ze151 (by decide) zF (by decide) ?_)
    intro g137_1
    refine VK.rowHead (m := 1) (p := p9) (c := c9) zM (by decide) ?_
    intro g9 hg9 _ _
    subst hg9
    refine VK.apart (r := .blk g137_1 [.int .u8 2, .int .u8 0, .int .u8 0, .int .u8 0, .int .u8 2, .int .u8 (r : Int), .int .u8 2, .int .u8 0, .int .u8 0, .int .u8 0, .int .u8 2, .int .u8 (f : Int), .int .i64 (s : Int), .int .i64 ((h + 1 : Nat) : Int), .int .i64 ((co + e : Nat) : Int), .bool (decide (r = 0)), .int .i64 ((nw + 5000000 : Nat) : Int)] 151) (r' := .row (.slice (some ⟨g9, 0, none⟩) [u].length c9) 151 17 [u].length ([u].flatMap treeC)) (by repeat (first | exact Two.here zM | apply Two.there)) ?_
    intro hap
    have hne : g137_1 ≠ g9 := by simpa [Rs.ids, Value.ownBlock] using hap
    refine VL.eff (O.callP ok116 rfl rfl (by decide) (insfront_tree g9 c9 g137_1 ([u].flatMap treeC) (treeC (r, (⟨f, s, h + 1, co + e, nw + 5000000⟩ : TreeV))) rfl rfl rfl rfl (by assumption) hne) zKs (fun _ _ _ => trivial) ?_)
    intro x138_1 y138_1
    obtain ⟨pI, cI⟩ := x138_1
    refine VL.q (Q.fieldAddr fa50_4 rfl) ?_
    refine VL.eff (O.store ty47 rfl rfl rfl rfl zU zP ?_)
    refine VL.nil ?_
    refine VE.seq ?_
    refine VC.seq ?_
    refine VC.seq ?_
    refine VC.region ?_
    refine VL.q (Q.fieldAddr fa151_3 rfl) ?_
    refine VL.q (Q.load1 ty3 rfl zM rfl) ?_
    refine VL.quietE (v' := .bool true) (by decide) (Q.lt rfl rfl) (congrArg Value.bool (decide_eq_true (by omega))) ?_
    refine VL.nil ?_
    refine VE.seq ?_
    refine VC.condT rfl ?_
    refine VC.region ?_
    refine VL.q (Q.fieldAddr fa151_0 rfl) ?_
    refine VL.q (Q.loadA ty44 rfl zM zS) ?_
    refine VL.q (Q.fieldAddr fa151_2 rfl) ?_
    refine VL.q (Q.load1 ty3 rfl zM rfl) ?_
    refine VL.q (Q.fieldAddr fa151_3 rfl) ?_
    refine VL.q (Q.load1 ty3 rfl zM rfl) ?_
    refine VL.q (Q.fieldAddr fa151_4 rfl) ?_
    refine VL.q (Q.load1 ty3 rfl zM rfl) ?_
    refine VL.q (Q.fieldAddr fa151_5 rfl) ?_
    refine VL.q (Q.load1 ty4 rfl zM rfl) ?_
    refine VL.q (Q.build lay132 zF) ?_
    refine VL.eff (O.buildSlice sl147 ze132 (by decide) zF (by decide) ?_)
    intro g154_1
    refine VL.q (Q.assign rfl) ?_
    refine VL.nil ?_
    refine VE.seq ?_
    refine VC.seq ?_
    refine VK.keep (by exact .cons (i := 5) rfl (.cons (i := 10) rfl (.cons (i := 11) rfl (.cons (i := 12) rfl ( .nil))))) ?_
    refine VC.region ?_
    refine VL.q (Q.loadA ty50 rfl zM zS) ?_
    refine VL.q (Q.move rfl) ?_
    refine VL.eff (O.store ty50 rfl rfl rfl rfl zU zP ?_)
    refine VL.q (Q.assign rfl) ?_
    refine VL.q (Q.assign rfl) ?_
    refine VL.nil ?_
    refine VE.seq ?_
    refine VC.ret ?_
    exact VE.ret rfl (.cell ty50 rfl zM rfl (.tmp rfl (.tmp rfl .nil))) (⟨0, false, false, pI, cI, g154_1⟩ : HR) ⟨y64, ⟨fun q => (by cases q), fun q => (by rcases q with q | ⟨q, _⟩; exact absurd q hro2; cases q)⟩⟩ rfl zB
  ·
   obtain ⟨hil, hir⟩ := y64.is rfl
   dsimp only at hil hir
   obtain ⟨b0, o0, rfl⟩ := hro.pos (by rw [fm_length treeC_len]; omega)
   refine VC.seqJ (X := Bool) (fun z => [(5, .pointer (some ⟨g5, 0, none⟩)), (6, .pointer (some ⟨g6, 0, none⟩)), (10, .pointer (some ⟨g10, 0, none⟩)), (11, .slice none 0 0), (12, .int .i64 0), (14, .pointer (some ⟨g14, 0, none⟩)), (15, .int .i64 (i : Int)), (16, .bool true), (74, .bool z)]) (fun z => [.blk g14 [.int .u8 2, .int .u8 0, .int .u8 0, .int .u8 0, .int .u8 2, .int .u8 (r : Int), .int .u8 2, .int .u8 0, .int .u8 0, .int .u8 0, .int .u8 2, .int .u8 (f : Int), .int .i64 (s : Int), .int .i64 ((h + 1 : Nat) : Int), .int .i64 ((co + e : Nat) : Int), .bool (decide (r = 0)), .int .i64 ((nw + 5000000 : Nat) : Int)] 151, .blk g10 [.int .u8 0, .int .u8 0, .int .u8 0, .int .u8 0, .int .u8 0, .int .u8 0, .bool false, .bool false, .int .i64 0, .slice none 0 0, .slice none 0 0] 50, .blk g7 [.int .u8 2, .int .u8 0, .int .u8 0, .int .u8 0, .int .u8 2, .int .u8 (f : Int)] 44, .blk g6 [.int .u8 2, .int .u8 0, .int .u8 0, .int .u8 0, .int .u8 2, .int .u8 (r : Int), .int .i64 (s : Int), .int .i64 (h : Int), .int .i64 (co : Int), .bool (decide (r = 0))] 132, .blk g5 [.int .u8 2, .int .u8 0, .int .u8 0, .int .u8 0, .int .u8 2, .int .u8 (o : Int), .bool (decide (o < 2)), .bool (decide (o = 0)), .int .i64 (sq : Int), .slice (some ⟨b0, o0, none⟩) l.length c, .slice none 0 0] 50]) (fun z => z = true ↔ good l[i].2 s (co + e) = true) ?_ ?_
   ·
    refine VA.start (Ls := [.blk g14 [.int .u8 2, .int .u8 0, .int .u8 0, .int .u8 0, .int .u8 2, .int .u8 (r : Int), .int .u8 2, .int .u8 0, .int .u8 0, .int .u8 0, .int .u8 2, .int .u8 (f : Int), .int .i64 (s : Int), .int .i64 ((h + 1 : Nat) : Int), .int .i64 ((co + e : Nat) : Int), .bool (decide (r = 0)), .int .i64 ((nw + 5000000 : Nat) : Int)] 151, .blk g5 [.int .u8 2, .int .u8 0, .int .u8 0, .int .u8 0, .int .u8 2, .int .u8 (o : Int), .bool (decide (o < 2)), .bool (decide (o = 0)), .int .i64 (sq : Int), .slice (some ⟨b0, o0, none⟩) l.length c, .slice none 0 0] 50]) (Cs := []) mixed ?_
    refine VA.tk 0 rfl (Still.then (Still.block (Still.then Still.body))) zB Cells.nil (Quiet.c (Q.move rfl)) ?_
    refine VA.tk 1 rfl (Still.then (Still.block (Still.then Still.body))) zB Cells.nil (Quiet.c (Q.move rfl)) ?_
    refine VA.takeY 2 rfl rfl rfl (by kernel_rfl) (by kernel_rfl) (by kernel_rfl) (Still.then (Still.block (Still.then Still.body))) zB Cells.nil (by decide) (Quiet.c (Q.fieldAddr fa151_2 rfl)) ?_
    refine VA.takeY 3 rfl rfl rfl (by kernel_rfl) (by kernel_rfl) (by kernel_rfl) (Still.then (Still.block (Still.then Still.body))) zB Cells.nil (by decide) (Quiet.c (Q.load1 ty3 rfl zM rfl)) ?_
    refine VA.takeY 4 rfl rfl rfl (by kernel_rfl) (by kernel_rfl) (by kernel_rfl) (Still.then (Still.block (Still.then Still.body))) zB Cells.nil (by decide) (Quiet.c (Q.fieldAddr fa50_4 rfl)) ?_
    refine VA.takeY 5 rfl rfl rfl (by kernel_rfl) (by kernel_rfl) (by kernel_rfl) (Still.then (Still.block (Still.then Still.body))) zB Cells.nil (by decide) (Quiet.c (Q.load1 ty47 rfl zM rfl)) ?_
    refine VA.takeY 6 rfl rfl rfl (by kernel_rfl) (by kernel_rfl) (by kernel_rfl) (Still.then (Still.block (Still.then Still.body))) zB Cells.nil (by decide) (Quiet.c (Q.move rfl)) ?_
    refine VA.takeY 7 rfl rfl rfl (by kernel_rfl) (by kernel_rfl) (by kernel_rfl) (Still.then (Still.block (Still.then Still.body))) zB Cells.nil (by decide) (Quiet.c (Q.indexAddr sl47 (j := i) rfl rfl rfl hil)) ?_
    refine VA.takeY 8 rfl rfl rfl (by kernel_rfl) (by kernel_rfl) (by kernel_rfl) (Still.then (Still.block (Still.then Still.body))) zB Cells.nil (by decide) (Quiet.c (Q.fieldAddr fa151_2 rfl)) ?_
    refine VA.takeY 9 rfl rfl rfl (by kernel_rfl) (by kernel_rfl) (by kernel_rfl) (Still.then (Still.block (Still.then Still.body))) zB Cells.nil (by decide) (Quiet.c (Q.load0 ty3 rfl (Rd.cell hro (fm_get treeC_len l i hil 12 _ rfl)) (by simp))) ?_
    refine VA.takeY 10 rfl rfl rfl (by kernel_rfl) (by kernel_rfl) (by kernel_rfl) (Still.then (Still.block (Still.then Still.body))) zB Cells.nil (by decide) (Quiet.c (Q.lt rfl rfl)) ?_
    refine VA.takeY 11 rfl rfl rfl (by kernel_rfl) (by kernel_rfl) (by kernel_rfl) (Still.then (Still.block (Still.then Still.body))) zB Cells.nil (by decide) (Quiet.c (Q.move rfl)) ?_
    refine VK.case 86 rfl ?_ ?_
    ·
     intro h86
     refine VA.takeN 12 rfl rfl rfl (.inl rfl) (by kernel_rfl) (by kernel_rfl) (by kernel_rfl) (Still.then (Still.block (Still.then Still.body))) zB Cells.nil (by decide) ?_
     refine VA.takeN 13 rfl rfl rfl (.inl rfl) (by kernel_rfl) (by kernel_rfl) (by kernel_rfl) (Still.then (Still.block (Still.then Still.body))) zB Cells.nil (by decide) ?_
     refine VA.takeN 14 rfl rfl rfl (.inl rfl) (by kernel_rfl) (by kernel_rfl) (by kernel_rfl) (Still.then (Still.block (Still.then Still.body))) zB Cells.nil (by decide) ?_
     refine VA.takeN 15 rfl rfl rfl (.inl rfl) (by kernel_rfl) (by kernel_rfl) (by kernel_rfl) (Still.then (Still.block (Still.then Still.body))) zB Cells.nil (by decide) ?_
     refine VA.takeN 16 rfl rfl rfl (.inl rfl) (by kernel_rfl) (by kernel_rfl) (by kernel_rfl) (Still.then (Still.block (Still.then Still.body))) zB Cells.nil (by decide) ?_
     refine VA.takeN 17 rfl rfl rfl (.inl rfl) (by kernel_rfl) (by kernel_rfl) (by kernel_rfl) (Still.then (Still.block (Still.then Still.body))) zB Cells.nil (by decide) ?_
     refine VA.takeN 18 rfl rfl rfl (.inl rfl) (by kernel_rfl) (by kernel_rfl) (by kernel_rfl) (Still.then (Still.block (Still.then Still.body))) zB Cells.nil (by decide) ?_
     refine VA.takeN 19 rfl rfl rfl (.inl rfl) (by kernel_rfl) (by kernel_rfl) (by kernel_rfl) (Still.then (Still.block (Still.then Still.body))) zB Cells.nil (by decide) ?_
     refine VA.takeN 20 rfl rfl rfl (.inl rfl) (by kernel_rfl) (by kernel_rfl) (by kernel_rfl) (Still.then (Still.block (Still.then Still.body))) zB Cells.nil (by decide) ?_
     refine VA.takeN 21 rfl rfl rfl (.inl rfl) (by kernel_rfl) (by kernel_rfl) (by kernel_rfl) (Still.then (Still.block (Still.then Still.body))) zB Cells.nil (by decide) ?_
     refine VA.takeN 22 rfl rfl rfl (.inr rfl) (by kernel_rfl) (by kernel_rfl) (by kernel_rfl) (Still.then (Still.block (Still.then Still.body))) zB Cells.nil (by decide) ?_
     refine VA.takeN 23 rfl rfl rfl (.inr rfl) (by kernel_rfl) (by kernel_rfl) (by kernel_rfl) (Still.then (Still.block (Still.then Still.body))) zB Cells.nil (by decide) ?_
     refine VA.takeN 24 rfl rfl rfl (.inr rfl) (by kernel_rfl) (by kernel_rfl) (by kernel_rfl) (Still.then (Still.block (Still.then Still.body))) zB Cells.nil (by decide) ?_
     refine VA.takeN 25 rfl rfl rfl (.inr rfl) (by kernel_rfl) (by kernel_rfl) (by kernel_rfl) (Still.then (Still.block (Still.then Still.body))) zB Cells.nil (by decide) ?_
     refine VA.takeN 26 rfl rfl rfl (.inr rfl) (by kernel_rfl) (by kernel_rfl) (by kernel_rfl) (Still.then (Still.block (Still.then Still.body))) zB Cells.nil (by decide) ?_
     refine VA.takeN 27 rfl rfl rfl (.inr rfl) (by kernel_rfl) (by kernel_rfl) (by kernel_rfl) (Still.then (Still.block (Still.then Still.body))) zB Cells.nil (by decide) ?_
     refine VA.takeN 28 rfl rfl rfl (.inr rfl) (by kernel_rfl) (by kernel_rfl) (by kernel_rfl) (Still.then (Still.block (Still.then Still.body))) zB Cells.nil (by decide) ?_
     refine VA.takeN 29 rfl rfl rfl (.inr rfl) (by kernel_rfl) (by kernel_rfl) (by kernel_rfl) (Still.then (Still.block (Still.then Still.body))) zB Cells.nil (by decide) ?_
     refine VA.takeN 30 rfl rfl rfl (.inr rfl) (by kernel_rfl) (by kernel_rfl) (by kernel_rfl) (Still.then (Still.block (Still.then Still.body))) zB Cells.nil (by decide) ?_
     refine VA.takeN 31 rfl rfl rfl (.inl rfl) (by kernel_rfl) (by kernel_rfl) (by kernel_rfl) (Still.then (Still.block (Still.then Still.body))) zB Cells.nil (by decide) ?_
     refine VA.takeY 32 rfl rfl rfl (by kernel_rfl) (by kernel_rfl) (by kernel_rfl) (Still.then (Still.block (Still.then Still.body))) zB Cells.nil (by decide) (Quiet.c (Q.pick_true rfl rfl)) ?_
     refine VA.tk 33 rfl (Still.then (Still.block (Still.then Still.body))) zB Cells.nil (Quiet.c (Q.pick_true rfl rfl)) ?_
     refine VA.tk 34 rfl (Still.then (Still.block (Still.then Still.body))) zB Cells.nil (Quiet.c (Q.assign rfl)) ?_
     refine VA.done (by kernel_rfl) ?_
     refine VE.then_normal ?_
     exact VE.meetP true (good1 h86) zE zKs
    ·
     intro h86
     refine VA.takeY 12 rfl rfl rfl (by kernel_rfl) (by kernel_rfl) (by kernel_rfl) (Still.then (Still.block (Still.then Still.body))) zB Cells.nil (by decide) (Quiet.c (Q.fieldAddr fa151_2 rfl)) ?_
     refine VA.takeY 13 rfl rfl rfl (by kernel_rfl) (by kernel_rfl) (by kernel_rfl) (Still.then (Still.block (Still.then Still.body))) zB Cells.nil (by decide) (Quiet.c (Q.load1 ty3 rfl zM rfl)) ?_
     refine VA.takeY 14 rfl rfl rfl (by kernel_rfl) (by kernel_rfl) (by kernel_rfl) (Still.then (Still.block (Still.then Still.body))) zB Cells.nil (by decide) (Quiet.c (Q.fieldAddr fa50_4 rfl)) ?_
     refine VA.takeY 15 rfl rfl rfl (by kernel_rfl) (by kernel_rfl) (by kernel_rfl) (Still.then (Still.block (Still.then Still.body))) zB Cells.nil (by decide) (Quiet.c (Q.load1 ty47 rfl zM rfl)) ?_
     refine VA.takeY 16 rfl rfl rfl (by kernel_rfl) (by kernel_rfl) (by kernel_rfl) (Still.then (Still.block (Still.then Still.body))) zB Cells.nil (by decide) (Quiet.c (Q.move rfl)) ?_
     refine VA.takeY 17 rfl rfl rfl (by kernel_rfl) (by kernel_rfl) (by kernel_rfl) (Still.then (Still.block (Still.then Still.body))) zB Cells.nil (by decide) (Quiet.c (Q.indexAddr sl47 (j := i) rfl rfl rfl hil)) ?_
     refine VA.takeY 18 rfl rfl rfl (by kernel_rfl) (by kernel_rfl) (by kernel_rfl) (Still.then (Still.block (Still.then Still.body))) zB Cells.nil (by decide) (Quiet.c (Q.fieldAddr fa151_2 rfl)) ?_
     refine VA.takeY 19 rfl rfl rfl (by kernel_rfl) (by kernel_rfl) (by kernel_rfl) (Still.then (Still.block (Still.then Still.body))) zB Cells.nil (by decide) (Quiet.c (Q.load0 ty3 rfl (Rd.cell hro (fm_get treeC_len l i hil 12 _ rfl)) (by simp))) ?_
     refine VA.takeY 20 rfl rfl rfl (by kernel_rfl) (by kernel_rfl) (by kernel_rfl) (Still.then (Still.block (Still.then Still.body))) zB Cells.nil (by decide) (Quiet.c (Q.eq rfl rfl)) ?_
     refine VA.takeY 21 rfl rfl rfl (by kernel_rfl) (by kernel_rfl) (by kernel_rfl) (Still.then (Still.block (Still.then Still.body))) zB Cells.nil (by decide) (Quiet.c (Q.move rfl)) ?_
     refine VK.case 96 rfl ?_ ?_
     ·
      intro h96
      refine VA.takeY 22 rfl rfl rfl (by kernel_rfl) (by kernel_rfl) (by kernel_rfl) (Still.then (Still.block (Still.then Still.body))) zB Cells.nil (by decide) (Quiet.c (Q.fieldAddr fa151_4 rfl)) ?_
      refine VA.takeY 23 rfl rfl rfl (by kernel_rfl) (by kernel_rfl) (by kernel_rfl) (Still.then (Still.block (Still.then Still.body))) zB Cells.nil (by decide) (Quiet.c (Q.load1 ty3 rfl zM rfl)) ?_
      refine VA.takeY 24 rfl rfl rfl (by kernel_rfl) (by kernel_rfl) (by kernel_rfl) (Still.then (Still.block (Still.then Still.body))) zB Cells.nil (by decide) (Quiet.c (Q.fieldAddr fa50_4 rfl)) ?_
      refine VA.takeY 25 rfl rfl rfl (by kernel_rfl) (by kernel_rfl) (by kernel_rfl) (Still.then (Still.block (Still.then Still.body))) zB Cells.nil (by decide) (Quiet.c (Q.load1 ty47 rfl zM rfl)) ?_
      refine VA.takeY 26 rfl rfl rfl (by kernel_rfl) (by kernel_rfl) (by kernel_rfl) (Still.then (Still.block (Still.then Still.body))) zB Cells.nil (by decide) (Quiet.c (Q.move rfl)) ?_
      refine VA.takeY 27 rfl rfl rfl (by kernel_rfl) (by kernel_rfl) (by kernel_rfl) (Still.then (Still.block (Still.then Still.body))) zB Cells.nil (by decide) (Quiet.c (Q.indexAddr sl47 (j := i) rfl rfl rfl hil)) ?_
      refine VA.takeY 28 rfl rfl rfl (by kernel_rfl) (by kernel_rfl) (by kernel_rfl) (Still.then (Still.block (Still.then Still.body))) zB Cells.nil (by decide) (Quiet.c (Q.fieldAddr fa151_4 rfl)) ?_
      refine VA.takeY 29 rfl rfl rfl (by kernel_rfl) (by kernel_rfl) (by kernel_rfl) (Still.then (Still.block (Still.then Still.body))) zB Cells.nil (by decide) (Quiet.c (Q.load0 ty3 rfl (Rd.cell hro (fm_get treeC_len l i hil 14 _ rfl)) (by simp))) ?_
      refine VA.takeY 30 rfl rfl rfl (by kernel_rfl) (by kernel_rfl) (by kernel_rfl) (Still.then (Still.block (Still.then Still.body))) zB Cells.nil (by decide) (Quiet.c (Q.ge rfl rfl)) ?_
      refine VA.takeY 31 rfl rfl rfl (by kernel_rfl) (by kernel_rfl) (by kernel_rfl) (Still.then (Still.block (Still.then Still.body))) zB Cells.nil (by decide) (Quiet.c (Q.pick_true rfl rfl)) ?_
      refine VA.takeY 32 rfl rfl rfl (by kernel_rfl) (by kernel_rfl) (by kernel_rfl) (Still.then (Still.block (Still.then Still.body))) zB Cells.nil (by decide) (Quiet.c (Q.pick_false rfl rfl)) ?_
      refine VA.tk 33 rfl (Still.then (Still.block (Still.then Still.body))) zB Cells.nil (Quiet.c (Q.pick_true rfl rfl)) ?_
      refine VA.tk 34 rfl (Still.then (Still.block (Still.then Still.body))) zB Cells.nil (Quiet.c (Q.assign rfl)) ?_
      refine VA.done (by kernel_rfl) ?_
      refine VE.then_normal ?_
      exact VE.meetP _ (good2 h86 h96) zE zKs
     ·
      intro h96
      refine VA.takeN 22 rfl rfl rfl (.inl rfl) (by kernel_rfl) (by kernel_rfl) (by kernel_rfl) (Still.then (Still.block (Still.then Still.body))) zB Cells.nil (by decide) ?_
      refine VA.takeN 23 rfl rfl rfl (.inl rfl) (by kernel_rfl) (by kernel_rfl) (by kernel_rfl) (Still.then (Still.block (Still.then Still.body))) zB Cells.nil (by decide) ?_
      refine VA.takeN 24 rfl rfl rfl (.inl rfl) (by kernel_rfl) (by kernel_rfl) (by kernel_rfl) (Still.then (Still.block (Still.then Still.body))) zB Cells.nil (by decide) ?_
      refine VA.takeN 25 rfl rfl rfl (.inl rfl) (by kernel_rfl) (by kernel_rfl) (by kernel_rfl) (Still.then (Still.block (Still.then Still.body))) zB Cells.nil (by decide) ?_
      refine VA.takeN 26 rfl rfl rfl (.inl rfl) (by kernel_rfl) (by kernel_rfl) (by kernel_rfl) (Still.then (Still.block (Still.then Still.body))) zB Cells.nil (by decide) ?_
      refine VA.takeN 27 rfl rfl rfl (.inl rfl) (by kernel_rfl) (by kernel_rfl) (by kernel_rfl) (Still.then (Still.block (Still.then Still.body))) zB Cells.nil (by decide) ?_
      refine VA.takeN 28 rfl rfl rfl (.inl rfl) (by kernel_rfl) (by kernel_rfl) (by kernel_rfl) (Still.then (Still.block (Still.then Still.body))) zB Cells.nil (by decide) ?_
      refine VA.takeN 29 rfl rfl rfl (.inl rfl) (by kernel_rfl) (by kernel_rfl) (by kernel_rfl) (Still.then (Still.block (Still.then Still.body))) zB Cells.nil (by decide) ?_
      refine VA.takeN 30 rfl rfl rfl (.inl rfl) (by kernel_rfl) (by kernel_rfl) (by kernel_rfl) (Still.then (Still.block (Still.then Still.body))) zB Cells.nil (by decide) ?_
      refine VA.takeY 31 rfl rfl rfl (by kernel_rfl) (by kernel_rfl) (by kernel_rfl) (Still.then (Still.block (Still.then Still.body))) zB Cells.nil (by decide) (Quiet.c (Q.pick_false rfl rfl)) ?_
      refine VA.takeY 32 rfl rfl rfl (by kernel_rfl) (by kernel_rfl) (by kernel_rfl) (Still.then (Still.block (Still.then Still.body))) zB Cells.nil (by decide) (Quiet.c (Q.pick_false rfl rfl)) ?_
      refine VA.tk 33 rfl (Still.then (Still.block (Still.then Still.body))) zB Cells.nil (Quiet.c (Q.pick_true rfl rfl)) ?_
      refine VA.tk 34 rfl (Still.then (Still.block (Still.then Still.body))) zB Cells.nil (Quiet.c (Q.assign rfl)) ?_
      refine VA.done (by kernel_rfl) ?_
      refine VE.then_normal ?_
      exact VE.meetP false (good3 h86 h96) zE zKs
   ·
    intro z hz
    refine VC.cond rfl ?_ ?_
    ·
     intro h74
     refine VC.seq ?_
     refine VC.region ?_
     refine VL.q (Q.build lay50 zF) ?_
     refine VL.eff (O.store ty50 rfl rfl rfl rfl zU zP ?_)
     refine VL.q (Q.assign rfl) ?_
     refine VL.q (Q.assign rfl) ?_
     refine VL.nil ?_
     refine VE.seq ?_
     refine VC.ret ?_
     refine VE.block_ret ?_
     refine VE.then_ret ?_
     exact VE.ret rfl (.cell ty50 rfl zM rfl (.tmp rfl (.tmp rfl .nil))) (⟨i, true, true, none, 0, 0⟩ : HR) ⟨y64, ⟨fun _ => .inr ⟨rfl, hil, hz.1 h74⟩, fun _ => rfl⟩⟩ rfl zB
    ·
     intro h74
     refine VC.seq ?_
     refine VC.region ?_
     refine VL.q (Q.fieldAddr fa151_4 rfl) ?_
     refine VL.q (Q.load1 ty3 rfl zM rfl) ?_
     refine VL.quietE (v' := .bool false) (by decide) (Q.gt rfl rfl) (congrArg Value.bool (decide_eq_false (by omega))) ?_
     refine VL.q (Q.assign rfl) ?_
     refine VL.nil ?_
     refine VE.seq ?_
     refine VC.condF rfl ?_
     refine VC.seq ?_
     refine VC.region ?_
     refine VL.q (Q.move rfl) ?_
     refine VL.quietE (v' := .bool false) (by decide) (Q.not rfl) (by rfl) ?_
     refine VL.q (Q.move rfl) ?_
     refine VL.no (by simp) rfl rfl (.inl rfl) ?_
     refine VL.no (by simp) rfl rfl (.inl rfl) ?_
     refine VL.no (by simp) rfl rfl (.inl rfl) ?_
     refine VL.no (by simp) rfl rfl (.inl rfl) ?_
     refine VL.quietE (v' := .bool false) (by decide) (Q.pick_false rfl rfl) (by rfl) ?_
     refine VL.q (Q.assign rfl) ?_
     refine VL.nil ?_
     refine VE.seq ?_
     refine VC.condF rfl ?_
     refine VC.skip ?_
     refine VE.block_normal ?_
     refine VE.seq ?_
     refine VC.seq ?_
     refine VC.region ?_
     refine VL.q (Q.loadA ty50 rfl zM zS) ?_
     refine VL.eff (O.call0 ok102 rfl rfl (by decide) (twin_c o sq _ l.length c l rfl hok) (fun _ ho _ => hro.only0 ho) ?_)
     intro x126_1 y126_1
     obtain ⟨p9, c9⟩ := x126_1
     dsimp only at y126_1
     refine VL.eff (O.store ty50 rfl rfl rfl rfl zU zP ?_)
     refine VL.nil ?_
     refine VE.seq ?_
     refine VC.seq ?_
     refine VC.seq ?_
     refine VC.region ?_
     refine VL.q (Q.move rfl) ?_
     refine VL.nil ?_
     refine VE.seq ?_
     refine VC.condT rfl ?_
     refine VC.region ?_
     refine VL.q (Q.fieldAddr fa50_4 rfl) ?_
     refine VL.q (Q.load1 ty47 rfl zM rfl) ?_
     refine VK.rowHead (m := l.length) (p := p9) (c := c9) zM (by omega) ?_
     intro g9 hg9 _ _
     subst hg9
     refine VL.q (Q.move rfl) ?_
     refine VL.q (Q.loadA ty151 rfl zM zS) ?_
     refine VL.q (Q.indexAddr sl47 (j := i) rfl rfl rfl hil) ?_
     refine VL.eff (O.storeRow (ys := treeC (r, (⟨f, s, h + 1, co + e, nw + 5000000⟩ : TreeV))) (xs' := (l.set i (r, (⟨f, s, h + 1, co + e, nw + 5000000⟩ : TreeV))).flatMap treeC) ty151 rfl rfl rfl rfl zA (by rw [Nat.zero_add]; exact fm_put treeC_len l i hil (r, (⟨f, s, h + 1, co + e, nw + 5000000⟩ : TreeV))) ?_)
     refine VL.nil ?_
     refine VE.seq ?_
     refine VC.seq ?_
     refine VC.seq ?_
     refine VC.region ?_
     refine VL.q (Q.fieldAddr fa151_3 rfl) ?_
     refine VL.q (Q.load1 ty3 rfl zM rfl) ?_
     refine VL.quietE (v' := .bool true) (by decide) (Q.lt rfl rfl) (congrArg Value.bool (decide_eq_true (by omega))) ?_
     refine VL.nil ?_
     refine VE.seq ?_
     refine VC.condT rfl ?_
     refine VC.region ?_
     refine VL.q (Q.fieldAddr fa151_0 rfl) ?_
     refine VL.q (Q.loadA ty44 rfl zM zS) ?_
     refine VL.q (Q.fieldAddr fa151_2 rfl) ?_
     refine VL.q (Q.load1 ty3 rfl zM rfl) ?_
     refine VL.q (Q.fieldAddr fa151_3 rfl) ?_
     refine VL.q (Q.load1 ty3 rfl zM rfl) ?_
     refine VL.q (Q.fieldAddr fa151_4 rfl) ?_
     refine VL.q (Q.load1 ty3 rfl zM rfl) ?_
     refine VL.q (Q.fieldAddr fa151_5 rfl) ?_
     refine VL.q (Q.load1 ty4 rfl zM rfl) ?_
     refine VL.q (Q.build lay132 zF) ?_
     refine VL.eff (O.buildSlice sl147 ze132 (by decide) zF (by decide) ?_)
     intro g154_2
     refine VL.q (Q.assign rfl) ?_
     refine VL.nil ?_
     refine VE.seq ?_
     refine VC.seq ?_
     refine VK.keep (by exact .cons (i := 5) rfl (.cons (i := 10) rfl (.cons (i := 11) rfl (.cons (i := 12) rfl ( .nil))))) ?_
     refine VC.region ?_
     refine VL.q (Q.loadA ty50 rfl zM zS) ?_
     refine VL.q (Q.move rfl) ?_
     refine VL.eff (O.store ty50 rfl rfl rfl rfl zU zP ?_)
     refine VL.q (Q.assign rfl) ?_
     refine VL.q (Q.assign rfl) ?_
     refine VL.nil ?_
     refine VE.seq ?_
     refine VC.ret ?_
     exact VE.ret rfl (.cell ty50 rfl zM rfl (.tmp rfl (.tmp rfl .nil))) (⟨i, true, false, (some ⟨g9, 0, none⟩), c9, g154_2⟩ : HR) ⟨y64, ⟨fun q => (by cases q), fun q => (by rcases q with q | ⟨_, _, q⟩; exact absurd q hro2; rw [hz.2 q] at h74; cases h74)⟩⟩ rfl zB

end Go.Proofs.YtencghlmckbmlaaGreat
