/- The contracts of package root. Conditions: those that each bears. -/
import Derived.Test.YtencghlmckbmlaaGreatRows
import Derived.Test.YtencghlmckbmlaaGreatZFind
namespace Go.Proofs.YtencghlmckbmlaaGreat
open Go Go.RowKit Go.Sx
set_option maxRecDepth 100000

theorem fa132_1 : tyField Tryz.prog 132 1 = some 6 := by kernel_rfl
theorem fa132_2 : tyField Tryz.prog 132 2 = some 7 := by kernel_rfl
theorem fa132_3 : tyField Tryz.prog 132 3 = some 8 := by kernel_rfl
theorem fa151_1 : tyField Tryz.prog 151 1 = some 6 := by kernel_rfl
theorem fa151_2 : tyField Tryz.prog 151 2 = some 12 := by kernel_rfl
theorem fa151_3 : tyField Tryz.prog 151 3 = some 13 := by kernel_rfl
theorem fa151_4 : tyField Tryz.prog 151 4 = some 14 := by kernel_rfl
theorem fa151_6 : tyField Tryz.prog 151 6 = some 16 := by kernel_rfl
theorem fa50_0 : tyField Tryz.prog 50 0 = some 0 := by kernel_rfl
theorem fa50_1 : tyField Tryz.prog 50 1 = some 6 := by kernel_rfl
theorem fa50_2 : tyField Tryz.prog 50 2 = some 7 := by kernel_rfl
theorem fa50_3 : tyField Tryz.prog 50 3 = some 8 := by kernel_rfl
theorem fa50_4 : tyField Tryz.prog 50 4 = some 9 := by kernel_rfl
theorem fa50_5 : tyField Tryz.prog 50 5 = some 10 := by kernel_rfl
theorem lay132 : laysOf Tryz.prog 132 = some ([.int .u8 0, .int .u8 0, .int .u8 0, .int .u8 0, .int .u8 0, .int .u8 0, .int .i64 0, .int .i64 0, .int .i64 0, .bool false], [(0, 6), (6, 1), (7, 1), (8, 1), (9, 1)]) := by kernel_rfl
theorem ok101 : okFunc Tryz.prog 101 = true := by kernel_rfl
theorem ok102 : okFunc Tryz.prog 102 = true := by kernel_rfl
theorem ok114 : okFunc Tryz.prog 114 = true := by kernel_rfl
theorem ok131 : okFunc Tryz.prog 131 = true := by kernel_rfl
theorem ok167 : okFunc Tryz.prog 167 = true := by kernel_rfl
theorem ok176 : okFunc Tryz.prog 176 = true := by kernel_rfl
theorem ty132 : tySz Tryz.prog 132 = some (true, 10) := by kernel_rfl
theorem ty47 : tySz Tryz.prog 47 = some (false, 1) := by kernel_rfl
theorem ty48 : tySz Tryz.prog 48 = some (false, 1) := by kernel_rfl
theorem ty50 : tySz Tryz.prog 50 = some (true, 11) := by kernel_rfl
theorem zo132 : tyZero Tryz.prog 132 = some [.int .u8 0, .int .u8 0, .int .u8 0, .int .u8 0, .int .u8 0, .int .u8 0, .int .i64 0, .int .i64 0, .int .i64 0, .bool false] := by kernel_rfl
theorem zo151 : tyZero Tryz.prog 151 = some [.int .u8 0, .int .u8 0, .int .u8 0, .int .u8 0, .int .u8 0, .int .u8 0, .int .u8 0, .int .u8 0, .int .u8 0, .int .u8 0, .int .u8 0, .int .u8 0, .int .i64 0, .int .i64 0, .int .i64 0, .bool false, .int .i64 0] := by kernel_rfl
theorem zo50 : tyZero Tryz.prog 50 = some [.int .u8 0, .int .u8 0, .int .u8 0, .int .u8 0, .int .u8 0, .int .u8 0, .bool false, .bool false, .int .i64 0, .slice none 0 0, .slice none 0 0] := by kernel_rfl

open Go.Mesh
theorem within_c (n a b : Int) (h : a ≤ n ∧ n ≤ b) :
  Does Tryz.prog 114 [.int .i64 n, .int .i64 a, .int .i64 b] [] (fun _ => True) (X := Unit) (fun _ => True) (fun _ => .bool true) (fun _ => []) := by
 refine Does.enter Tryz.func114 rfl (m := 15) rfl (by simp) ?_
 intro W0 hro
 refine VC.seq ?_
 refine VC.region ?_
 refine VL.q (Q.assign rfl) ?_
 refine VL.nil ?_
 refine VE.seq ?_
 refine VC.seq ?_
 refine VC.region ?_
 refine VL.q (Q.move rfl) ?_
 refine VL.q (Q.move rfl) ?_
 refine VL.quietE (v' := .bool true) (by decide) (Q.ge rfl rfl) (congrArg Value.bool (decide_eq_true (by omega))) ?_
 refine VL.q (Q.move rfl) ?_
 refine VL.yes rfl rfl ?_
 refine VL.q (Q.move rfl) ?_
 refine VL.yes rfl rfl ?_
 refine VL.q (Q.move rfl) ?_
 refine VL.yes rfl rfl ?_
 refine VL.quietE (v' := .bool true) (by decide) (Q.le rfl rfl) (congrArg Value.bool (decide_eq_true (by omega))) ?_
 refine VL.quietE (v' := .bool true) (by decide) (Q.pick_true rfl rfl) (by rfl) ?_
 refine VL.q (Q.assign rfl) ?_
 refine VL.nil ?_
 refine VE.seq ?_
 refine VC.ret ?_
 refine VE.ret rfl (.tmp rfl .nil) () ?_ ?_ (List.nil_sublist _)
 ·
  trivial
 ·
  first | rfl | (exfalso; simp at *; omega)

theorem checkword_c (r sq hp co : Nat) (gt : Bool) (h : 1 ≤ sq ∧ sq ≤ 2147483647) (h2 : hp ≤ 15) (h3 : co ≤ 1099511627776) :
  Does Tryz.prog 113 [.agg #[.int .u8 2, .int .u8 0, .int .u8 0, .int .u8 0, .int .u8 2, .int .u8 (r : Int), .int .i64 (sq : Int), .int .i64 (hp : Int), .int .i64 (co : Int), .bool gt]] [] (fun _ => True) (X := Unit) (fun _ => True) (fun _ => .bool true) (fun _ => []) := by
 refine Does.enter Tryz.func113 rfl (m := 16) rfl (by simp) ?_
 intro W0 hro
 refine VC.seq ?_
 refine VC.region ?_
 refine VL.eff (O.box rfl rfl (by decide) ?_)
 intro g1
 refine VL.q (Q.assign rfl) ?_
 refine VL.nil ?_
 refine VE.seq ?_
 refine VC.seq ?_
 refine VC.region ?_
 refine VL.q (Q.fieldAddr fa132_1 rfl) ?_
 refine VL.q (Q.load1 ty3 rfl zM rfl) ?_
 refine VL.eff (O.call0 ok114 rfl rfl (by decide) (within_c _ _ _ (by omega)) (fun _ _ _ => trivial) ?_)
 intro x5 y5
 refine VL.q (Q.move rfl) ?_
 refine VL.yes rfl rfl ?_
 refine VL.q (Q.fieldAddr fa132_2 rfl) ?_
 refine VL.yes rfl rfl ?_
 refine VL.q (Q.load1 ty3 rfl zM rfl) ?_
 refine VL.yes rfl rfl ?_
 refine VL.eff (O.call0 ok114 rfl rfl (by decide) (within_c _ _ _ (by omega)) (fun _ _ _ => trivial) ?_)
 intro x9 y9
 refine VL.quietE (v' := .bool true) (by decide) (Q.pick_true rfl rfl) (by rfl) ?_
 refine VL.q (Q.move rfl) ?_
 refine VL.yes rfl rfl ?_
 refine VL.q (Q.fieldAddr fa132_3 rfl) ?_
 refine VL.yes rfl rfl ?_
 refine VL.q (Q.load1 ty3 rfl zM rfl) ?_
 refine VL.yes rfl rfl ?_
 refine VL.eff (O.call0 ok114 rfl rfl (by decide) (within_c _ _ _ (by omega)) (fun _ _ _ => trivial) ?_)
 intro x14 y14
 refine VL.quietE (v' := .bool true) (by decide) (Q.pick_true rfl rfl) (by rfl) ?_
 refine VL.q (Q.assign rfl) ?_
 refine VL.nil ?_
 refine VE.seq ?_
 refine VC.ret ?_
 refine VE.ret rfl (.tmp rfl .nil) () ?_ ?_ (List.nil_sublist _)
 ·
  trivial
 ·
  first | rfl | (exfalso; simp at *; omega)

theorem rcheck_c (o sq : Nat) (p : Option Addr) (n c : Nat) (l : List (Nat × TreeV)) (hl : l.length = n) (hok : TsOk o l) (hsq : sq ≤ 2147483647) :
  Does Tryz.prog 101 [.agg #[.int .u8 2, .int .u8 0, .int .u8 0, .int .u8 0, .int .u8 2, .int .u8 (o : Int), .bool (decide (o < 2)), .bool (decide (o = 0)), .int .i64 (sq : Int), .slice p n c, .slice none 0 0]] [] (fun W => Rd W p (l.flatMap treeC)) (X := Unit) (fun _ => True) (fun _ => .int .i64 0) (fun _ => []) := by
 subst hl
 have hlen := hok.len
 refine Does.enter Tryz.func101 rfl (m := 126) rfl (by simp) ?_
 intro W0 hro
 refine VC.seq ?_
 refine VC.region ?_
 refine VL.eff (O.box rfl rfl (by decide) ?_)
 intro g1
 refine VL.q (Q.assign rfl) ?_
 refine VL.nil ?_
 refine VE.seq ?_
 refine VC.seq ?_
 refine VC.seqJ (X := Unit) (fun z => [(1, .pointer (some ⟨g1, 0, none⟩)), (2, .int .i64 0), (33, .bool false)]) (fun z => [.blk g1 [.int .u8 2, .int .u8 0, .int .u8 0, .int .u8 0, .int .u8 2, .int .u8 (o : Int), .bool (decide (o < 2)), .bool (decide (o = 0)), .int .i64 (sq : Int), .slice p l.length c, .slice none 0 0] 50]) (fun z => True) ?_ ?_
 ·
  refine VC.region ?_
  refine VL.q (Q.fieldAddr fa50_2 rfl) ?_
  refine VL.q (Q.load1 ty4 rfl zM rfl) ?_
  refine VL.q (Q.move rfl) ?_
  refine VK.case 11 rfl ?_ ?_
  ·
   intro h11
   refine VL.yes rfl rfl ?_
   refine VL.q (Q.fieldAddr fa50_1 rfl) ?_
   refine VL.yes rfl rfl ?_
   refine VL.q (Q.load1 ty4 rfl zM rfl) ?_
   refine VL.yes rfl rfl ?_
   refine VL.q (Q.not rfl) ?_
   refine VL.quietE (v' := .bool false) (by decide) (Q.pick_true rfl rfl) (congrArg Value.bool (by have h0 : o = 0 := of_decide_eq_true h11; simp [h0])) ?_
   refine VL.q (Q.move rfl) ?_
   refine VL.yes rfl rfl ?_
   refine VL.q (Q.fieldAddr fa50_3 rfl) ?_
   refine VL.yes rfl rfl ?_
   refine VL.q (Q.load1 ty3 rfl zM rfl) ?_
   refine VL.yes rfl rfl ?_
   refine VL.eff (O.call0 ok114 rfl rfl (by decide) (within_c _ _ _ (by omega)) (fun _ _ _ => trivial) ?_)
   intro x19 y19
   refine VL.yes rfl rfl ?_
   refine VL.quietE (v' := .bool false) (by decide) (Q.not rfl) (by rfl) ?_
   refine VL.quietE (v' := .bool false) (by decide) (Q.pick_false rfl rfl) (by rfl) ?_
   refine VL.q (Q.move rfl) ?_
   refine VL.yes rfl rfl ?_
   refine VL.q (Q.fieldAddr fa50_4 rfl) ?_
   refine VL.yes rfl rfl ?_
   refine VL.q (Q.load1 ty47 rfl zM rfl) ?_
   refine VL.yes rfl rfl ?_
   refine VL.q (Q.len sl47 rfl) ?_
   refine VL.yes rfl rfl ?_
   refine VL.quietE (v' := .bool false) (by decide) (Q.gt rfl rfl) (congrArg Value.bool (decide_eq_false (by omega))) ?_
   refine VL.quietE (v' := .bool false) (by decide) (Q.pick_false rfl rfl) (by rfl) ?_
   refine VL.q (Q.move rfl) ?_
   refine VL.yes rfl rfl ?_
   refine VL.q (Q.fieldAddr fa50_5 rfl) ?_
   refine VL.yes rfl rfl ?_
   refine VL.q (Q.load1 ty48 rfl zM rfl) ?_
   refine VL.yes rfl rfl ?_
   refine VL.q (Q.len sl48 rfl) ?_
   refine VL.yes rfl rfl ?_
   refine VL.quietE (v' := .bool false) (by decide) (Q.gt rfl rfl) (by rfl) ?_
   refine VL.quietE (v' := .bool false) (by decide) (Q.pick_false rfl rfl) (by rfl) ?_
   refine VL.nil ?_
   refine VE.then_normal ?_
   exact VE.meetP () trivial zE zKs
  ·
   intro h11
   refine VL.no (by simp) rfl rfl (.inl rfl) ?_
   refine VL.no (by simp) rfl rfl (.inl rfl) ?_
   refine VL.no (by simp) rfl rfl (.inl rfl) ?_
   refine VL.quietE (v' := .bool false) (by decide) (Q.pick_false rfl rfl) (by rfl) ?_
   refine VL.q (Q.move rfl) ?_
   refine VL.yes rfl rfl ?_
   refine VL.q (Q.fieldAddr fa50_3 rfl) ?_
   refine VL.yes rfl rfl ?_
   refine VL.q (Q.load1 ty3 rfl zM rfl) ?_
   refine VL.yes rfl rfl ?_
   refine VL.eff (O.call0 ok114 rfl rfl (by decide) (within_c _ _ _ (by omega)) (fun _ _ _ => trivial) ?_)
   intro x19_1 y19_1
   refine VL.yes rfl rfl ?_
   refine VL.quietE (v' := .bool false) (by decide) (Q.not rfl) (by rfl) ?_
   refine VL.quietE (v' := .bool false) (by decide) (Q.pick_false rfl rfl) (by rfl) ?_
   refine VL.q (Q.move rfl) ?_
   refine VL.yes rfl rfl ?_
   refine VL.q (Q.fieldAddr fa50_4 rfl) ?_
   refine VL.yes rfl rfl ?_
   refine VL.q (Q.load1 ty47 rfl zM rfl) ?_
   refine VL.yes rfl rfl ?_
   refine VL.q (Q.len sl47 rfl) ?_
   refine VL.yes rfl rfl ?_
   refine VL.quietE (v' := .bool false) (by decide) (Q.gt rfl rfl) (congrArg Value.bool (decide_eq_false (by omega))) ?_
   refine VL.quietE (v' := .bool false) (by decide) (Q.pick_false rfl rfl) (by rfl) ?_
   refine VL.q (Q.move rfl) ?_
   refine VL.yes rfl rfl ?_
   refine VL.q (Q.fieldAddr fa50_5 rfl) ?_
   refine VL.yes rfl rfl ?_
   refine VL.q (Q.load1 ty48 rfl zM rfl) ?_
   refine VL.yes rfl rfl ?_
   refine VL.q (Q.len sl48 rfl) ?_
   refine VL.yes rfl rfl ?_
   refine VL.quietE (v' := .bool false) (by decide) (Q.gt rfl rfl) (by rfl) ?_
   refine VL.quietE (v' := .bool false) (by decide) (Q.pick_false rfl rfl) (by rfl) ?_
   refine VL.nil ?_
   refine VE.then_normal ?_
   exact VE.meetP () trivial zE zKs
 ·
  intro z hz
  refine VC.condF rfl ?_
  refine VC.skip ?_
  refine VE.seq ?_
  refine VC.seq ?_
  refine VC.seq ?_
  refine VC.region ?_
  refine VL.q (Q.fieldAddr fa50_4 rfl) ?_
  refine VL.q (Q.load1 ty47 rfl zM rfl) ?_
  refine VL.q (Q.len sl47 rfl) ?_
  refine VL.q (Q.move rfl) ?_
  refine VL.nil ?_
  refine VE.seq ?_
  refine VC.block ?_
  refine VC.loop (X := Nat) (fun k => [(1, .pointer (some ⟨g1, 0, none⟩)), (2, .int .i64 0), (35, .slice p l.length c), (36, .int .i64 (l.length : Int)), (37, .int .i64 (k : Int))]) (fun k => [.blk g1 [.int .u8 2, .int .u8 0, .int .u8 0, .int .u8 0, .int .u8 2, .int .u8 (o : Int), .bool (decide (o < 2)), .bool (decide (o = 0)), .int .i64 (sq : Int), .slice p l.length c, .slice none 0 0] 50]) (fun k => k ≤ l.length) (fun k => l.length - k) 0 (Nat.zero_le _) ?_ ?_
  ·
   exact VS.mk zE zB
  ·
   intro k hk
   refine VC.seq ?_
   refine VC.region ?_
   refine VL.q (Q.lt rfl rfl) ?_
   refine VL.nil ?_
   refine VE.seq ?_
   refine VC.seq ?_
   refine VC.cond rfl ?_ ?_
   ·
    intro h38
    have hlt : k < l.length := by have := of_decide_eq_true h38; omega
    obtain ⟨b0, o0, rfl⟩ := hro.pos (by rw [fm_length treeC_len]; omega)
    have ht := hok.el _ (List.getElem_mem hlt)
    have t1 := ht.seq1
    have t2 := ht.seq2
    have t3 := ht.hop1
    have t4 := ht.hop2
    have t5 := ht.cost1
    have t6 := ht.cost2
    have t7 := ht.till
    refine VC.skip ?_
    refine VE.seq ?_
    refine VC.seq ?_
    refine VC.block ?_
    refine VC.seq ?_
    refine VC.region ?_
    refine VL.q (Q.move rfl) ?_
    refine VL.q (Q.indexAddr sl47 (j := k) rfl rfl rfl hlt) ?_
    refine VL.q (Q.load0A (xs := treeC l[k]) ty151 rfl (Rd.sg hro (fm_seg treeC_len l k hlt)) (by simp)) ?_
    refine VL.eff (O.alloc zo151 (by decide) ?_)
    intro g4
    refine VL.q (Q.assign rfl) ?_
    refine VL.eff (O.store ty151 rfl rfl rfl rfl zU zP ?_)
    refine VL.nil ?_
    refine VE.seq ?_
    refine VC.seqJ (X := Unit) (fun z => [(1, .pointer (some ⟨g1, 0, none⟩)), (2, .int .i64 0), (4, .pointer (some ⟨g4, 0, none⟩)), (35, .slice (some ⟨b0, o0, none⟩) l.length c), (36, .int .i64 (l.length : Int)), (37, .int .i64 (k : Int)), (5, .bool true)]) (fun z => [.blk g4 [.int .u8 2, .int .u8 0, .int .u8 0, .int .u8 0, .int .u8 2, .int .u8 (l[k].1 : Int), .int .u8 2, .int .u8 0, .int .u8 0, .int .u8 0, .int .u8 2, .int .u8 (l[k].2.parent : Int), .int .i64 (l[k].2.seq : Int), .int .i64 (l[k].2.hops : Int), .int .i64 (l[k].2.cost : Int), .bool (decide (l[k].1 = 0)), .int .i64 (l[k].2.till : Int)] 151, .blk g1 [.int .u8 2, .int .u8 0, .int .u8 0, .int .u8 0, .int .u8 2, .int .u8 (o : Int), .bool (decide (o < 2)), .bool (decide (o = 0)), .int .i64 (sq : Int), .slice (some ⟨b0, o0, none⟩) l.length c, .slice none 0 0] 50]) (fun z => True) ?_ ?_
    ·
     refine VA.start (Ls := [.blk g4 [.int .u8 2, .int .u8 0, .int .u8 0, .int .u8 0, .int .u8 2, .int .u8 (l[k].1 : Int), .int .u8 2, .int .u8 0, .int .u8 0, .int .u8 0, .int .u8 2, .int .u8 (l[k].2.parent : Int), .int .i64 (l[k].2.seq : Int), .int .i64 (l[k].2.hops : Int), .int .i64 (l[k].2.cost : Int), .bool (decide (l[k].1 = 0)), .int .i64 (l[k].2.till : Int)] 151, .blk g1 [.int .u8 2, .int .u8 0, .int .u8 0, .int .u8 0, .int .u8 2, .int .u8 (o : Int), .bool (decide (o < 2)), .bool (decide (o = 0)), .int .i64 (sq : Int), .slice (some ⟨b0, o0, none⟩) l.length c, .slice none 0 0] 50]) (Cs := []) mixed ?_
     refine VA.tk 0 rfl (Still.then (Still.block (Still.then (Still.then (Still.block (Still.then Still.body)))))) zB Cells.nil (Quiet.c (Q.move rfl)) ?_
     refine VA.tk 1 rfl (Still.then (Still.block (Still.then (Still.then (Still.block (Still.then Still.body)))))) zB Cells.nil (Quiet.c (Q.eq rfl rfl)) ?_
     refine VA.tk 2 rfl (Still.then (Still.block (Still.then (Still.then (Still.block (Still.then Still.body)))))) zB Cells.nil (Quiet.c (Q.move rfl)) ?_
     refine VK.case 44 rfl ?_ ?_
     ·
      intro h44
      refine VA.takeN 3 rfl rfl rfl (.inl rfl) (by kernel_rfl) (by kernel_rfl) (by kernel_rfl) (Still.then (Still.block (Still.then (Still.then (Still.block (Still.then Still.body)))))) zB Cells.nil (by decide) ?_
      refine VA.takeN 4 rfl rfl rfl (.inl rfl) (by kernel_rfl) (by kernel_rfl) (by kernel_rfl) (Still.then (Still.block (Still.then (Still.then (Still.block (Still.then Still.body)))))) zB Cells.nil (by decide) ?_
      refine VA.takeN 5 rfl rfl rfl (.inl rfl) (by kernel_rfl) (by kernel_rfl) (by kernel_rfl) (Still.then (Still.block (Still.then (Still.then (Still.block (Still.then Still.body)))))) zB Cells.nil (by decide) ?_
      refine VA.takeN 6 rfl rfl rfl (.inl rfl) (by kernel_rfl) (by kernel_rfl) (by kernel_rfl) (Still.then (Still.block (Still.then (Still.then (Still.block (Still.then Still.body)))))) zB Cells.nil (by decide) ?_
      refine VA.takeN 7 rfl rfl rfl (.inl rfl) (by kernel_rfl) (by kernel_rfl) (by kernel_rfl) (Still.then (Still.block (Still.then (Still.then (Still.block (Still.then Still.body)))))) zB Cells.nil (by decide) ?_
      refine VA.takeN 8 rfl rfl rfl (.inl rfl) (by kernel_rfl) (by kernel_rfl) (by kernel_rfl) (Still.then (Still.block (Still.then (Still.then (Still.block (Still.then Still.body)))))) zB Cells.nil (by decide) ?_
      refine VA.takeN 9 rfl rfl rfl (.inl rfl) (by kernel_rfl) (by kernel_rfl) (by kernel_rfl) (Still.then (Still.block (Still.then (Still.then (Still.block (Still.then Still.body)))))) zB Cells.nil (by decide) ?_
      refine VA.takeN 10 rfl rfl rfl (.inl rfl) (by kernel_rfl) (by kernel_rfl) (by kernel_rfl) (Still.then (Still.block (Still.then (Still.then (Still.block (Still.then Still.body)))))) zB Cells.nil (by decide) ?_
      refine VA.takeN 11 rfl rfl rfl (.inl rfl) (by kernel_rfl) (by kernel_rfl) (by kernel_rfl) (Still.then (Still.block (Still.then (Still.then (Still.block (Still.then Still.body)))))) zB Cells.nil (by decide) ?_
      refine VA.takeN 12 rfl rfl rfl (.inl rfl) (by kernel_rfl) (by kernel_rfl) (by kernel_rfl) (Still.then (Still.block (Still.then (Still.then (Still.block (Still.then Still.body)))))) zB Cells.nil (by decide) ?_
      refine VA.takeN 13 rfl rfl rfl (.inl rfl) (by kernel_rfl) (by kernel_rfl) (by kernel_rfl) (Still.then (Still.block (Still.then (Still.then (Still.block (Still.then Still.body)))))) zB Cells.nil (by decide) ?_
      refine VA.tk 14 rfl (Still.then (Still.block (Still.then (Still.then (Still.block (Still.then Still.body)))))) zB Cells.nil (Quiet.c (Q.pick_true rfl rfl)) ?_
      refine VA.tk 15 rfl (Still.then (Still.block (Still.then (Still.then (Still.block (Still.then Still.body)))))) zB Cells.nil (Quiet.c (Q.assign rfl)) ?_
      refine VA.done (by kernel_rfl) ?_
      refine VE.then_normal ?_
      exact VE.meetP () trivial zE zKs
     ·
      intro h44
      have hk0 : k ≠ 0 := by intro e; subst e; simp at h44
      refine VA.takeY 3 rfl rfl rfl (by kernel_rfl) (by kernel_rfl) (by kernel_rfl) (Still.then (Still.block (Still.then (Still.then (Still.block (Still.then Still.body)))))) zB Cells.nil (by decide) (Quiet.c (Q.fieldAddr fa50_4 rfl)) ?_
      refine VA.takeY 4 rfl rfl rfl (by kernel_rfl) (by kernel_rfl) (by kernel_rfl) (Still.then (Still.block (Still.then (Still.then (Still.block (Still.then Still.body)))))) zB Cells.nil (by decide) (Quiet.c (Q.load1 ty47 rfl zM rfl)) ?_
      refine VA.takeY 5 rfl rfl rfl (by kernel_rfl) (by kernel_rfl) (by kernel_rfl) (Still.then (Still.block (Still.then (Still.then (Still.block (Still.then Still.body)))))) zB Cells.nil (by decide) (Quiet.c (Q.move rfl)) ?_
      refine VA.takeY 6 rfl rfl rfl (by kernel_rfl) (by kernel_rfl) (by kernel_rfl) (Still.then (Still.block (Still.then (Still.then (Still.block (Still.then Still.body)))))) zB Cells.nil (by decide) (Quiet.c (Quiet.to (v' := .int .i64 ((k - 1 : Nat) : Int)) ((by first | exact Q.subI rfl rfl (by omega) (by omega) | exact Q.sub rfl rfl)) (congrArg (Value.int .i64) (by omega)))) ?_
      refine VA.takeY 7 rfl rfl rfl (by kernel_rfl) (by kernel_rfl) (by kernel_rfl) (Still.then (Still.block (Still.then (Still.then (Still.block (Still.then Still.body)))))) zB Cells.nil (by decide) (Quiet.c (Q.indexAddr sl47 (j := (k - 1)) rfl rfl rfl (by omega))) ?_
      refine VA.takeY 8 rfl rfl rfl (by kernel_rfl) (by kernel_rfl) (by kernel_rfl) (Still.then (Still.block (Still.then (Still.then (Still.block (Still.then Still.body)))))) zB Cells.nil (by decide) (Quiet.c (Q.fieldAddr fa151_0 rfl)) ?_
      refine VA.takeY 9 rfl rfl rfl (by kernel_rfl) (by kernel_rfl) (by kernel_rfl) (Still.then (Still.block (Still.then (Still.then (Still.block (Still.then Still.body)))))) zB Cells.nil (by decide) (Quiet.c (Q.load0A (xs := nodeC l[k - 1].1) ty44 rfl (Rd.sg2 hro (fm_sub treeC_len l (k - 1) (by omega) (o := 0) (ys := nodeC l[k - 1].1) zS)) (by simp))) ?_
      refine VA.takeY 10 rfl rfl rfl (by kernel_rfl) (by kernel_rfl) (by kernel_rfl) (Still.then (Still.block (Still.then (Still.then (Still.block (Still.then Still.body)))))) zB Cells.nil (by decide) (Quiet.c (Q.fieldAddr fa151_0 rfl)) ?_
      refine VA.takeY 11 rfl rfl rfl (by kernel_rfl) (by kernel_rfl) (by kernel_rfl) (Still.then (Still.block (Still.then (Still.then (Still.block (Still.then Still.body)))))) zB Cells.nil (by decide) (Quiet.c (Q.loadA ty44 rfl zM zS)) ?_
      refine VA.all (rs := [12]) (by kernel_rfl) (by simp) ?_
      refine VA.forall1 ?_
      ·
       refine VA.effY rfl rfl rfl ?_
       refine id (O.call0 ok135 rfl rfl (by decide) (acompare_c l[k - 1].1 l[k].1 (hok.key _ (List.getElem_mem _)) (hok.key _ (List.getElem_mem _))) (fun _ _ _ => trivial) ?_)
       intro x54 y54
       refine VA.next zB Cells.nil ?_
       refine VA.takeY 13 rfl rfl rfl (by kernel_rfl) (by kernel_rfl) (by kernel_rfl) (Still.then (Still.block (Still.then (Still.then (Still.block (Still.then Still.body)))))) zB Cells.nil (by decide) (Quiet.c (Quiet.to (v' := .bool true) (Q.lt rfl rfl) (congrArg Value.bool (cmpN_lt.trans (decide_eq_true (hok.srt (k - 1) k (by omega) (by omega) hlt)))))) ?_
       refine VA.tk 14 rfl (Still.then (Still.block (Still.then (Still.then (Still.block (Still.then Still.body)))))) zB Cells.nil (Quiet.c (Q.pick_false rfl rfl)) ?_
       refine VA.tk 15 rfl (Still.then (Still.block (Still.then (Still.then (Still.block (Still.then Still.body)))))) zB Cells.nil (Quiet.c (Q.assign rfl)) ?_
       refine VA.done (by kernel_rfl) ?_
       refine VE.then_normal ?_
       exact VE.meetP () trivial zE zKs
    ·
     intro z hz
     refine VC.seq ?_
     refine VC.region ?_
     refine VL.q (Q.fieldAddr fa151_2 rfl) ?_
     refine VL.q (Q.load1 ty3 rfl zM rfl) ?_
     refine VL.eff (O.call0 ok114 rfl rfl (by decide) (within_c _ _ _ (by omega)) (fun _ _ _ => trivial) ?_)
     intro x59 y59
     refine VL.q (Q.move rfl) ?_
     refine VL.yes rfl rfl ?_
     refine VL.q (Q.fieldAddr fa151_3 rfl) ?_
     refine VL.yes rfl rfl ?_
     refine VL.q (Q.load1 ty3 rfl zM rfl) ?_
     refine VL.yes rfl rfl ?_
     refine VL.eff (O.call0 ok114 rfl rfl (by decide) (within_c _ _ _ (by omega)) (fun _ _ _ => trivial) ?_)
     intro x63 y63
     refine VL.quietE (v' := .bool true) (by decide) (Q.pick_true rfl rfl) (by rfl) ?_
     refine VL.q (Q.move rfl) ?_
     refine VL.yes rfl rfl ?_
     refine VL.q (Q.fieldAddr fa151_4 rfl) ?_
     refine VL.yes rfl rfl ?_
     refine VL.q (Q.load1 ty3 rfl zM rfl) ?_
     refine VL.yes rfl rfl ?_
     refine VL.eff (O.call0 ok114 rfl rfl (by decide) (within_c _ _ _ (by omega)) (fun _ _ _ => trivial) ?_)
     intro x68 y68
     refine VL.quietE (v' := .bool true) (by decide) (Q.pick_true rfl rfl) (by rfl) ?_
     refine VL.q (Q.move rfl) ?_
     refine VL.yes rfl rfl ?_
     refine VL.q (Q.fieldAddr fa151_6 rfl) ?_
     refine VL.yes rfl rfl ?_
     refine VL.q (Q.load1 ty3 rfl zM rfl) ?_
     refine VL.yes rfl rfl ?_
     refine VL.eff (O.call0 ok114 rfl rfl (by decide) (within_c _ _ _ (by omega)) (fun _ _ _ => trivial) ?_)
     intro x73 y73
     refine VL.quietE (v' := .bool true) (by decide) (Q.pick_true rfl rfl) (by rfl) ?_
     refine VL.q (Q.assign rfl) ?_
     refine VL.nil ?_
     refine VE.seq ?_
     refine VC.seq ?_
     refine VC.region ?_
     refine VL.q (Q.move rfl) ?_
     refine VL.quietE (v' := .bool false) (by decide) (Q.not rfl) (by rfl) ?_
     refine VL.q (Q.move rfl) ?_
     refine VL.yes rfl rfl ?_
     refine VL.q (Q.move rfl) ?_
     refine VL.yes rfl rfl ?_
     refine VL.quietE (v' := .bool false) (by decide) (Q.not rfl) (by rfl) ?_
     refine VL.quietE (v' := .bool false) (by decide) (Q.pick_false rfl rfl) (by rfl) ?_
     refine VL.q (Q.move rfl) ?_
     refine VL.yes rfl rfl ?_
     refine VL.q (Q.fieldAddr fa151_0 rfl) ?_
     refine VL.yes rfl rfl ?_
     refine VL.q (Q.loadA ty44 rfl zM zS) ?_
     refine VL.yes rfl rfl ?_
     refine VL.q (Q.fieldAddr fa50_0 rfl) ?_
     refine VL.yes rfl rfl ?_
     refine VL.q (Q.loadA ty44 rfl zM zS) ?_
     refine VL.yes rfl rfl ?_
     refine VL.quietE (v' := .bool false) (by decide) (Q.eqS flt44 (by decide) ty44 eg44 rfl rfl rfl rfl) (congrArg Value.bool ((node_eq l[k].1 o).trans (decide_eq_false ht.own))) ?_
     refine VL.quietE (v' := .bool false) (by decide) (Q.pick_false rfl rfl) (by rfl) ?_
     refine VL.q (Q.move rfl) ?_
     refine VL.yes rfl rfl ?_
     refine VL.q (Q.fieldAddr fa151_1 rfl) ?_
     refine VL.yes rfl rfl ?_
     refine VL.q (Q.loadA ty44 rfl zM zS) ?_
     refine VL.yes rfl rfl ?_
     refine VL.q (Q.fieldAddr fa50_0 rfl) ?_
     refine VL.yes rfl rfl ?_
     refine VL.q (Q.loadA ty44 rfl zM zS) ?_
     refine VL.yes rfl rfl ?_
     refine VL.quietE (v' := .bool false) (by decide) (Q.eqS flt44 (by decide) ty44 eg44 rfl rfl rfl rfl) (congrArg Value.bool ((node_eq l[k].2.parent o).trans (decide_eq_false ht.parn))) ?_
     refine VL.quietE (v' := .bool false) (by decide) (Q.pick_false rfl rfl) (by rfl) ?_
     refine VL.nil ?_
     refine VE.seq ?_
     refine VC.condF rfl ?_
     refine VC.skip ?_
     refine VE.block_normal ?_
     refine VE.seq ?_
     refine VC.region ?_
     refine VL.q ((by first | exact Q.addI rfl rfl (by omega) (by omega) | exact Q.add rfl rfl)) ?_
     refine VL.q (Q.move rfl) ?_
     refine VL.nil ?_
     refine VE.then_normal ?_
     exact VE.round (k + 1) (by omega) (by omega) zE zB
   ·
    intro h38
    refine VC.exit ?_
    refine VE.then_exit ?_
    refine VE.then_exit ?_
    refine VE.block_here ?_
    refine VE.seq ?_
    refine VC.seq ?_
    refine VC.seq ?_
    refine VC.region ?_
    refine VL.q (Q.fieldAddr fa50_5 rfl) ?_
    refine VL.q (Q.load1 ty48 rfl zM rfl) ?_
    refine VL.q (Q.len sl48 rfl) ?_
    refine VL.q (Q.move rfl) ?_
    refine VL.nil ?_
    refine VE.seq ?_
    refine VC.block ?_
    refine VC.rounds 40 ?_
    refine VC.rnd (m := 39) ?_
    refine VC.seq ?_
    refine VC.region ?_
    refine VL.q (Q.lt rfl rfl) ?_
    refine VL.nil ?_
    refine VE.seq ?_
    refine VC.seq ?_
    refine VC.condF rfl ?_
    refine VC.exit ?_
    refine VE.then_exit ?_
    refine VE.then_exit ?_
    refine VE.block_here ?_
    refine VE.seq ?_
    refine VC.seq ?_
    refine VC.region ?_
    refine VL.q (Q.assign rfl) ?_
    refine VL.nil ?_
    refine VE.seq ?_
    refine VC.ret ?_
    refine VE.ret rfl (.tmp rfl .nil) () ?_ ?_ (List.nil_sublist _)
    ·
     trivial
    ·
     first | rfl | (exfalso; simp at *; omega)

theorem clone_nil  :
  Does Tryz.prog 167 [.slice none 0 0] [] (fun _ => True) (X := Unit) (fun _ => True) (fun _ => .slice none 0 0) (fun _ => []) := by
 refine Does.enter Tryz.func167 rfl (m := 8) rfl (by simp) ?_
 intro W0 hro
 refine VC.seq ?_
 refine VC.region ?_
 refine VL.q (Q.assign rfl) ?_
 refine VL.nil ?_
 refine VE.seq ?_
 refine VC.seq ?_
 refine VC.seq ?_
 refine VC.region ?_
 refine VL.q (Q.move rfl) ?_
 refine VL.quietE (v' := .bool true) (by decide) (Q.eqNil sl48 rfl rfl rfl) (by rfl) ?_
 refine VL.nil ?_
 refine VE.seq ?_
 refine VC.condT rfl ?_
 refine VC.seq ?_
 refine VC.region ?_
 refine VL.q (Q.assign rfl) ?_
 refine VL.nil ?_
 refine VE.seq ?_
 refine VC.ret ?_
 refine VE.then_ret ?_
 refine VE.ret rfl (.tmp rfl .nil) () ?_ ?_ (List.nil_sublist _)
 ·
  trivial
 ·
  first | rfl | (exfalso; simp at *; omega)

theorem twin_c (o sq : Nat) (p : Option Addr) (n c : Nat) (l : List (Nat × TreeV)) (hl : l.length = n) (hok : TsOk o l) :
  Does Tryz.prog 102 [.agg #[.int .u8 2, .int .u8 0, .int .u8 0, .int .u8 0, .int .u8 2, .int .u8 (o : Int), .bool (decide (o < 2)), .bool (decide (o = 0)), .int .i64 (sq : Int), .slice p n c, .slice none 0 0]] [] (fun W => Rd W p (l.flatMap treeC)) (X := Option Addr × Nat) (fun x => l.length ≤ x.2) (fun x => .agg #[.int .u8 2, .int .u8 0, .int .u8 0, .int .u8 0, .int .u8 2, .int .u8 (o : Int), .bool (decide (o < 2)), .bool (decide (o = 0)), .int .i64 (sq : Int), .slice x.1 l.length x.2, .slice none 0 0]) (fun x => [.row (.slice x.1 l.length x.2) 151 17 l.length ((l).flatMap treeC)]) := by
 subst hl
 have hlen := hok.len
 refine Does.enter Tryz.func102 rfl (m := 12) rfl (by simp) ?_
 intro W0 hro
 refine VC.seq ?_
 refine VC.region ?_
 refine VL.eff (O.box rfl rfl (by decide) ?_)
 intro g1
 refine VL.eff (O.alloc zo50 (by decide) ?_)
 intro g2
 refine VL.nil ?_
 refine VE.seq ?_
 refine VC.seq ?_
 refine VA.start (Ls := []) (Cs := []) mixed ?_
 refine VA.tk 0 rfl (Still.then Still.body) (List.nil_sublist _) Cells.nil (Quiet.c (Q.fieldAddr fa50_4 rfl)) ?_
 refine VA.tk 3 rfl (Still.then Still.body) (List.nil_sublist _) Cells.nil (Quiet.c (Q.fieldAddr fa50_5 rfl)) ?_
 refine VA.all (rs := [1, 4]) (by kernel_rfl) (by simp) ?_
 refine VA.forall2 ?_ ?_
 ·
  refine VA.eff rfl ?_
  refine O.quiet (by decide) (Q.load1 ty47 rfl zM rfl) ?_
  refine VA.next (List.nil_sublist _) Cells.nil ?_
  refine VA.all (rs := [2, 4]) (by kernel_rfl) (by simp) ?_
  refine VA.forall2 ?_ ?_
  ·
   refine VA.eff rfl ?_
   refine id (O.call0 ok131 rfl rfl (by decide) (clone_tree p l.length c (l.flatMap treeC) (fm_length treeC_len l) (fm_one treeC_one l) (by omega)) (fun _ ho _ => hro.only0 ho) ?_)
   intro x5 y5
   obtain ⟨p5, c5⟩ := x5
   dsimp only at y5
   refine VA.next (List.nil_sublist _) Cells.nil ?_
   refine VA.all (rs := [4]) (by kernel_rfl) (by simp) ?_
   refine VA.forall1 ?_
   ·
    refine VA.eff rfl ?_
    refine O.quiet (by decide) (Q.load1 ty48 rfl zM rfl) ?_
    refine VA.next (List.nil_sublist _) Cells.nil ?_
    refine VA.tk 6 rfl (Still.then Still.body) (List.nil_sublist _) Cells.nil (Quiet.c (Q.fieldAddr fa50_4 rfl)) ?_
    refine VA.all (rs := [5]) (by kernel_rfl) (by simp) ?_
    refine VA.forall1 ?_
    ·
     refine VA.eff rfl ?_
     refine id (O.call0 ok167 rfl rfl (by decide) (clone_nil) (fun _ _ _ => trivial) ?_)
     intro x8 y8
     refine VA.next (List.nil_sublist _) Cells.nil ?_
     refine VA.all (rs := [7]) (by kernel_rfl) (by simp) ?_
     refine VA.forall1 ?_
     ·
      refine VA.eff rfl ?_
      refine id (O.store ty47 rfl rfl rfl rfl zU zP ?_)
      refine VA.next (List.nil_sublist _) Cells.nil ?_
      refine VA.tk 8 rfl (Still.then Still.body) (List.nil_sublist _) Cells.nil (Quiet.c (Q.fieldAddr fa50_5 rfl)) ?_
      refine VA.all (rs := [9]) (by kernel_rfl) (by simp) ?_
      refine VA.forall1 ?_
      ·
       refine VA.eff rfl ?_
       refine id (O.store ty48 rfl rfl rfl rfl zU zP ?_)
       refine VA.next (List.nil_sublist _) Cells.nil ?_
       refine VA.done (by kernel_rfl) ?_
       refine VE.seq ?_
       refine VC.seq ?_
       refine VC.region ?_
       refine VL.q (Q.loadA ty50 rfl zM zS) ?_
       refine VL.eff (O.store ty50 rfl rfl rfl rfl zU zP ?_)
       refine VL.nil ?_
       refine VE.seq ?_
       refine VC.ret ?_
       exact VE.ret rfl (.cell ty50 rfl zM rfl .nil) (p5, c5) (by assumption) rfl zB
  ·
   refine VA.eff rfl ?_
   refine O.quiet (by decide) (Q.load1 ty48 rfl zM rfl) ?_
   refine VA.next (List.nil_sublist _) Cells.nil ?_
   refine VA.all (rs := [2]) (by kernel_rfl) (by simp) ?_
   refine VA.forall1 ?_
   ·
    refine VA.eff rfl ?_
    refine id (O.call0 ok131 rfl rfl (by decide) (clone_tree p l.length c (l.flatMap treeC) (fm_length treeC_len l) (fm_one treeC_one l) (by omega)) (fun _ ho _ => hro.only0 ho) ?_)
    intro x5_1 y5_1
    obtain ⟨p5, c5⟩ := x5_1
    dsimp only at y5_1
    refine VA.next (List.nil_sublist _) Cells.nil ?_
    refine VA.tk 6 rfl (Still.then Still.body) (List.nil_sublist _) Cells.nil (Quiet.c (Q.fieldAddr fa50_4 rfl)) ?_
    refine VA.all (rs := [5]) (by kernel_rfl) (by simp) ?_
    refine VA.forall1 ?_
    ·
     refine VA.eff rfl ?_
     refine id (O.call0 ok167 rfl rfl (by decide) (clone_nil) (fun _ _ _ => trivial) ?_)
     intro x8_1 y8_1
     refine VA.next (List.nil_sublist _) Cells.nil ?_
     refine VA.all (rs := [7]) (by kernel_rfl) (by simp) ?_
     refine VA.forall1 ?_
     ·
      refine VA.eff rfl ?_
      refine id (O.store ty47 rfl rfl rfl rfl zU zP ?_)
      refine VA.next (List.nil_sublist _) Cells.nil ?_
      refine VA.tk 8 rfl (Still.then Still.body) (List.nil_sublist _) Cells.nil (Quiet.c (Q.fieldAddr fa50_5 rfl)) ?_
      refine VA.all (rs := [9]) (by kernel_rfl) (by simp) ?_
      refine VA.forall1 ?_
      ·
       refine VA.eff rfl ?_
       refine id (O.store ty48 rfl rfl rfl rfl zU zP ?_)
       refine VA.next (List.nil_sublist _) Cells.nil ?_
       refine VA.done (by kernel_rfl) ?_
       refine VE.seq ?_
       refine VC.seq ?_
       refine VC.region ?_
       refine VL.q (Q.loadA ty50 rfl zM zS) ?_
       refine VL.eff (O.store ty50 rfl rfl rfl rfl zU zP ?_)
       refine VL.nil ?_
       refine VE.seq ?_
       refine VC.ret ?_
       exact VE.ret rfl (.cell ty50 rfl zM rfl .nil) (p5, c5) (by assumption) rfl zB
 ·
  refine VA.eff rfl ?_
  refine O.quiet (by decide) (Q.load1 ty48 rfl zM rfl) ?_
  refine VA.next (List.nil_sublist _) Cells.nil ?_
  refine VA.all (rs := [1]) (by kernel_rfl) (by simp) ?_
  refine VA.forall1 ?_
  ·
   refine VA.eff rfl ?_
   refine O.quiet (by decide) (Q.load1 ty47 rfl zM rfl) ?_
   refine VA.next (List.nil_sublist _) Cells.nil ?_
   refine VA.all (rs := [2]) (by kernel_rfl) (by simp) ?_
   refine VA.forall1 ?_
   ·
    refine VA.eff rfl ?_
    refine id (O.call0 ok131 rfl rfl (by decide) (clone_tree p l.length c (l.flatMap treeC) (fm_length treeC_len l) (fm_one treeC_one l) (by omega)) (fun _ ho _ => hro.only0 ho) ?_)
    intro x5_2 y5_2
    obtain ⟨p5, c5⟩ := x5_2
    dsimp only at y5_2
    refine VA.next (List.nil_sublist _) Cells.nil ?_
    refine VA.tk 6 rfl (Still.then Still.body) (List.nil_sublist _) Cells.nil (Quiet.c (Q.fieldAddr fa50_4 rfl)) ?_
    refine VA.all (rs := [5]) (by kernel_rfl) (by simp) ?_
    refine VA.forall1 ?_
    ·
     refine VA.eff rfl ?_
     refine id (O.call0 ok167 rfl rfl (by decide) (clone_nil) (fun _ _ _ => trivial) ?_)
     intro x8_2 y8_2
     refine VA.next (List.nil_sublist _) Cells.nil ?_
     refine VA.all (rs := [7]) (by kernel_rfl) (by simp) ?_
     refine VA.forall1 ?_
     ·
      refine VA.eff rfl ?_
      refine id (O.store ty47 rfl rfl rfl rfl zU zP ?_)
      refine VA.next (List.nil_sublist _) Cells.nil ?_
      refine VA.tk 8 rfl (Still.then Still.body) (List.nil_sublist _) Cells.nil (Quiet.c (Q.fieldAddr fa50_5 rfl)) ?_
      refine VA.all (rs := [9]) (by kernel_rfl) (by simp) ?_
      refine VA.forall1 ?_
      ·
       refine VA.eff rfl ?_
       refine id (O.store ty48 rfl rfl rfl rfl zU zP ?_)
       refine VA.next (List.nil_sublist _) Cells.nil ?_
       refine VA.done (by kernel_rfl) ?_
       refine VE.seq ?_
       refine VC.seq ?_
       refine VC.region ?_
       refine VL.q (Q.loadA ty50 rfl zM zS) ?_
       refine VL.eff (O.store ty50 rfl rfl rfl rfl zU zP ?_)
       refine VL.nil ?_
       refine VE.seq ?_
       refine VC.ret ?_
       exact VE.ret rfl (.cell ty50 rfl zM rfl .nil) (p5, c5) (by assumption) rfl zB

theorem announce_c (o sq : Nat) (p : Option Addr) (n c : Nat) (l : List (Nat × TreeV)) (hl : l.length = n) (hok : TsOk o l) (ho2 : o < 2) (hsq : sq < 2147483647) :
  Does Tryz.prog 38 [.agg #[.int .u8 2, .int .u8 0, .int .u8 0, .int .u8 0, .int .u8 2, .int .u8 (o : Int), .bool (decide (o < 2)), .bool (decide (o = 0)), .int .i64 (sq : Int), .slice p n c, .slice none 0 0]] [] (fun W => Rd W p (l.flatMap treeC)) (X := Option Addr × Nat) (fun x => l.length ≤ x.2) (fun x => .tuple #[.agg #[.int .u8 2, .int .u8 0, .int .u8 0, .int .u8 0, .int .u8 2, .int .u8 (o : Int), .int .i64 ((sq + 1 : Nat) : Int), .int .i64 ((0 : Nat) : Int), .int .i64 ((0 : Nat) : Int), .bool (decide (o = 0))], .agg #[.int .u8 2, .int .u8 0, .int .u8 0, .int .u8 0, .int .u8 2, .int .u8 (o : Int), .bool (decide (o < 2)), .bool (decide (o = 0)), .int .i64 ((sq + 1 : Nat) : Int), .slice x.1 l.length x.2, .slice none 0 0], .int .i64 0]) (fun x => [.row (.slice x.1 l.length x.2) 151 17 l.length ((l).flatMap treeC)]) := by
 subst hl
 have hlen := hok.len
 refine Does.enter Tryz.func38 rfl (m := 39) rfl (by simp) ?_
 intro W0 hro
 refine VC.seq ?_
 refine VC.region ?_
 refine VL.eff (O.box rfl rfl (by decide) ?_)
 intro g1
 refine VL.eff (O.alloc zo132 (by decide) ?_)
 intro g2
 refine VL.eff (O.alloc zo50 (by decide) ?_)
 intro g3
 refine VL.q (Q.assign rfl) ?_
 refine VL.nil ?_
 refine VE.seq ?_
 refine VC.seq ?_
 refine VC.region ?_
 refine VL.q (Q.loadA ty50 rfl zM zS) ?_
 refine VL.eff (O.call0 ok101 rfl rfl (by decide) (rcheck_c o sq p l.length c l rfl hok (by omega)) (fun _ ho _ => hro.only0 ho) ?_)
 intro x6 y6
 refine VL.q (Q.assign rfl) ?_
 refine VL.nil ?_
 refine VE.seq ?_
 refine VC.seq ?_
 refine VC.block ?_
 refine VC.seq ?_
 refine VC.region ?_
 refine VL.q (Q.move rfl) ?_
 refine VL.quietE (v' := .bool false) (by decide) (Q.ne rfl rfl) (by rfl) ?_
 refine VL.q (Q.assign rfl) ?_
 refine VL.nil ?_
 refine VE.seq ?_
 refine VC.condF rfl ?_
 refine VC.seq ?_
 refine VC.region ?_
 refine VL.q (Q.fieldAddr fa50_1 rfl) ?_
 refine VL.q (Q.load1 ty4 rfl zM rfl) ?_
 refine VL.quietE (v' := .bool false) (by decide) (Q.not rfl) (congrArg (fun b => Value.bool (!b)) (decide_eq_true ho2)) ?_
 refine VL.q (Q.assign rfl) ?_
 refine VL.nil ?_
 refine VE.seq ?_
 refine VC.condF rfl ?_
 refine VC.seq ?_
 refine VC.region ?_
 refine VL.q (Q.fieldAddr fa50_3 rfl) ?_
 refine VL.q (Q.load1 ty3 rfl zM rfl) ?_
 refine VL.quietE (v' := .bool false) (by decide) (Q.eq rfl rfl) (congrArg Value.bool (decide_eq_false (by omega))) ?_
 refine VL.q (Q.assign rfl) ?_
 refine VL.nil ?_
 refine VE.seq ?_
 refine VC.condF rfl ?_
 refine VC.skip ?_
 refine VE.block_normal ?_
 refine VE.seq ?_
 refine VC.seq ?_
 refine VC.region ?_
 refine VL.q (Q.loadA ty50 rfl zM zS) ?_
 refine VL.eff (O.call0 ok102 rfl rfl (by decide) (twin_c o sq p l.length c l rfl hok) (fun _ ho _ => hro.only0 ho) ?_)
 intro x26 y26
 obtain ⟨p9, c9⟩ := x26
 dsimp only at y26
 refine VL.eff (O.store ty50 rfl rfl rfl rfl zU zP ?_)
 refine VL.nil ?_
 refine VE.seq ?_
 refine VC.seq ?_
 refine VC.region ?_
 refine VL.q (Q.fieldAddr fa50_3 rfl) ?_
 refine VL.q (Q.load1 ty3 rfl zM rfl) ?_
 refine VL.quietE (v' := .int .i64 ((sq + 1 : Nat) : Int)) (by decide) ((by first | exact Q.addI rfl rfl (by omega) (by omega) | exact Q.add rfl rfl)) (by rfl) ?_
 refine VL.q (Q.fieldAddr fa50_3 rfl) ?_
 refine VL.eff (O.store ty3 rfl rfl rfl rfl zU zP ?_)
 refine VL.nil ?_
 refine VE.seq ?_
 refine VC.seq ?_
 refine VA.start (Ls := [.blk g1 [.int .u8 2, .int .u8 0, .int .u8 0, .int .u8 0, .int .u8 2, .int .u8 (o : Int), .bool (decide (o < 2)), .bool (decide (o = 0)), .int .i64 ((sq + 1 : Nat) : Int), .slice p9 l.length c9, .slice none 0 0] 50]) (Cs := []) mixed ?_
 refine VA.tk 0 rfl (Still.then Still.body) (List.singleton_sublist.2 zM) Cells.nil (Quiet.c (Q.fieldAddr fa50_0 rfl)) ?_
 refine VA.tk 1 rfl (Still.then Still.body) (List.singleton_sublist.2 zM) Cells.nil (Quiet.c (Q.loadA ty44 rfl zM zS)) ?_
 refine VA.tk 2 rfl (Still.then Still.body) (List.singleton_sublist.2 zM) Cells.nil (Quiet.c (Q.fieldAddr fa50_3 rfl)) ?_
 refine VA.tk 3 rfl (Still.then Still.body) (List.singleton_sublist.2 zM) Cells.nil (Quiet.c (Q.load1 ty3 rfl zM rfl)) ?_
 refine VA.tk 4 rfl (Still.then Still.body) (List.singleton_sublist.2 zM) Cells.nil (Quiet.c (Q.fieldAddr fa50_2 rfl)) ?_
 refine VA.tk 5 rfl (Still.then Still.body) (List.singleton_sublist.2 zM) Cells.nil (Quiet.c (Q.load1 ty4 rfl zM rfl)) ?_
 refine VA.tk 6 rfl (Still.then Still.body) (List.singleton_sublist.2 zM) Cells.nil (Quiet.c (Q.build lay132 zF)) ?_
 refine VA.tk 7 rfl (Still.then Still.body) (List.singleton_sublist.2 zM) Cells.nil (Quiet.c (Q.loadA ty50 rfl zM zS)) ?_
 refine VA.all (rs := [8]) (by kernel_rfl) (by simp) ?_
 refine VA.forall1 ?_
 ·
  refine VA.eff rfl ?_
  refine id (O.store ty132 rfl rfl rfl rfl zU zP ?_)
  refine VA.next (List.singleton_sublist.2 zM) Cells.nil ?_
  refine VA.all (rs := [9]) (by kernel_rfl) (by simp) ?_
  refine VA.forall1 ?_
  ·
   refine VA.eff rfl ?_
   refine id (O.store ty50 rfl rfl rfl rfl zU zP ?_)
   refine VA.next (List.singleton_sublist.2 zM) Cells.nil ?_
   refine VA.tk 10 rfl (Still.then Still.body) (List.singleton_sublist.2 zM) Cells.nil (Quiet.c (Q.assign rfl)) ?_
   refine VA.done (by kernel_rfl) ?_
   refine VE.seq ?_
   refine VC.ret ?_
   exact VE.ret rfl (.cell ty132 rfl zM rfl (.cell ty50 rfl zM rfl (.tmp rfl .nil))) (p9, c9) (by assumption) rfl zB

theorem rtree_c (o sq : Nat) (p : Option Addr) (n c : Nat) (l : List (Nat × TreeV)) (hl : l.length = n) (hok : TsOk o l) (r : Nat) (hr : r < 2) :
  Does Tryz.prog 115 [.agg #[.int .u8 2, .int .u8 0, .int .u8 0, .int .u8 0, .int .u8 2, .int .u8 (o : Int), .bool (decide (o < 2)), .bool (decide (o = 0)), .int .i64 (sq : Int), .slice p n c, .slice none 0 0], .agg #[.int .u8 2, .int .u8 0, .int .u8 0, .int .u8 0, .int .u8 2, .int .u8 (r : Int)]] [] (fun W => Rd W p (l.flatMap treeC)) (X := Nat × Bool) (fun x => BS l r x) (fun x => .tuple #[.int .i64 (x.1 : Int), .bool x.2]) (fun _ => []) := by
 subst hl
 have hlen := hok.len
 refine Does.enter Tryz.func115 rfl (m := 12) rfl (by simp) ?_
 intro W0 hro
 refine VC.seq ?_
 refine VC.region ?_
 refine VL.eff (O.box rfl rfl (by decide) ?_)
 intro g2
 refine VL.eff (O.box rfl rfl (by decide) ?_)
 intro g3
 refine VL.q (Q.assign rfl) ?_
 refine VL.q (Q.assign rfl) ?_
 refine VL.nil ?_
 refine VE.seq ?_
 refine VC.seq ?_
 refine VC.region ?_
 refine VL.q (Q.fieldAddr fa50_4 rfl) ?_
 refine VL.q (Q.load1 ty47 rfl zM rfl) ?_
 refine VL.q (Q.loadA ty44 rfl zM zS) ?_
 refine VL.eff (O.call0 ok176 rfl rfl (by decide) (bsearch_tree p l.length c l rfl r (by omega) (by omega) hok.key hok.srt) (fun _ ho _ => hro.only0 ho) ?_)
 intro x9 y9
 refine VL.q (Q.extract rfl rfl) ?_
 refine VL.q (Q.extract rfl rfl) ?_
 refine VL.q (Q.assign rfl) ?_
 refine VL.q (Q.assign rfl) ?_
 refine VL.nil ?_
 refine VE.seq ?_
 refine VC.ret ?_
 exact VE.ret rfl (.tmp rfl (.tmp rfl .nil)) x9 y9 rfl zB

end Go.Proofs.YtencghlmckbmlaaGreat
