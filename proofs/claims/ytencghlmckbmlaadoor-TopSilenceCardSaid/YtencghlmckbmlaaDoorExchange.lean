/- The contracts of package exchange. Conditions: those that each bears. -/
import Derived.Test.YtencghlmckbmlaaDoorRows
import Derived.Test.YtencghlmckbmlaaDoorParts
namespace Go.Proofs.YtencghlmckbmlaaDoor
open Go Go.RowKit Go.Sx
set_option maxRecDepth 100000

theorem fa106_0 : tyField Tryd.prog 106 0 = some 0 := by kernel_rfl
theorem fa106_1 : tyField Tryd.prog 106 1 = some 1 := by kernel_rfl
theorem lay48 : laysOf Tryd.prog 48 = some ([.int .u8 0, .bool false, .int .i64 0, .int .i64 0, .int .i64 0, .int .i64 0], [(0, 1), (1, 1), (2, 1), (3, 1), (4, 1), (5, 1)]) := by kernel_rfl
theorem ok26 : okFunc Tryd.prog 26 = true := by kernel_rfl
theorem ok43 : okFunc Tryd.prog 43 = true := by kernel_rfl
theorem sl35 : tySlice Tryd.prog 35 = some (3, 1, 8) := by kernel_rfl
theorem sl39 : tySlice Tryd.prog 39 = some (48, 6, 40) := by kernel_rfl
theorem ty3 : tySz Tryd.prog 3 = some (false, 1) := by kernel_rfl
theorem ty39 : tySz Tryd.prog 39 = some (false, 1) := by kernel_rfl
theorem ze48 : (Tryd.prog.info? 48).bind (·.zero) = some (.agg #[.int .u8 0, .bool false, .int .i64 0, .int .i64 0, .int .i64 0, .int .i64 0]) := by kernel_rfl

theorem odd_c (a : Int) (h : 1 ≤ a ∧ a ≤ 32767) :
    Does Tryd.prog 26 [.int .i64 a] [] (fun _ => True) (X := Unit) (fun _ => True) (fun _ => .bool false) (fun _ => []) := by
  refine Does.enter Tryd.func26 rfl (m := 9) rfl (by simp) ?_
  intro W0 hro
  refine VC.seq ?_
  refine VC.region ?_
  refine VL.q (Q.assign rfl) ?_
  refine VL.nil ?_
  refine VE.seq ?_
  refine VC.seq ?_
  refine VC.region ?_
  refine VL.q (Q.move rfl) ?_
  refine VL.quietE (v' := .bool false) (by decide) (Q.lt rfl rfl) (congrArg Value.bool (decide_eq_false (by omega))) ?_
  refine VL.q (Q.move rfl) ?_
  refine VL.yes rfl rfl ?_
  refine VL.q (Q.move rfl) ?_
  refine VL.yes rfl rfl ?_
  refine VL.quietE (v' := .bool false) (by decide) (Q.gt rfl rfl) (congrArg Value.bool (decide_eq_false (by omega))) ?_
  refine VL.quietE (v' := .bool false) (by decide) (Q.pick_false rfl rfl) (by rfl) ?_
  refine VL.q (Q.assign rfl) ?_
  refine VL.nil ?_
  refine VE.seq ?_
  refine VC.ret ?_
  refine VE.ret rfl (.tmp rfl .nil) () ?_ ?_ (List.nil_sublist _)
  · trivial
  · first | rfl | (exfalso; simp at *; omega)

theorem indexf_c (p : Option Addr) (n c : Nat) (l : List Int) (hn : l.length = n) (hl : ∀ a ∈ l, 1 ≤ a ∧ a ≤ 32767) (h6 : n ≤ 1000000) :
    Does Tryd.prog 43 [.slice p n c, .func (.func 26) #[] #[]] [] (fun W => Rd W p (is l)) (X := Unit) (fun _ => True) (fun _ => .int .i64 (-1)) (fun _ => []) := by
  subst hn
  refine Does.enter Tryd.func43 rfl (m := 19) rfl (by simp) ?_
  intro W0 hro
  refine VC.seq ?_
  refine VC.region ?_
  refine VL.q (Q.assign rfl) ?_
  refine VL.nil ?_
  refine VE.seq ?_
  refine VC.seq ?_
  refine VC.seq ?_
  refine VC.region ?_
  refine VL.q (Q.move rfl) ?_
  refine VL.q (Q.len sl35 rfl) ?_
  refine VL.q (Q.move rfl) ?_
  refine VL.nil ?_
  refine VE.seq ?_
  refine VC.block ?_
  refine VC.loopK (X := Nat) (fun k => [(0, .slice p l.length c), (1, .func (.func 26) #[] #[]), (7, .int .i64 (l.length : Int)), (8, .int .i64 (k : Int))]) (fun k => k ≤ l.length) (fun k => l.length - k) 0 (by omega) ?_ ?_
  · exact VS.mk zE (List.Sublist.refl _)
  · intro k hk
    refine VC.seq ?_
    refine VC.region ?_
    refine VL.q (Q.lt rfl rfl) ?_
    refine VL.nil ?_
    refine VE.seq ?_
    refine VC.seq ?_
    refine VC.cond rfl ?_ ?_
    · intro h9
      have hlt : k < l.length := by have := of_decide_eq_true h9; omega
      obtain ⟨b0, o0, rfl, hc0⟩ := hro k _ (is_get l k hlt)
      refine VC.skip ?_
      refine VE.seq ?_
      refine VC.seq ?_
      refine VC.block ?_
      refine VC.seq ?_
      refine VC.region ?_
      refine VL.q (Q.move rfl) ?_
      refine VL.q (Q.assign rfl) ?_
      refine VL.nil ?_
      refine VE.seq ?_
      refine VC.seq ?_
      refine VC.region ?_
      refine VL.q (Q.move rfl) ?_
      refine VL.q (Q.move rfl) ?_
      refine VL.q (Q.move rfl) ?_
      refine VL.q (Q.indexAddr sl35 (j := k) rfl rfl rfl hlt) ?_
      refine VL.q (Q.load0 ty3 rfl (by simpa using hc0) (by simp)) ?_
      refine VL.eff (O.call0 ok26 rfl rfl (by decide) (odd_c _ (hl _ (List.getElem_mem hlt))) (fun _ _ _ => trivial) ?_)
      intro x16 y16
      refine VL.nil ?_
      refine VE.seq ?_
      refine VC.condF rfl ?_
      refine VC.skip ?_
      refine VE.block_normal ?_
      refine VE.seq ?_
      refine VC.region ?_
      refine VL.q ((by first | exact Q.addI rfl rfl (by omega) (by omega) | exact Q.add rfl rfl)) ?_
      refine VL.q (Q.move rfl) ?_
      refine VL.nil ?_
      refine VE.then_normal ?_
      exact VE.roundK (k + 1) (by omega) (by omega) zE (List.Sublist.refl _)
    · intro h9
      refine VC.exit ?_
      refine VE.then_exit ?_
      refine VE.then_exit ?_
      refine VE.block_here ?_
      refine VE.seq ?_
      refine VC.seq ?_
      refine VC.region ?_
      refine VL.q (Q.assign rfl) ?_
      refine VL.nil ?_
      refine VE.seq ?_
      refine VC.ret ?_
      refine VE.ret rfl (.tmp rfl .nil) () ?_ ?_ (List.nil_sublist _)
      · trivial
      · rfl

theorem contains_c (p : Option Addr) (n c : Nat) (l : List Int) (hn : l.length = n) (hl : ∀ a ∈ l, 1 ≤ a ∧ a ≤ 32767) (h6 : n ≤ 1000000) :
    Does Tryd.prog 25 [.slice p n c, .func (.func 26) #[] #[]] [] (fun W => Rd W p (is l)) (X := Unit) (fun _ => True) (fun _ => .bool false) (fun _ => []) := by
  refine Does.enter Tryd.func25 rfl (m := 9) rfl (by simp) ?_
  intro W0 hro
  refine VC.seq ?_
  refine VC.region ?_
  refine VL.q (Q.assign rfl) ?_
  refine VL.nil ?_
  refine VE.seq ?_
  refine VC.seq ?_
  refine VC.region ?_
  refine VL.q (Q.move rfl) ?_
  refine VL.q (Q.move rfl) ?_
  refine VL.eff (O.call0 ok43 rfl rfl (by decide) (indexf_c _ _ _ l hn hl h6) (fun _ ho _ => hro.only0 ho) ?_)
  intro x7 y7
  refine VL.q (Q.ge rfl rfl) ?_
  refine VL.q (Q.assign rfl) ?_
  refine VL.nil ?_
  refine VE.seq ?_
  refine VC.ret ?_
  refine VE.ret rfl (.tmp rfl .nil) () ?_ ?_ (List.nil_sublist _)
  · trivial
  · first | rfl | (exfalso; simp at *; omega)

theorem add_c (g : Nat) (p : Option Addr) (c : Nat) (s : List Part × Int) (k : Nat) (pb : Bool) (i : Nat) (a : Int) (he : 0 ≤ s.2 ∧ s.2 ≤ 4000000) (ha : 1 ≤ a ∧ a ≤ 32767) (hk : s.1.length ≤ 100) :
    Does Tryd.prog 44 [.pointer (some ⟨g, 0, none⟩), .int .u8 (k : Int), .bool pb, .int .i64 (i : Int), .int .i64 a] [.blk g [.slice p (s).1.length c, .int .i64 (s).2] 106, .row (.slice p (s).1.length c) 48 6 (s).1.length (pcs (s).1)] (fun _ => True) (X := Option Addr × Nat) (fun _ => True) (fun _ => .tuple #[]) (fun x => [.blk g [.slice x.1 (addP s k pb i a).1.length x.2, .int .i64 (addP s k pb i a).2] 106, .row (.slice x.1 (addP s k pb i a).1.length x.2) 48 6 (addP s k pb i a).1.length (pcs (addP s k pb i a).1)]) := by
  refine Does.enter Tryd.func44 rfl (m := 43) rfl (by simp) ?_
  intro W0 hro
  refine VC.seq ?_
  refine VC.region ?_
  refine VL.q (Q.move rfl) ?_
  refine VL.q (Q.nilCheck rfl) ?_
  refine VL.q (Q.fieldAddr fa106_1 rfl) ?_
  refine VL.q (Q.load1 ty3 rfl zM rfl) ?_
  refine VL.q ((by first | exact Q.addI rfl rfl (by omega) (by omega) | exact Q.add rfl rfl)) ?_
  refine VL.q (Q.assign rfl) ?_
  refine VL.nil ?_
  refine VE.seq ?_
  refine VC.seq ?_
  refine VC.seq ?_
  refine VC.region ?_
  refine VL.q (Q.move rfl) ?_
  refine VL.q (Q.nilCheck rfl) ?_
  refine VL.q (Q.fieldAddr fa106_0 rfl) ?_
  refine VL.q (Q.load1 ty39 rfl zM rfl) ?_
  refine VL.q (Q.len sl39 rfl) ?_
  refine VL.q (Q.eq rfl rfl) ?_
  refine VL.nil ?_
  refine VE.seq ?_
  refine VC.cond rfl ?_ ?_
  · intro h21
    have h0 : s.1.length = 0 := by simpa using h21
    refine VC.region ?_
    refine VL.q (Q.assign rfl) ?_
    refine VL.nil ?_
    refine VE.seq ?_
    refine VC.seq ?_
    refine VC.region ?_
    refine VL.q (Q.move rfl) ?_
    refine VL.q (Q.move rfl) ?_
    refine VL.q (Q.nilCheck rfl) ?_
    refine VL.q (Q.fieldAddr fa106_0 rfl) ?_
    refine VL.q (Q.load1 ty39 rfl zM rfl) ?_
    refine VL.q (Q.move rfl) ?_
    refine VL.q (Q.move rfl) ?_
    refine VL.q (Q.move rfl) ?_
    refine VL.q (Q.move rfl) ?_
    refine VL.q (Q.move rfl) ?_
    refine VL.q (Q.build lay48 zF) ?_
    refine VL.eff (O.buildSlice sl39 ze48 (by decide) zF (by decide) ?_)
    intro g33
    refine VL.eff (O.appendS sl39 ze48 rfl (by decide) rfl rfl zM zS rfl (by decide) (by unfold maxLen; omega) (by omega) zA ?_)
    intro p34 c34 hc34
    refine VL.q (Q.nilCheck rfl) ?_
    refine VL.q (Q.fieldAddr fa106_0 rfl) ?_
    refine VL.eff (O.store ty39 rfl rfl rfl rfl zU zP ?_)
    refine VL.nil ?_
    refine VE.seq ?_
    refine VC.region ?_
    refine VL.q (Q.move rfl) ?_
    refine VL.q (Q.move rfl) ?_
    refine VL.q (Q.move rfl) ?_
    refine VL.q ((by first | exact Q.addI rfl rfl (by omega) (by omega) | exact Q.add rfl rfl)) ?_
    refine VL.q (Q.nilCheck rfl) ?_
    refine VL.q (Q.fieldAddr fa106_1 rfl) ?_
    refine VL.eff (O.store ty3 rfl rfl rfl rfl zU zP ?_)
    refine VL.nil ?_
    rw [addP_length, addP_end0 h0, addP_row0 h0]
    exact VE.end rfl (.nil) (p34, c34) trivial rfl (.cons _ (List.Sublist.refl _))
  · intro h21
    have h0 : s.1.length ≠ 0 := by intro e; simp [e] at h21
    refine VC.skip ?_
    refine VE.seq ?_
    refine VC.seq ?_
    refine VC.region ?_
    refine VL.q (Q.move rfl) ?_
    refine VL.q (Q.move rfl) ?_
    refine VL.q (Q.nilCheck rfl) ?_
    refine VL.q (Q.fieldAddr fa106_0 rfl) ?_
    refine VL.q (Q.load1 ty39 rfl zM rfl) ?_
    refine VL.q (Q.move rfl) ?_
    refine VL.q (Q.move rfl) ?_
    refine VL.q (Q.move rfl) ?_
    refine VL.q (Q.move rfl) ?_
    refine VL.q (Q.move rfl) ?_
    refine VL.q (Q.build lay48 zF) ?_
    refine VL.eff (O.buildSlice sl39 ze48 (by decide) zF (by decide) ?_)
    intro g33_1
    refine VL.eff (O.appendS sl39 ze48 rfl (by decide) rfl rfl zM zS rfl (by decide) (by unfold maxLen; omega) (by omega) zA ?_)
    intro p34_1 c34_1 hc34_1
    refine VL.q (Q.nilCheck rfl) ?_
    refine VL.q (Q.fieldAddr fa106_0 rfl) ?_
    refine VL.eff (O.store ty39 rfl rfl rfl rfl zU zP ?_)
    refine VL.nil ?_
    refine VE.seq ?_
    refine VC.region ?_
    refine VL.q (Q.move rfl) ?_
    refine VL.q (Q.move rfl) ?_
    refine VL.q (Q.move rfl) ?_
    refine VL.q ((by first | exact Q.addI rfl rfl (by omega) (by omega) | exact Q.add rfl rfl)) ?_
    refine VL.q (Q.nilCheck rfl) ?_
    refine VL.q (Q.fieldAddr fa106_1 rfl) ?_
    refine VL.eff (O.store ty3 rfl rfl rfl rfl zU zP ?_)
    refine VL.nil ?_
    rw [addP_length, addP_end1 h0, addP_row1 h0]
    exact VE.end rfl (.nil) (p34_1, c34_1) trivial rfl (.cons _ (List.Sublist.refl _))

end Go.Proofs.YtencghlmckbmlaaDoor
