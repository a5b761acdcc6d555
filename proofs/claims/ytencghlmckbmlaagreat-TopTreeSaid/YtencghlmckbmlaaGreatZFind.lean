/- The contracts of searching in slices. Conditions: those that each bears. -/
import Derived.Test.YtencghlmckbmlaaGreatRows
import Derived.Test.YtencghlmckbmlaaGreatZSlice
namespace Go.Proofs.YtencghlmckbmlaaGreat
open Go Go.RowKit Go.Sx
set_option maxRecDepth 100000

theorem eg258 : Tryz.prog.eqGuardType Tryz.prog.depth 258 = false := by kernel_rfl
theorem fa151_5 : tyField Tryz.prog 151 5 = some 15 := by kernel_rfl
theorem flt258 : flat Tryz.prog 6 258 = some [.int .u8, .int .u8, .int .u8, .int .u8, .int .u8, .int .u8, .int .i64] := by kernel_rfl
theorem ok126 : okFunc Tryz.prog 126 = true := by kernel_rfl
theorem ok132 : okFunc Tryz.prog 132 = true := by kernel_rfl
theorem ok187 : okFunc Tryz.prog 187 = true := by kernel_rfl
theorem ok188 : okFunc Tryz.prog 188 = true := by kernel_rfl
theorem ok189 : okFunc Tryz.prog 189 = true := by kernel_rfl
theorem ok190 : okFunc Tryz.prog 190 = true := by kernel_rfl
theorem ty258 : tySz Tryz.prog 258 = some (true, 7) := by kernel_rfl

open Go.Mesh
theorem isrem_c (x : Nat × Nat) (gq : Nat) (q : Nat × Nat) :
  Does Tryz.prog 189 [.agg #[.int .u8 2, .int .u8 0, .int .u8 0, .int .u8 0, .int .u8 2, .int .u8 (x.1 : Int), .int .i64 (x.2 : Int)], .pointer (some ⟨gq, 0, none⟩)] [] (fun W => Rd W (some ⟨gq, 0, none⟩) (markC q)) (X := Unit) (fun _ => True) (fun _ => .bool (decide (x = q))) (fun _ => []) := by
 refine Does.enter Tryz.func189 rfl (m := 7) rfl (by simp) ?_
 intro W0 hro
 refine VC.seq ?_
 refine VC.region ?_
 refine VL.eff (O.box rfl rfl (by decide) ?_)
 intro g2
 refine VL.q (Q.assign rfl) ?_
 refine VL.nil ?_
 refine VE.seq ?_
 refine VC.seq ?_
 refine VC.region ?_
 refine VL.q (Q.loadA ty258 rfl zM zS) ?_
 refine VL.q (Q.load0A (xs := markC q) ty258 rfl (fun j u hj => Rd.at hro hj) (by simp)) ?_
 refine VL.quietE (v' := .bool (decide (x = q))) (by decide) (Q.eqS flt258 (by decide) ty258 eg258 rfl rfl rfl rfl) (congrArg Value.bool (mark_eq x q)) ?_
 refine VL.q (Q.assign rfl) ?_
 refine VL.nil ?_
 refine VE.seq ?_
 refine VC.ret ?_
 refine VE.ret rfl (.tmp rfl .nil) () ?_ ?_ (List.nil_sublist _)
 ·
  trivial
 ·
  first | rfl | (exfalso; simp at *; omega)

theorem issend_c (x : Nat × Nat) (gq : Nat) (q : Nat × Nat) :
  Does Tryz.prog 126 [.agg #[.int .u8 2, .int .u8 0, .int .u8 0, .int .u8 0, .int .u8 2, .int .u8 (x.1 : Int), .int .i64 (x.2 : Int)], .pointer (some ⟨gq, 0, none⟩)] [] (fun W => Rd W (some ⟨gq, 0, none⟩) (markC q)) (X := Unit) (fun _ => True) (fun _ => .bool (decide (x = q))) (fun _ => []) := by
 refine Does.enter Tryz.func126 rfl (m := 7) rfl (by simp) ?_
 intro W0 hro
 refine VC.seq ?_
 refine VC.region ?_
 refine VL.eff (O.box rfl rfl (by decide) ?_)
 intro g2
 refine VL.q (Q.assign rfl) ?_
 refine VL.nil ?_
 refine VE.seq ?_
 refine VC.seq ?_
 refine VC.region ?_
 refine VL.q (Q.loadA ty258 rfl zM zS) ?_
 refine VL.q (Q.load0A (xs := markC q) ty258 rfl (fun j u hj => Rd.at hro hj) (by simp)) ?_
 refine VL.quietE (v' := .bool (decide (x = q))) (by decide) (Q.eqS flt258 (by decide) ty258 eg258 rfl rfl rfl rfl) (congrArg Value.bool (mark_eq x q)) ?_
 refine VL.q (Q.assign rfl) ?_
 refine VL.nil ?_
 refine VE.seq ?_
 refine VC.ret ?_
 refine VE.ret rfl (.tmp rfl .nil) () ?_ ?_ (List.nil_sublist _)
 ·
  trivial
 ·
  first | rfl | (exfalso; simp at *; omega)

theorem isdest_c (x : Nat × Nat) (gq : Nat) (d : Nat) :
  Does Tryz.prog 187 [.agg #[.int .u8 2, .int .u8 0, .int .u8 0, .int .u8 0, .int .u8 2, .int .u8 (x.1 : Int), .int .u8 2, .int .u8 0, .int .u8 0, .int .u8 0, .int .u8 2, .int .u8 (x.2 : Int)], .pointer (some ⟨gq, 0, none⟩)] [] (fun W => Rd W (some ⟨gq, 0, none⟩) (nodeC d)) (X := Unit) (fun _ => True) (fun _ => .bool (decide (x.1 = d))) (fun _ => []) := by
 refine Does.enter Tryz.func187 rfl (m := 8) rfl (by simp) ?_
 intro W0 hro
 refine VC.seq ?_
 refine VC.region ?_
 refine VL.eff (O.box rfl rfl (by decide) ?_)
 intro g2
 refine VL.q (Q.assign rfl) ?_
 refine VL.nil ?_
 refine VE.seq ?_
 refine VC.seq ?_
 refine VC.region ?_
 refine VL.q (Q.fieldAddr fa252_0 rfl) ?_
 refine VL.q (Q.loadA ty44 rfl zM zS) ?_
 refine VL.q (Q.load0A (xs := nodeC d) ty44 rfl (fun j u hj => Rd.at hro hj) (by simp)) ?_
 refine VL.quietE (v' := .bool (decide (x.1 = d))) (by decide) (Q.eqS flt44 (by decide) ty44 eg44 rfl rfl rfl rfl) (congrArg Value.bool (node_eq x.1 d)) ?_
 refine VL.q (Q.assign rfl) ?_
 refine VL.nil ?_
 refine VE.seq ?_
 refine VC.ret ?_
 refine VE.ret rfl (.tmp rfl .nil) () ?_ ?_ (List.nil_sublist _)
 ·
  trivial
 ·
  first | rfl | (exfalso; simp at *; omega)

theorem isbest_c (x : Nat × TreeV) (gq : Nat) (gt : Bool) :
  Does Tryz.prog 132 [.agg #[.int .u8 2, .int .u8 0, .int .u8 0, .int .u8 0, .int .u8 2, .int .u8 (x.1 : Int), .int .u8 2, .int .u8 0, .int .u8 0, .int .u8 0, .int .u8 2, .int .u8 (x.2.parent : Int), .int .i64 (x.2.seq : Int), .int .i64 (x.2.hops : Int), .int .i64 (x.2.cost : Int), .bool (decide (x.1 = 0)), .int .i64 (x.2.till : Int)], .pointer (some ⟨gq, 0, none⟩)] [] (fun W => W.cell? ⟨gq, 0, none⟩ = some (.bool gt)) (X := Unit) (fun _ => True) (fun _ => .bool (gt && !decide (x.1 = 0))) (fun _ => []) := by
 refine Does.enter Tryz.func132 rfl (m := 10) rfl (by simp) ?_
 intro W0 hro
 refine VC.seq ?_
 refine VC.region ?_
 refine VL.eff (O.box rfl rfl (by decide) ?_)
 intro g2
 refine VL.q (Q.assign rfl) ?_
 refine VL.nil ?_
 refine VE.seq ?_
 refine VC.seq ?_
 refine VC.region ?_
 refine VL.q (Q.load0 ty4 rfl hro (by simp)) ?_
 refine VL.q (Q.move rfl) ?_
 refine VK.case 5 rfl ?_ ?_
 ·
  intro h5
  refine VL.yes rfl rfl ?_
  refine VL.q (Q.fieldAddr fa151_5 rfl) ?_
  refine VL.yes rfl rfl ?_
  refine VL.q (Q.load1 ty4 rfl zM rfl) ?_
  refine VL.yes rfl rfl ?_
  refine VL.q (Q.not rfl) ?_
  refine VL.q (Q.pick_true rfl rfl) ?_
  refine VL.q (Q.assign rfl) ?_
  refine VL.nil ?_
  refine VE.seq ?_
  refine VC.ret ?_
  refine VE.ret rfl (.tmp rfl .nil) () ?_ ?_ (List.nil_sublist _)
  ·
   trivial
  ·
   subst_vars; first | rfl | (cases gt <;> simp_all)
 ·
  intro h5
  refine VL.no (by simp) rfl rfl (.inl rfl) ?_
  refine VL.no (by simp) rfl rfl (.inl rfl) ?_
  refine VL.no (by simp) rfl rfl (.inl rfl) ?_
  refine VL.quietE (v' := .bool false) (by decide) (Q.pick_false rfl rfl) (by rfl) ?_
  refine VL.q (Q.assign rfl) ?_
  refine VL.nil ?_
  refine VE.seq ?_
  refine VC.ret ?_
  refine VE.ret rfl (.tmp rfl .nil) () ?_ ?_ (List.nil_sublist _)
  ·
   trivial
  ·
   subst_vars; first | rfl | (cases gt <;> simp_all)

theorem idx_isrem_c (p : Option Addr) (n c : Nat) (l : List (Nat × Nat)) (hl : l.length = n) (hn : n ≤ 1000) (gq : Nat) (q : Nat × Nat) :
  Does Tryz.prog 188 [.slice p n c, .func (.func 189) #[] #[.pointer (some ⟨gq, 0, none⟩)]] [] (fun W => Rd W p (l.flatMap markC) ∧ Rd W (some ⟨gq, 0, none⟩) (markC q)) (X := Int) (fun x => IXF l (fun m => decide (m = q)) x) (fun x => .int .i64 x) (fun _ => []) := by
 subst hl
 refine Does.enter Tryz.func188 rfl (m := 19) rfl (by simp) ?_
 intro W0 hro
 refine VC.seq ?_
 refine VC.region ?_
 refine VL.q (Q.assign rfl) ?_
 refine VL.nil ?_
 refine VE.seq ?_
 refine VC.seq ?_
 refine VC.seq ?_
 refine VC.region ?_
 refine VL.q (Q.move rfl) ?_
 refine VL.q (Q.len sl52 rfl) ?_
 refine VL.q (Q.move rfl) ?_
 refine VL.nil ?_
 refine VE.seq ?_
 refine VC.block ?_
 refine VC.loop (X := Nat) (fun k => [(0, .slice p l.length c), (1, .func (.func 189) #[] #[.pointer (some ⟨gq, 0, none⟩)]), (7, .int .i64 (l.length : Int)), (8, .int .i64 (k : Int))]) (fun k => []) (fun k => IXB l (fun m => decide (m = q)) k) (fun k => l.length - k) 0 IXB.zero ?_ ?_
 ·
  exact VS.mk zE (List.Sublist.refl _)
 ·
  intro k hk
  have hkl := hk.1
  refine VC.seq ?_
  refine VC.region ?_
  refine VL.q (Q.lt rfl rfl) ?_
  refine VL.nil ?_
  refine VE.seq ?_
  refine VC.seq ?_
  refine VC.cond rfl ?_ ?_
  ·
   intro h9
   have hlt : k < l.length := by have := of_decide_eq_true h9; omega
   obtain ⟨b0, o0, rfl⟩ := hro.1.pos (by rw [fm_length markC_len]; omega)
   refine VC.skip ?_
   refine VE.seq ?_
   refine VC.seq ?_
   refine VC.block ?_
   refine VC.seq ?_
   refine VC.region ?_
   refine VL.q (Q.move rfl) ?_
   refine VL.q (Q.assign rfl) ?_
   refine VL.nil ?_
   refine VE.seq ?_
   refine VC.seq ?_
   refine VC.region ?_
   refine VL.q (Q.move rfl) ?_
   refine VL.q (Q.move rfl) ?_
   refine VL.q (Q.move rfl) ?_
   refine VL.q (Q.indexAddr sl52 (j := k) rfl rfl rfl hlt) ?_
   refine VL.q (Q.load0A (xs := markC l[k]) ty258 rfl (Rd.sg hro.1 (fm_seg markC_len l k hlt)) (by simp)) ?_
   refine VL.eff (O.callV ok189 rfl rfl (by decide) (isrem_c l[k] gq q) (fun _ ho _ => hro.2.only0 ho) ?_)
   intro x16 y16
   refine VL.nil ?_
   refine VE.seq ?_
   refine VC.cond rfl ?_ ?_
   ·
    intro h16
    refine VC.seq ?_
    refine VC.region ?_
    refine VL.q (Q.move rfl) ?_
    refine VL.q (Q.assign rfl) ?_
    refine VL.nil ?_
    refine VE.seq ?_
    refine VC.ret ?_
    refine VE.block_ret ?_
    refine VE.then_ret ?_
    refine VE.then_ret ?_
    refine VE.block_ret ?_
    refine VE.then_ret ?_
    exact VE.ret rfl (.tmp rfl .nil) _ (hk.some hlt h16) rfl zB
   ·
    intro h16
    refine VC.skip ?_
    refine VE.block_normal ?_
    refine VE.seq ?_
    refine VC.region ?_
    refine VL.q ((by first | exact Q.addI rfl rfl (by omega) (by omega) | exact Q.add rfl rfl)) ?_
    refine VL.q (Q.move rfl) ?_
    refine VL.nil ?_
    refine VE.then_normal ?_
    exact VE.round (k + 1) (hk.next hlt h16) (by omega) zE (List.Sublist.refl _)
  ·
   intro h9
   have hlt : ¬ k < l.length := by have := of_decide_eq_false h9; omega
   refine VC.exit ?_
   refine VE.then_exit ?_
   refine VE.then_exit ?_
   refine VE.block_here ?_
   refine VE.seq ?_
   refine VC.seq ?_
   refine VC.region ?_
   refine VL.q (Q.assign rfl) ?_
   refine VL.nil ?_
   refine VE.seq ?_
   refine VC.ret ?_
   exact VE.ret rfl (.tmp rfl .nil) _ (hk.none hlt) rfl zB

theorem idx_issend_c (p : Option Addr) (n c : Nat) (l : List (Nat × Nat)) (hl : l.length = n) (hn : n ≤ 1000) (gq : Nat) (q : Nat × Nat) :
  Does Tryz.prog 188 [.slice p n c, .func (.func 126) #[] #[.pointer (some ⟨gq, 0, none⟩)]] [] (fun W => Rd W p (l.flatMap markC) ∧ Rd W (some ⟨gq, 0, none⟩) (markC q)) (X := Int) (fun x => IXF l (fun m => decide (m = q)) x) (fun x => .int .i64 x) (fun _ => []) := by
 subst hl
 refine Does.enter Tryz.func188 rfl (m := 19) rfl (by simp) ?_
 intro W0 hro
 refine VC.seq ?_
 refine VC.region ?_
 refine VL.q (Q.assign rfl) ?_
 refine VL.nil ?_
 refine VE.seq ?_
 refine VC.seq ?_
 refine VC.seq ?_
 refine VC.region ?_
 refine VL.q (Q.move rfl) ?_
 refine VL.q (Q.len sl52 rfl) ?_
 refine VL.q (Q.move rfl) ?_
 refine VL.nil ?_
 refine VE.seq ?_
 refine VC.block ?_
 refine VC.loop (X := Nat) (fun k => [(0, .slice p l.length c), (1, .func (.func 126) #[] #[.pointer (some ⟨gq, 0, none⟩)]), (7, .int .i64 (l.length : Int)), (8, .int .i64 (k : Int))]) (fun k => []) (fun k => IXB l (fun m => decide (m = q)) k) (fun k => l.length - k) 0 IXB.zero ?_ ?_
 ·
  exact VS.mk zE (List.Sublist.refl _)
 ·
  intro k hk
  have hkl := hk.1
  refine VC.seq ?_
  refine VC.region ?_
  refine VL.q (Q.lt rfl rfl) ?_
  refine VL.nil ?_
  refine VE.seq ?_
  refine VC.seq ?_
  refine VC.cond rfl ?_ ?_
  ·
   intro h9
   have hlt : k < l.length := by have := of_decide_eq_true h9; omega
   obtain ⟨b0, o0, rfl⟩ := hro.1.pos (by rw [fm_length markC_len]; omega)
   refine VC.skip ?_
   refine VE.seq ?_
   refine VC.seq ?_
   refine VC.block ?_
   refine VC.seq ?_
   refine VC.region ?_
   refine VL.q (Q.move rfl) ?_
   refine VL.q (Q.assign rfl) ?_
   refine VL.nil ?_
   refine VE.seq ?_
   refine VC.seq ?_
   refine VC.region ?_
   refine VL.q (Q.move rfl) ?_
   refine VL.q (Q.move rfl) ?_
   refine VL.q (Q.move rfl) ?_
   refine VL.q (Q.indexAddr sl52 (j := k) rfl rfl rfl hlt) ?_
   refine VL.q (Q.load0A (xs := markC l[k]) ty258 rfl (Rd.sg hro.1 (fm_seg markC_len l k hlt)) (by simp)) ?_
   refine VL.eff (O.callV ok126 rfl rfl (by decide) (issend_c l[k] gq q) (fun _ ho _ => hro.2.only0 ho) ?_)
   intro x16 y16
   refine VL.nil ?_
   refine VE.seq ?_
   refine VC.cond rfl ?_ ?_
   ·
    intro h16
    refine VC.seq ?_
    refine VC.region ?_
    refine VL.q (Q.move rfl) ?_
    refine VL.q (Q.assign rfl) ?_
    refine VL.nil ?_
    refine VE.seq ?_
    refine VC.ret ?_
    refine VE.block_ret ?_
    refine VE.then_ret ?_
    refine VE.then_ret ?_
    refine VE.block_ret ?_
    refine VE.then_ret ?_
    exact VE.ret rfl (.tmp rfl .nil) _ (hk.some hlt h16) rfl zB
   ·
    intro h16
    refine VC.skip ?_
    refine VE.block_normal ?_
    refine VE.seq ?_
    refine VC.region ?_
    refine VL.q ((by first | exact Q.addI rfl rfl (by omega) (by omega) | exact Q.add rfl rfl)) ?_
    refine VL.q (Q.move rfl) ?_
    refine VL.nil ?_
    refine VE.then_normal ?_
    exact VE.round (k + 1) (hk.next hlt h16) (by omega) zE (List.Sublist.refl _)
  ·
   intro h9
   have hlt : ¬ k < l.length := by have := of_decide_eq_false h9; omega
   refine VC.exit ?_
   refine VE.then_exit ?_
   refine VE.then_exit ?_
   refine VE.block_here ?_
   refine VE.seq ?_
   refine VC.seq ?_
   refine VC.region ?_
   refine VL.q (Q.assign rfl) ?_
   refine VL.nil ?_
   refine VE.seq ?_
   refine VC.ret ?_
   exact VE.ret rfl (.tmp rfl .nil) _ (hk.none hlt) rfl zB

theorem idx_isdest_c (p : Option Addr) (n c : Nat) (l : List (Nat × Nat)) (hl : l.length = n) (hn : n ≤ 1000) (gq : Nat) (d : Nat) :
  Does Tryz.prog 186 [.slice p n c, .func (.func 187) #[] #[.pointer (some ⟨gq, 0, none⟩)]] [] (fun W => Rd W p (l.flatMap hopC) ∧ Rd W (some ⟨gq, 0, none⟩) (nodeC d)) (X := Int) (fun x => IXF l (fun m => decide (m.1 = d)) x) (fun x => .int .i64 x) (fun _ => []) := by
 subst hl
 refine Does.enter Tryz.func186 rfl (m := 19) rfl (by simp) ?_
 intro W0 hro
 refine VC.seq ?_
 refine VC.region ?_
 refine VL.q (Q.assign rfl) ?_
 refine VL.nil ?_
 refine VE.seq ?_
 refine VC.seq ?_
 refine VC.seq ?_
 refine VC.region ?_
 refine VL.q (Q.move rfl) ?_
 refine VL.q (Q.len sl53 rfl) ?_
 refine VL.q (Q.move rfl) ?_
 refine VL.nil ?_
 refine VE.seq ?_
 refine VC.block ?_
 refine VC.loop (X := Nat) (fun k => [(0, .slice p l.length c), (1, .func (.func 187) #[] #[.pointer (some ⟨gq, 0, none⟩)]), (7, .int .i64 (l.length : Int)), (8, .int .i64 (k : Int))]) (fun k => []) (fun k => IXB l (fun m => decide (m.1 = d)) k) (fun k => l.length - k) 0 IXB.zero ?_ ?_
 ·
  exact VS.mk zE (List.Sublist.refl _)
 ·
  intro k hk
  have hkl := hk.1
  refine VC.seq ?_
  refine VC.region ?_
  refine VL.q (Q.lt rfl rfl) ?_
  refine VL.nil ?_
  refine VE.seq ?_
  refine VC.seq ?_
  refine VC.cond rfl ?_ ?_
  ·
   intro h9
   have hlt : k < l.length := by have := of_decide_eq_true h9; omega
   obtain ⟨b0, o0, rfl⟩ := hro.1.pos (by rw [fm_length hopC_len]; omega)
   refine VC.skip ?_
   refine VE.seq ?_
   refine VC.seq ?_
   refine VC.block ?_
   refine VC.seq ?_
   refine VC.region ?_
   refine VL.q (Q.move rfl) ?_
   refine VL.q (Q.assign rfl) ?_
   refine VL.nil ?_
   refine VE.seq ?_
   refine VC.seq ?_
   refine VC.region ?_
   refine VL.q (Q.move rfl) ?_
   refine VL.q (Q.move rfl) ?_
   refine VL.q (Q.move rfl) ?_
   refine VL.q (Q.indexAddr sl53 (j := k) rfl rfl rfl hlt) ?_
   refine VL.q (Q.load0A (xs := hopC l[k]) ty252 rfl (Rd.sg hro.1 (fm_seg hopC_len l k hlt)) (by simp)) ?_
   refine VL.eff (O.callV ok187 rfl rfl (by decide) (isdest_c l[k] gq d) (fun _ ho _ => hro.2.only0 ho) ?_)
   intro x16 y16
   refine VL.nil ?_
   refine VE.seq ?_
   refine VC.cond rfl ?_ ?_
   ·
    intro h16
    refine VC.seq ?_
    refine VC.region ?_
    refine VL.q (Q.move rfl) ?_
    refine VL.q (Q.assign rfl) ?_
    refine VL.nil ?_
    refine VE.seq ?_
    refine VC.ret ?_
    refine VE.block_ret ?_
    refine VE.then_ret ?_
    refine VE.then_ret ?_
    refine VE.block_ret ?_
    refine VE.then_ret ?_
    exact VE.ret rfl (.tmp rfl .nil) _ (hk.some hlt h16) rfl zB
   ·
    intro h16
    refine VC.skip ?_
    refine VE.block_normal ?_
    refine VE.seq ?_
    refine VC.region ?_
    refine VL.q ((by first | exact Q.addI rfl rfl (by omega) (by omega) | exact Q.add rfl rfl)) ?_
    refine VL.q (Q.move rfl) ?_
    refine VL.nil ?_
    refine VE.then_normal ?_
    exact VE.round (k + 1) (hk.next hlt h16) (by omega) zE (List.Sublist.refl _)
  ·
   intro h9
   have hlt : ¬ k < l.length := by have := of_decide_eq_false h9; omega
   refine VC.exit ?_
   refine VE.then_exit ?_
   refine VE.then_exit ?_
   refine VE.block_here ?_
   refine VE.seq ?_
   refine VC.seq ?_
   refine VC.region ?_
   refine VL.q (Q.assign rfl) ?_
   refine VL.nil ?_
   refine VE.seq ?_
   refine VC.ret ?_
   exact VE.ret rfl (.tmp rfl .nil) _ (hk.none hlt) rfl zB

theorem idx_isbest_c (p : Option Addr) (n c : Nat) (l : List (Nat × TreeV)) (hl : l.length = n) (hn : n ≤ 1000) (gq : Nat) (gt : Bool) :
  Does Tryz.prog 191 [.slice p n c, .func (.func 132) #[] #[.pointer (some ⟨gq, 0, none⟩)]] [] (fun W => Rd W p (l.flatMap treeC) ∧ W.cell? ⟨gq, 0, none⟩ = some (.bool gt)) (X := Int) (fun x => IXF l (fun m => gt && !decide (m.1 = 0)) x) (fun x => .int .i64 x) (fun _ => []) := by
 subst hl
 refine Does.enter Tryz.func191 rfl (m := 19) rfl (by simp) ?_
 intro W0 hro
 refine VC.seq ?_
 refine VC.region ?_
 refine VL.q (Q.assign rfl) ?_
 refine VL.nil ?_
 refine VE.seq ?_
 refine VC.seq ?_
 refine VC.seq ?_
 refine VC.region ?_
 refine VL.q (Q.move rfl) ?_
 refine VL.q (Q.len sl47 rfl) ?_
 refine VL.q (Q.move rfl) ?_
 refine VL.nil ?_
 refine VE.seq ?_
 refine VC.block ?_
 refine VC.loop (X := Nat) (fun k => [(0, .slice p l.length c), (1, .func (.func 132) #[] #[.pointer (some ⟨gq, 0, none⟩)]), (7, .int .i64 (l.length : Int)), (8, .int .i64 (k : Int))]) (fun k => []) (fun k => IXB l (fun m => gt && !decide (m.1 = 0)) k) (fun k => l.length - k) 0 IXB.zero ?_ ?_
 ·
  exact VS.mk zE (List.Sublist.refl _)
 ·
  intro k hk
  have hkl := hk.1
  refine VC.seq ?_
  refine VC.region ?_
  refine VL.q (Q.lt rfl rfl) ?_
  refine VL.nil ?_
  refine VE.seq ?_
  refine VC.seq ?_
  refine VC.cond rfl ?_ ?_
  ·
   intro h9
   have hlt : k < l.length := by have := of_decide_eq_true h9; omega
   obtain ⟨b0, o0, rfl⟩ := hro.1.pos (by rw [fm_length treeC_len]; omega)
   refine VC.skip ?_
   refine VE.seq ?_
   refine VC.seq ?_
   refine VC.block ?_
   refine VC.seq ?_
   refine VC.region ?_
   refine VL.q (Q.move rfl) ?_
   refine VL.q (Q.assign rfl) ?_
   refine VL.nil ?_
   refine VE.seq ?_
   refine VC.seq ?_
   refine VC.region ?_
   refine VL.q (Q.move rfl) ?_
   refine VL.q (Q.move rfl) ?_
   refine VL.q (Q.move rfl) ?_
   refine VL.q (Q.indexAddr sl47 (j := k) rfl rfl rfl hlt) ?_
   refine VL.q (Q.load0A (xs := treeC l[k]) ty151 rfl (Rd.sg hro.1 (fm_seg treeC_len l k hlt)) (by simp)) ?_
   refine VL.eff (O.callV ok132 rfl rfl (by decide) (isbest_c l[k] gq gt) (fun _ ho _ => only_cell ho hro.2 (by simp)) ?_)
   intro x16 y16
   refine VL.nil ?_
   refine VE.seq ?_
   refine VC.cond rfl ?_ ?_
   ·
    intro h16
    refine VC.seq ?_
    refine VC.region ?_
    refine VL.q (Q.move rfl) ?_
    refine VL.q (Q.assign rfl) ?_
    refine VL.nil ?_
    refine VE.seq ?_
    refine VC.ret ?_
    refine VE.block_ret ?_
    refine VE.then_ret ?_
    refine VE.then_ret ?_
    refine VE.block_ret ?_
    refine VE.then_ret ?_
    exact VE.ret rfl (.tmp rfl .nil) _ (hk.some hlt h16) rfl zB
   ·
    intro h16
    refine VC.skip ?_
    refine VE.block_normal ?_
    refine VE.seq ?_
    refine VC.region ?_
    refine VL.q ((by first | exact Q.addI rfl rfl (by omega) (by omega) | exact Q.add rfl rfl)) ?_
    refine VL.q (Q.move rfl) ?_
    refine VL.nil ?_
    refine VE.then_normal ?_
    exact VE.round (k + 1) (hk.next hlt h16) (by omega) zE (List.Sublist.refl _)
  ·
   intro h9
   have hlt : ¬ k < l.length := by have := of_decide_eq_false h9; omega
   refine VC.exit ?_
   refine VE.then_exit ?_
   refine VE.then_exit ?_
   refine VE.block_here ?_
   refine VE.seq ?_
   refine VC.seq ?_
   refine VC.region ?_
   refine VL.q (Q.assign rfl) ?_
   refine VL.nil ?_
   refine VE.seq ?_
   refine VC.ret ?_
   exact VE.ret rfl (.tmp rfl .nil) _ (hk.none hlt) rfl zB

theorem del_isrem_c (p : Option Addr) (n c : Nat) (l : List (Nat × Nat)) (hl : l.length = n) (hn : n ≤ 1000) (gq : Nat) (q : Nat × Nat) (hq : q ∉ l) :
  Does Tryz.prog 124 [.slice p n c, .func (.func 189) #[] #[.pointer (some ⟨gq, 0, none⟩)]] [] (fun W => Rd W p (l.flatMap markC) ∧ Rd W (some ⟨gq, 0, none⟩) (markC q)) (X := Unit) (fun _ => True) (fun _ => .slice p n c) (fun _ => []) := by
 refine Does.enter Tryz.func124 rfl (m := 42) rfl (by simp) ?_
 intro W0 hro
 refine VC.seq ?_
 refine VC.region ?_
 refine VL.q (Q.assign rfl) ?_
 refine VL.nil ?_
 refine VE.seq ?_
 refine VC.seq ?_
 refine VC.region ?_
 refine VL.q (Q.move rfl) ?_
 refine VL.q (Q.move rfl) ?_
 refine VL.eff (O.call0 ok188 rfl rfl (by decide) (idx_isrem_c p n c l hl hn gq q) (fun _ ho _ => ⟨hro.1.only0 ho, hro.2.only0 ho⟩) ?_)
 intro x10 y10
 have hm1 := IXF.no y10 (fun z hz => decide_eq_false (fun e => hq (e ▸ hz)))
 subst hm1
 refine VL.q (Q.assign rfl) ?_
 refine VL.nil ?_
 refine VE.seq ?_
 refine VC.seq ?_
 refine VC.seq ?_
 refine VC.region ?_
 refine VL.q (Q.move rfl) ?_
 refine VL.quietE (v' := .bool true) (by decide) (Q.eq rfl rfl) (by rfl) ?_
 refine VL.nil ?_
 refine VE.seq ?_
 refine VC.condT rfl ?_
 refine VC.seq ?_
 refine VC.region ?_
 refine VL.q (Q.move rfl) ?_
 refine VL.q (Q.assign rfl) ?_
 refine VL.nil ?_
 refine VE.seq ?_
 refine VC.ret ?_
 refine VE.then_ret ?_
 refine VE.ret rfl (.tmp rfl .nil) () ?_ ?_ (List.nil_sublist _)
 ·
  trivial
 ·
  first | rfl | (exfalso; simp at *; omega)

theorem del_issend_c (p : Option Addr) (n c : Nat) (l : List (Nat × Nat)) (hl : l.length = n) (hn : n ≤ 1000) (gq : Nat) (q : Nat × Nat) (hq : q ∉ l) :
  Does Tryz.prog 124 [.slice p n c, .func (.func 126) #[] #[.pointer (some ⟨gq, 0, none⟩)]] [] (fun W => Rd W p (l.flatMap markC) ∧ Rd W (some ⟨gq, 0, none⟩) (markC q)) (X := Unit) (fun _ => True) (fun _ => .slice p n c) (fun _ => []) := by
 refine Does.enter Tryz.func124 rfl (m := 42) rfl (by simp) ?_
 intro W0 hro
 refine VC.seq ?_
 refine VC.region ?_
 refine VL.q (Q.assign rfl) ?_
 refine VL.nil ?_
 refine VE.seq ?_
 refine VC.seq ?_
 refine VC.region ?_
 refine VL.q (Q.move rfl) ?_
 refine VL.q (Q.move rfl) ?_
 refine VL.eff (O.call0 ok188 rfl rfl (by decide) (idx_issend_c p n c l hl hn gq q) (fun _ ho _ => ⟨hro.1.only0 ho, hro.2.only0 ho⟩) ?_)
 intro x10 y10
 have hm1 := IXF.no y10 (fun z hz => decide_eq_false (fun e => hq (e ▸ hz)))
 subst hm1
 refine VL.q (Q.assign rfl) ?_
 refine VL.nil ?_
 refine VE.seq ?_
 refine VC.seq ?_
 refine VC.seq ?_
 refine VC.region ?_
 refine VL.q (Q.move rfl) ?_
 refine VL.quietE (v' := .bool true) (by decide) (Q.eq rfl rfl) (by rfl) ?_
 refine VL.nil ?_
 refine VE.seq ?_
 refine VC.condT rfl ?_
 refine VC.seq ?_
 refine VC.region ?_
 refine VL.q (Q.move rfl) ?_
 refine VL.q (Q.assign rfl) ?_
 refine VL.nil ?_
 refine VE.seq ?_
 refine VC.ret ?_
 refine VE.then_ret ?_
 refine VE.ret rfl (.tmp rfl .nil) () ?_ ?_ (List.nil_sublist _)
 ·
  trivial
 ·
  first | rfl | (exfalso; simp at *; omega)

theorem index_c (p : Option Addr) (n c : Nat) (l : List (Nat × Nat)) (hl : l.length = n) (hn : n ≤ 1000) (q : Nat × Nat) :
  Does Tryz.prog 190 [.slice p n c, .agg #[.int .u8 2, .int .u8 0, .int .u8 0, .int .u8 0, .int .u8 2, .int .u8 (q.1 : Int), .int .i64 (q.2 : Int)]] [] (fun W => Rd W p (l.flatMap markC)) (X := Int) (fun x => IXF l (fun m => decide (q = m)) x) (fun x => .int .i64 x) (fun _ => []) := by
 subst hl
 refine Does.enter Tryz.func190 rfl (m := 19) rfl (by simp) ?_
 intro W0 hro
 refine VC.seq ?_
 refine VC.region ?_
 refine VL.eff (O.box rfl rfl (by decide) ?_)
 intro g3
 refine VL.q (Q.assign rfl) ?_
 refine VL.nil ?_
 refine VE.seq ?_
 refine VC.seq ?_
 refine VC.seq ?_
 refine VC.region ?_
 refine VL.q (Q.move rfl) ?_
 refine VL.q (Q.len sl52 rfl) ?_
 refine VL.q (Q.move rfl) ?_
 refine VL.nil ?_
 refine VE.seq ?_
 refine VC.block ?_
 refine VC.loop (X := Nat) (fun k => [(0, .slice p l.length c), (3, .pointer (some ⟨g3, 0, none⟩)), (7, .int .i64 (l.length : Int)), (8, .int .i64 (k : Int))]) (fun k => [.blk g3 [.int .u8 2, .int .u8 0, .int .u8 0, .int .u8 0, .int .u8 2, .int .u8 (q.1 : Int), .int .i64 (q.2 : Int)] 258]) (fun k => IXB l (fun m => decide (q = m)) k) (fun k => l.length - k) 0 IXB.zero ?_ ?_
 ·
  exact VS.mk zE (List.Sublist.refl _)
 ·
  intro k hk
  have hkl := hk.1
  refine VC.seq ?_
  refine VC.region ?_
  refine VL.q (Q.lt rfl rfl) ?_
  refine VL.nil ?_
  refine VE.seq ?_
  refine VC.seq ?_
  refine VC.cond rfl ?_ ?_
  ·
   intro h9
   have hlt : k < l.length := by have := of_decide_eq_true h9; omega
   obtain ⟨b0, o0, rfl⟩ := hro.pos (by rw [fm_length markC_len]; omega)
   refine VC.skip ?_
   refine VE.seq ?_
   refine VC.seq ?_
   refine VC.block ?_
   refine VC.seq ?_
   refine VC.region ?_
   refine VL.q (Q.move rfl) ?_
   refine VL.q (Q.assign rfl) ?_
   refine VL.nil ?_
   refine VE.seq ?_
   refine VC.seq ?_
   refine VA.start (Ls := [.blk g3 [.int .u8 2, .int .u8 0, .int .u8 0, .int .u8 0, .int .u8 2, .int .u8 (q.1 : Int), .int .i64 (q.2 : Int)] 258]) (Cs := []) mixed ?_
   refine VA.tk 0 rfl (Still.then (Still.block (Still.then (Still.then (Still.block (Still.then Still.body)))))) (List.singleton_sublist.2 zM) Cells.nil (Quiet.c (Q.loadA ty258 rfl zM zS)) ?_
   refine VA.tk 1 rfl (Still.then (Still.block (Still.then (Still.then (Still.block (Still.then Still.body)))))) (List.singleton_sublist.2 zM) Cells.nil (Quiet.c (Q.move rfl)) ?_
   refine VA.tk 2 rfl (Still.then (Still.block (Still.then (Still.then (Still.block (Still.then Still.body)))))) (List.singleton_sublist.2 zM) Cells.nil (Quiet.c (Q.move rfl)) ?_
   refine VA.tk 3 rfl (Still.then (Still.block (Still.then (Still.then (Still.block (Still.then Still.body)))))) (List.singleton_sublist.2 zM) Cells.nil (Quiet.c (Q.indexAddr sl52 (j := k) rfl rfl rfl hlt)) ?_
   refine VA.tk 4 rfl (Still.then (Still.block (Still.then (Still.then (Still.block (Still.then Still.body)))))) (List.singleton_sublist.2 zM) Cells.nil (Quiet.c (Q.load0A (xs := markC l[k]) ty258 rfl (Rd.sg hro (fm_seg markC_len l k hlt)) (by simp))) ?_
   refine VA.tk 5 rfl (Still.then (Still.block (Still.then (Still.then (Still.block (Still.then Still.body)))))) (List.singleton_sublist.2 zM) Cells.nil (Quiet.c (Q.eqS flt258 (by decide) ty258 eg258 rfl rfl rfl rfl)) ?_
   refine VA.done (by kernel_rfl) ?_
   refine VE.seq ?_
   refine VC.cond rfl ?_ ?_
   ·
    intro h16
    have h16 : decide (q = l[k]) = true := (mark_eq q l[k]).symm.trans h16
    refine VC.seq ?_
    refine VC.region ?_
    refine VL.q (Q.move rfl) ?_
    refine VL.q (Q.assign rfl) ?_
    refine VL.nil ?_
    refine VE.seq ?_
    refine VC.ret ?_
    refine VE.block_ret ?_
    refine VE.then_ret ?_
    refine VE.then_ret ?_
    refine VE.block_ret ?_
    refine VE.then_ret ?_
    exact VE.ret rfl (.tmp rfl .nil) _ (hk.some hlt h16) rfl zB
   ·
    intro h16
    have h16 : decide (q = l[k]) = false := (mark_eq q l[k]).symm.trans h16
    refine VC.skip ?_
    refine VE.block_normal ?_
    refine VE.seq ?_
    refine VC.region ?_
    refine VL.q ((by first | exact Q.addI rfl rfl (by omega) (by omega) | exact Q.add rfl rfl)) ?_
    refine VL.q (Q.move rfl) ?_
    refine VL.nil ?_
    refine VE.then_normal ?_
    exact VE.round (k + 1) (hk.next hlt h16) (by omega) zE (List.Sublist.refl _)
  ·
   intro h9
   have hlt : ¬ k < l.length := by have := of_decide_eq_false h9; omega
   refine VC.exit ?_
   refine VE.then_exit ?_
   refine VE.then_exit ?_
   refine VE.block_here ?_
   refine VE.seq ?_
   refine VC.seq ?_
   refine VC.region ?_
   refine VL.q (Q.assign rfl) ?_
   refine VL.nil ?_
   refine VE.seq ?_
   refine VC.ret ?_
   exact VE.ret rfl (.tmp rfl .nil) _ (hk.none hlt) rfl zB

theorem contains_c (p : Option Addr) (n c : Nat) (l : List (Nat × Nat)) (hl : l.length = n) (hn : n ≤ 1000) (q : Nat × Nat) :
  Does Tryz.prog 129 [.slice p n c, .agg #[.int .u8 2, .int .u8 0, .int .u8 0, .int .u8 0, .int .u8 2, .int .u8 (q.1 : Int), .int .i64 (q.2 : Int)]] [] (fun W => Rd W p (l.flatMap markC)) (X := Bool) (fun x => x = true ↔ q ∈ l) (fun x => .bool x) (fun _ => []) := by
 refine Does.enter Tryz.func129 rfl (m := 9) rfl (by simp) ?_
 intro W0 hro
 refine VC.seq ?_
 refine VC.region ?_
 refine VL.eff (O.box rfl rfl (by decide) ?_)
 intro g3
 refine VL.q (Q.assign rfl) ?_
 refine VL.nil ?_
 refine VE.seq ?_
 refine VC.seq ?_
 refine VC.region ?_
 refine VL.q (Q.move rfl) ?_
 refine VL.q (Q.loadA ty258 rfl zM zS) ?_
 refine VL.eff (O.call0 ok190 rfl rfl (by decide) (index_c p n c l hl hn q) (fun _ ho _ => hro.only0 ho) ?_)
 intro x7 y7
 refine VL.q (Q.ge rfl rfl) ?_
 refine VL.q (Q.assign rfl) ?_
 refine VL.nil ?_
 refine VE.seq ?_
 refine VC.ret ?_
 exact VE.ret rfl (.tmp rfl .nil) _ (ixf_mem y7) rfl zB

end Go.Proofs.YtencghlmckbmlaaGreat
