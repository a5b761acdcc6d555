/- Small contracts on the addresses of the nodes. Conditions: those that each bears. -/
import Derived.Test.YtencghlmckbmlaaGreatRows
import Derived.Test.YtencghlmckbmlaaGreatZHead3
namespace Go.Proofs.YtencghlmckbmlaaGreat
open Go Go.RowKit Go.Sx
set_option maxRecDepth 100000

theorem eg44 : Tryz.prog.eqGuardType Tryz.prog.depth 44 = false := by kernel_rfl
theorem flt44 : flat Tryz.prog 6 44 = some [.int .u8, .int .u8, .int .u8, .int .u8, .int .u8, .int .u8] := by kernel_rfl
theorem ok35 : okFunc Tryz.prog 35 = true := by kernel_rfl
theorem zo44 : tyZero Tryz.prog 44 = some [.int .u8 0, .int .u8 0, .int .u8 0, .int .u8 0, .int .u8 0, .int .u8 0] := by kernel_rfl

theorem nodeOf_c (i : Nat) (hi : i ≤ 255) :
  Does Tryz.prog 35 [.int .i64 (i : Int)] [] (fun _ => True) (X := Unit) (fun _ => True) (fun _ => .agg #[.int .u8 2, .int .u8 0, .int .u8 0, .int .u8 0, .int .u8 2, .int .u8 (i : Int)]) (fun _ => []) := by
 refine Does.enter Tryz.func35 rfl (m := 6) rfl (by simp) ?_
 intro W0 hro
 refine VC.seq ?_
 refine VC.region ?_
 refine VL.eff (O.alloc zo44 (by decide) ?_)
 intro g2
 refine VL.nil ?_
 refine VE.seq ?_
 refine VC.seq ?_
 refine VC.region ?_
 refine VL.q (Q.move rfl) ?_
 refine VL.q ((by first | exact Q.convF ti3 ti5 rfl (by simp only [klo]; omega) (by simp only [khi]; omega) | exact Q.convM (M := 256) ti3 ti5 rfl rfl rfl | exact Q.conv ti3 ti5 rfl)) ?_
 refine VL.q (Q.build lay44 zF) ?_
 refine VL.eff (O.store ty44 rfl rfl rfl rfl zU zP ?_)
 refine VL.nil ?_
 refine VE.seq ?_
 refine VC.ret ?_
 refine VE.ret rfl (.cell ty44 rfl zM rfl .nil) () ?_ ?_ (List.nil_sublist _)
 ·
  trivial
 ·
  first | rfl | (exfalso; simp at *; omega)

theorem fgroup_c (i : Nat) :
  Does Tryz.prog 99 [.agg #[.int .u8 2, .int .u8 0, .int .u8 0, .int .u8 0, .int .u8 2, .int .u8 (i : Int)]] [] (fun _ => True) (X := Unit) (fun _ => True) (fun _ => .bool false) (fun _ => []) := by
 refine Does.enter Tryz.func99 rfl (m := 7) rfl (by simp) ?_
 intro W0 hro
 refine VC.seq ?_
 refine VC.region ?_
 refine VL.eff (O.box rfl rfl (by decide) ?_)
 intro g1
 refine VL.q (Q.assign rfl) ?_
 refine VL.nil ?_
 refine VE.seq ?_
 refine VC.seq ?_
 refine VC.region ?_
 refine VL.q (Q.indexAddrA ar44 (j := 0) rfl rfl rfl (by omega)) ?_
 refine VL.q (Q.load1 ty5 rfl zM rfl) ?_
 refine VL.quietE (v' := .int .u8 0) (by decide) (Q.and rfl rfl (by omega) (by simp only [khi]; omega) (by omega) (by simp only [khi]; omega)) (by rfl) ?_
 refine VL.quietE (v' := .bool false) (by decide) (Q.eq rfl rfl) (by rfl) ?_
 refine VL.q (Q.assign rfl) ?_
 refine VL.nil ?_
 refine VE.seq ?_
 refine VC.ret ?_
 refine VE.ret rfl (.tmp rfl .nil) () ?_ ?_ (List.nil_sublist _)
 ·
  trivial
 ·
  first | rfl | (exfalso; simp at *; omega)

theorem vaneNode_c (v : Nat) (hv : v < 6) :
  Does Tryz.prog 43 [.agg #[.int .u8 2, .int .u8 0, .int .u8 0, .int .u8 0, .int .u8 2, .int .u8 (v : Int)]] [] (fun _ => True) (X := Unit) (fun _ => True) (fun _ => .int .i64 (v : Int)) (fun _ => []) := by
 refine Does.enter Tryz.func43 rfl (m := 13) rfl (by simp) ?_
 intro W0 hro
 refine VC.seq ?_
 refine VC.region ?_
 refine VL.eff (O.box rfl rfl (by decide) ?_)
 intro g1
 refine VL.q (Q.assign rfl) ?_
 refine VL.nil ?_
 refine VE.seq ?_
 refine VC.seq ?_
 refine VC.seq ?_
 refine VC.region ?_
 refine VL.q (Q.assign rfl) ?_
 refine VL.nil ?_
 refine VE.seq ?_
 refine VC.block ?_
 refine VC.loop (X := Nat) (fun i => [(1, .pointer (some ⟨g1, 0, none⟩)), (3, .int .i64 (i : Int))]) (fun i => [.blk g1 [.int .u8 2, .int .u8 0, .int .u8 0, .int .u8 0, .int .u8 2, .int .u8 (v : Int)] 44]) (fun i => i ≤ v) (fun i => 6 - i) 0 (Nat.zero_le _) ?_ ?_
 ·
  exact VS.mk zE (List.Sublist.refl _)
 ·
  intro i hi
  refine VC.seq ?_
  refine VC.seq ?_
  refine VC.region ?_
  refine VL.q (Q.move rfl) ?_
  refine VL.q (Q.lt rfl rfl) ?_
  refine VL.nil ?_
  refine VE.seq ?_
  refine VC.cond rfl ?_ ?_
  ·
   intro h5
   refine VC.skip ?_
   refine VE.seq ?_
   refine VC.seq ?_
   refine VC.block ?_
   refine VC.seq ?_
   refine VA.start (Ls := [.blk g1 [.int .u8 2, .int .u8 0, .int .u8 0, .int .u8 0, .int .u8 2, .int .u8 (v : Int)] 44]) (Cs := []) mixed ?_
   refine VA.take 0 rfl (by kernel_rfl) (by kernel_rfl) (by kernel_rfl) (Still.then (Still.block (Still.then (Still.then (Still.block (Still.then Still.body)))))) (List.singleton_sublist.2 zM) Cells.nil (by decide) (Quiet.c (Q.loadA ty44 rfl zM zS)) ?_
   refine VA.take 1 rfl (by kernel_rfl) (by kernel_rfl) (by kernel_rfl) (Still.then (Still.block (Still.then (Still.then (Still.block (Still.then Still.body)))))) (List.singleton_sublist.2 zM) Cells.nil (by decide) (Quiet.c (Q.move rfl)) ?_
   refine VA.all (rs := [2]) (by kernel_rfl) (by simp) ?_
   refine VA.forall1 ?_
   ·
    refine VA.eff rfl ?_
    refine id (O.call0 ok35 rfl rfl (by decide) (nodeOf_c i (by omega)) (fun _ _ _ => trivial) ?_)
    intro x10 y10
    refine VA.next (List.singleton_sublist.2 zM) Cells.nil ?_
    refine VA.take 3 rfl (by kernel_rfl) (by kernel_rfl) (by kernel_rfl) (Still.then (Still.block (Still.then (Still.then (Still.block (Still.then Still.body)))))) (List.singleton_sublist.2 zM) Cells.nil (by decide) (Quiet.c (Q.eqS flt44 (by decide) ty44 eg44 rfl rfl rfl rfl)) ?_
    refine VA.done (by kernel_rfl) ?_
    refine VE.seq ?_
    refine VC.cond rfl ?_ ?_
    ·
     intro h11
     have he : v = i := by simp [vsEq, vEq] at h11; omega
     subst he
     refine VC.seq ?_
     refine VC.region ?_
     refine VL.q (Q.move rfl) ?_
     refine VL.q (Q.assign rfl) ?_
     refine VL.nil ?_
     refine VE.seq ?_
     refine VC.ret ?_
     refine VE.block_ret ?_
     refine VE.then_ret ?_
     refine VE.then_ret ?_
     refine VE.block_ret ?_
     refine VE.then_ret ?_
     refine VE.ret rfl (.tmp rfl .nil) () ?_ ?_ (List.nil_sublist _)
     ·
      trivial
     ·
      first | rfl | (exfalso; simp at *; omega)
    ·
     intro h11
     have he : v ≠ i := by intro e; subst e; simp [vsEq, vEq] at h11
     refine VC.skip ?_
     refine VE.block_normal ?_
     refine VE.seq ?_
     refine VC.region ?_
     refine VL.q (Q.move rfl) ?_
     refine VL.q ((by first | exact Q.addI rfl rfl (by omega) (by omega) | exact Q.add rfl rfl)) ?_
     refine VL.q (Q.assign rfl) ?_
     refine VL.nil ?_
     refine VE.then_normal ?_
     exact VE.round (i + 1) (by omega) (by omega) zE (List.Sublist.refl _)
  ·
   intro h5
   exfalso
   have := of_decide_eq_false h5
   omega

end Go.Proofs.YtencghlmckbmlaaGreat
