/- The contract of the check that parents know better trees. Conditions: those that it bears. -/
import Derived.Test.YtencghlmckbmlaaGreatRows
import Derived.Test.YtencghlmckbmlaaGreatZArr
namespace Go.Proofs.YtencghlmckbmlaaGreat
open Go Go.RowKit Go.Sx
set_option maxRecDepth 100000

theorem ok45 : okFunc Tryz.prog 45 = true := by kernel_rfl

open Go.Mesh
theorem own_only {W0 W : World} {L : List Rs} (h : Own W0 L) (ho : Only [] W0 W) : Own W L := own_stable h fun k hk => ho.block k (own_lt h k hk) (by simp)

theorem mrising_c (g : Nat) (M : Core) (F : Fwd) (Y : Lay) (R : List Rs) (k : Nat) (hI : Inv k M) (hH : Held M F Y R) :
  Does Tryz.prog 12 [.pointer (some ⟨g, 0, none⟩)] [] (fun W => Own W (mBlk g M F Y :: mRow Y :: R)) (X := Unit) (fun _ => True) (fun _ => .bool true) (fun _ => []) := by
 refine Does.enter Tryz.func12 rfl (m := 80) rfl (by simp) ?_
 intro W0 hro
 refine VC.seq ?_
 refine VC.region ?_
 refine VL.q (Q.assign rfl) ?_
 refine VL.nil ?_
 refine VE.seq ?_
 refine VC.seq ?_
 refine VC.seq ?_
 refine VC.region ?_
 refine VL.q (Q.assign rfl) ?_
 refine VL.nil ?_
 refine VE.seq ?_
 refine VC.block ?_
 refine VC.loopK (X := Nat) (fun i => [(0, .pointer (some ⟨g, 0, none⟩)), (3, .int .i64 (i : Int))]) (fun i => i ≤ 6) (fun i => 6 - i) 0 (by omega) ?_ ?_
 ·
  exact VS.mk zE zB
 ·
  intro i hi6
  refine VC.seq ?_
  refine VC.seq ?_
  refine VC.region ?_
  refine VL.q (Q.move rfl) ?_
  refine VL.q (Q.lt rfl rfl) ?_
  refine VL.nil ?_
  refine VE.seq ?_
  refine VC.cond rfl ?_ ?_
  ·
   intro h10
   have hi : i < 6 := by have := of_decide_eq_true h10; omega
   refine VC.skip ?_
   refine VE.seq ?_
   refine VC.seq ?_
   refine VC.block ?_
   refine VC.seq ?_
   refine VC.region ?_
   refine VL.q (Q.assign rfl) ?_
   refine VL.nil ?_
   refine VE.seq ?_
   refine VC.block ?_
   refine VC.loopK (X := Nat) (fun r => [(0, .pointer (some ⟨g, 0, none⟩)), (3, .int .i64 (i : Int)), (4, .int .i64 (r : Int))]) (fun r => r ≤ 2) (fun r => 2 - r) 0 (by omega) ?_ ?_
   ·
    exact VS.mk zE zB
   ·
    intro r hr2
    refine VC.seq ?_
    refine VC.seq ?_
    refine VC.region ?_
    refine VL.q (Q.move rfl) ?_
    refine VL.q (Q.lt rfl rfl) ?_
    refine VL.nil ?_
    refine VE.seq ?_
    refine VC.cond rfl ?_ ?_
    ·
     intro h14
     have hr : r < 2 := by have := of_decide_eq_true h14; omega
     refine VC.skip ?_
     refine VE.seq ?_
     refine VC.seq ?_
     refine VC.block ?_
     refine VC.seq ?_
     refine VC.region ?_
     refine VL.q (Q.move rfl) ?_
     refine VL.q (Q.move rfl) ?_
     refine VL.q (Q.move rfl) ?_
     refine VL.eff (O.call0 ok45 rfl rfl (by decide) (mtree_c g M F Y R hH i r hi hr) (fun _ ho _ => own_only hro ho) ?_)
     intro x21 y21
     rcases x21 with _ | t
     ·
      refine VL.q (Q.move rfl) ?_
      refine VL.q (Q.extract rfl rfl) ?_
      refine VL.q (Q.extract rfl rfl) ?_
      refine VL.eff (O.alloc zo151 (by decide) ?_)
      intro g5
      refine VL.eff (O.store ty151 rfl rfl rfl rfl zU zP ?_)
      refine VL.q (Q.assign rfl) ?_
      refine VL.nil ?_
      refine VE.seq ?_
      refine VC.seq ?_
      refine VC.seq ?_
      refine VC.region ?_
      refine VL.q (Q.move rfl) ?_
      refine VL.quietE (v' := .bool true) (by decide) (Q.not rfl) (by rfl) ?_
      refine VL.nil ?_
      refine VE.seq ?_
      refine VC.condT rfl ?_
      refine VC.exit ?_
      refine VE.then_exit ?_
      refine VE.block_here ?_
      refine VE.seq ?_
      refine VC.region ?_
      refine VL.q (Q.move rfl) ?_
      refine VL.q ((by first | exact Q.addI rfl rfl (by omega) (by omega) | exact Q.add rfl rfl)) ?_
      refine VL.q (Q.assign rfl) ?_
      refine VL.nil ?_
      refine VE.then_normal ?_
      exact VE.roundK (r + 1) (by omega) (by omega) zE zB
     ·
      have htr := y21
      have ho := hI.tree i hi r hr t htr
      have hne := ho.ne
      have hpar := ho.par
      have hed := ho.edge
      refine VL.q (Q.move rfl) ?_
      refine VL.q (Q.extract rfl rfl) ?_
      refine VL.q (Q.extract rfl rfl) ?_
      refine VL.eff (O.alloc zo151 (by decide) ?_)
      intro g5
      refine VL.eff (O.store ty151 rfl rfl rfl rfl zU zP ?_)
      refine VL.q (Q.assign rfl) ?_
      refine VL.nil ?_
      refine VE.seq ?_
      refine VC.seq ?_
      refine VC.seq ?_
      refine VC.region ?_
      refine VL.q (Q.move rfl) ?_
      refine VL.quietE (v' := .bool false) (by decide) (Q.not rfl) (by rfl) ?_
      refine VL.nil ?_
      refine VE.seq ?_
      refine VC.condF rfl ?_
      refine VC.skip ?_
      refine VE.seq ?_
      refine VC.seq ?_
      refine VC.region ?_
      refine VL.q (Q.fieldAddr fa151_1 rfl) ?_
      refine VL.q (Q.loadA ty44 rfl zM zS) ?_
      refine VL.eff (O.call0 ok43 rfl rfl (by decide) (vaneNode_c t.parent hpar) (fun _ _ _ => trivial) ?_)
      intro x28 y28
      refine VL.q (Q.assign rfl) ?_
      refine VL.nil ?_
      refine VE.seq ?_
      refine VC.seq ?_
      refine VC.seq ?_
      refine VC.region ?_
      refine VL.q (Q.move rfl) ?_
      refine VL.q (Q.move rfl) ?_
      refine VL.quietE (v' := .bool false) (by decide) (Q.eq rfl rfl) (congrArg Value.bool (by simp; omega)) ?_
      refine VL.q (Q.move rfl) ?_
      refine VL.yes rfl rfl ?_
      refine VL.q (Q.move rfl) ?_
      refine VL.yes rfl rfl ?_
      refine VL.quietE (v' := .bool false) (by decide) (Q.lt rfl rfl) (congrArg Value.bool (decide_eq_false (by omega))) ?_
      refine VL.quietE (v' := .bool false) (by decide) (Q.pick_false rfl rfl) (by rfl) ?_
      refine VL.q (Q.move rfl) ?_
      refine VL.yes rfl rfl ?_
      refine VL.q (Q.move rfl) ?_
      refine VL.yes rfl rfl ?_
      refine VL.q (Q.move rfl) ?_
      refine VL.yes rfl rfl ?_
      refine VL.q (Q.move rfl) ?_
      refine VL.yes rfl rfl ?_
      refine VL.q (Q.nilCheck rfl) ?_
      refine VL.yes rfl rfl ?_
      refine VL.q (Q.fieldAddr fa59_0 rfl) ?_
      refine VL.yes rfl rfl ?_
      refine VL.q (Q.indexAddrA ar46 (j := i) rfl rfl rfl hi) ?_
      refine VL.yes rfl rfl ?_
      refine VL.q (Q.indexAddrA ar45 (j := t.parent) rfl rfl rfl hpar) ?_
      refine VL.yes rfl rfl ?_
      refine VL.q (Q.load0 ty3 rfl ((own_cell hro (.head _) _).trans (by rw [Nat.mul_one]; exact mesh_cost M F Y hi hpar)) (by simp)) ?_
      refine VL.yes rfl rfl ?_
      refine VL.quietE (v' := .bool false) (by decide) (Q.eq rfl rfl) (congrArg Value.bool (by simp; omega)) ?_
      refine VL.quietE (v' := .bool false) (by decide) (Q.pick_false rfl rfl) (by rfl) ?_
      refine VL.nil ?_
      refine VE.seq ?_
      refine VC.condF rfl ?_
      refine VC.skip ?_
      refine VE.seq ?_
      refine VC.seq ?_
      refine VC.seq ?_
      refine VC.region ?_
      refine VL.q (Q.move rfl) ?_
      refine VL.q (Q.move rfl) ?_
      refine VL.q (Q.eq rfl rfl) ?_
      refine VL.nil ?_
      refine VE.seq ?_
      refine VC.cond rfl ?_ ?_
      ·
       intro h49
       refine VC.exit ?_
       refine VE.then_exit ?_
       refine VE.block_here ?_
       refine VE.seq ?_
       refine VC.region ?_
       refine VL.q (Q.move rfl) ?_
       refine VL.q ((by first | exact Q.addI rfl rfl (by omega) (by omega) | exact Q.add rfl rfl)) ?_
       refine VL.q (Q.assign rfl) ?_
       refine VL.nil ?_
       refine VE.then_normal ?_
       exact VE.roundK (r + 1) (by omega) (by omega) zE zB
      ·
       intro h49
       have hpr : t.parent ≠ r := fun e => by rw [e] at h49; simp at h49
       refine VC.skip ?_
       refine VE.seq ?_
       refine VC.seq ?_
       refine VC.region ?_
       refine VL.q (Q.move rfl) ?_
       refine VL.q (Q.move rfl) ?_
       refine VL.q (Q.move rfl) ?_
       refine VL.eff (O.call0 ok45 rfl rfl (by decide) (mtree_c g M F Y R hH t.parent r hpar hr) (fun _ ho _ => own_only hro ho) ?_)
       intro x54 y54
       rcases x54 with _ | u
       ·
        exfalso
        obtain ⟨u, hu, _⟩ := ho.parent hpr
        rw [y54] at hu
        cases hu
       ·
        obtain ⟨u2, hu2, hg⟩ := ho.parent hpr
        rw [y54] at hu2
        cases hu2
        refine VL.q (Q.move rfl) ?_
        refine VL.q (Q.extract rfl rfl) ?_
        refine VL.q (Q.extract rfl rfl) ?_
        refine VL.eff (O.alloc zo151 (by decide) ?_)
        intro g8
        refine VL.eff (O.store ty151 rfl rfl rfl rfl zU zP ?_)
        refine VL.q (Q.assign rfl) ?_
        refine VL.nil ?_
        refine VE.seq ?_
        refine VC.seq ?_
        refine VC.region ?_
        refine VL.q (Q.move rfl) ?_
        refine VL.quietE (v' := .bool false) (by decide) (Q.not rfl) (by rfl) ?_
        refine VL.q (Q.move rfl) ?_
        refine VL.yes rfl rfl ?_
        refine VL.q (Q.fieldAddr fa151_2 rfl) ?_
        refine VL.yes rfl rfl ?_
        refine VL.q (Q.load1 ty3 rfl zM rfl) ?_
        refine VL.yes rfl rfl ?_
        refine VL.q (Q.fieldAddr fa151_2 rfl) ?_
        refine VL.yes rfl rfl ?_
        refine VL.q (Q.load1 ty3 rfl zM rfl) ?_
        refine VL.yes rfl rfl ?_
        refine VL.quietE (v' := .bool false) (by decide) (Q.lt rfl rfl) (congrArg Value.bool (decide_eq_false (by omega))) ?_
        refine VL.quietE (v' := .bool false) (by decide) (Q.pick_false rfl rfl) (by rfl) ?_
        refine VL.q (Q.move rfl) ?_
        refine VL.yes rfl rfl ?_
        refine VL.q (Q.fieldAddr fa151_2 rfl) ?_
        refine VL.yes rfl rfl ?_
        refine VL.q (Q.load1 ty3 rfl zM rfl) ?_
        refine VL.yes rfl rfl ?_
        refine VL.q (Q.fieldAddr fa151_2 rfl) ?_
        refine VL.yes rfl rfl ?_
        refine VL.q (Q.load1 ty3 rfl zM rfl) ?_
        refine VL.yes rfl rfl ?_
        refine VL.q (Q.eq rfl rfl) ?_
        refine VL.yes rfl rfl ?_
        refine VL.q (Q.move rfl) ?_
        refine VK.case 72 rfl ?_ ?_
        ·
         intro h72
         have e72 : u.seq = t.seq := by have := eq_of_beq h72; omega
         refine VL.yes rfl rfl ?_
         refine VL.q (Q.fieldAddr fa151_4 rfl) ?_
         refine VL.yes rfl rfl ?_
         refine VL.q (Q.load1 ty3 rfl zM rfl) ?_
         refine VL.yes rfl rfl ?_
         refine VL.q (Q.fieldAddr fa151_4 rfl) ?_
         refine VL.yes rfl rfl ?_
         refine VL.q (Q.load1 ty3 rfl zM rfl) ?_
         refine VL.yes rfl rfl ?_
         refine VL.quietE (v' := .bool false) (by decide) (Q.ge rfl rfl) (congrArg Value.bool (decide_eq_false (by omega))) ?_
         refine VL.yes rfl rfl ?_
         refine VL.quietE (v' := .bool false) (by decide) (Q.pick_true rfl rfl) (by rfl) ?_
         refine VL.quietE (v' := .bool false) (by decide) (Q.pick_false rfl rfl) (by rfl) ?_
         refine VL.nil ?_
         refine VE.seq ?_
         refine VC.condF rfl ?_
         refine VC.skip ?_
         refine VE.block_normal ?_
         refine VE.seq ?_
         refine VC.region ?_
         refine VL.q (Q.move rfl) ?_
         refine VL.q ((by first | exact Q.addI rfl rfl (by omega) (by omega) | exact Q.add rfl rfl)) ?_
         refine VL.q (Q.assign rfl) ?_
         refine VL.nil ?_
         refine VE.then_normal ?_
         exact VE.roundK (r + 1) (by omega) (by omega) zE zB
        ·
         intro h72
         refine VL.no (by simp) rfl rfl (.inl rfl) ?_
         refine VL.no (by simp) rfl rfl (.inl rfl) ?_
         refine VL.no (by simp) rfl rfl (.inl rfl) ?_
         refine VL.no (by simp) rfl rfl (.inl rfl) ?_
         refine VL.no (by simp) rfl rfl (.inl rfl) ?_
         refine VL.yes rfl rfl ?_
         refine VL.quietE (v' := .bool false) (by decide) (Q.pick_false rfl rfl) (by rfl) ?_
         refine VL.quietE (v' := .bool false) (by decide) (Q.pick_false rfl rfl) (by rfl) ?_
         refine VL.nil ?_
         refine VE.seq ?_
         refine VC.condF rfl ?_
         refine VC.skip ?_
         refine VE.block_normal ?_
         refine VE.seq ?_
         refine VC.region ?_
         refine VL.q (Q.move rfl) ?_
         refine VL.q ((by first | exact Q.addI rfl rfl (by omega) (by omega) | exact Q.add rfl rfl)) ?_
         refine VL.q (Q.assign rfl) ?_
         refine VL.nil ?_
         refine VE.then_normal ?_
         exact VE.roundK (r + 1) (by omega) (by omega) zE zB
    ·
     intro h14
     refine VC.exit ?_
     refine VE.then_exit ?_
     refine VE.then_exit ?_
     refine VE.block_here ?_
     refine VE.block_normal ?_
     refine VE.seq ?_
     refine VC.region ?_
     refine VL.q (Q.move rfl) ?_
     refine VL.q ((by first | exact Q.addI rfl rfl (by omega) (by omega) | exact Q.add rfl rfl)) ?_
     refine VL.q (Q.assign rfl) ?_
     refine VL.nil ?_
     refine VE.then_normal ?_
     exact VE.roundK (i + 1) (by omega) (by omega) zE zB
  ·
   intro h10
   refine VC.exit ?_
   refine VE.then_exit ?_
   refine VE.then_exit ?_
   refine VE.block_here ?_
   refine VE.seq ?_
   refine VC.seq ?_
   refine VC.region ?_
   refine VL.q (Q.assign rfl) ?_
   refine VL.nil ?_
   refine VE.seq ?_
   refine VC.ret ?_
   refine VE.ret rfl (.tmp rfl .nil) () ?_ ?_ (List.nil_sublist _)
   ·
    trivial
   ·
    first | rfl | (exfalso; simp at *; omega)

end Go.Proofs.YtencghlmckbmlaaGreat
