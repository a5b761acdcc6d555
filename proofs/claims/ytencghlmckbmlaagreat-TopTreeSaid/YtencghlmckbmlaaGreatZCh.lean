/- The contract of the check of the cheapest ways. Conditions: those that it bears. -/
import Derived.Test.YtencghlmckbmlaaGreatRows
import Derived.Test.YtencghlmckbmlaaGreatZCh0
namespace Go.Proofs.YtencghlmckbmlaaGreat
open Go Go.RowKit Go.Sx
set_option maxRecDepth 100000

theorem eg151 : Tryz.prog.eqGuardType Tryz.prog.depth 151 = false := by kernel_rfl
theorem flt151 : flat Tryz.prog 6 151 = some [.int .u8, .int .u8, .int .u8, .int .u8, .int .u8, .int .u8, .int .u8, .int .u8, .int .u8, .int .u8, .int .u8, .int .u8, .int .i64, .int .i64, .int .i64, .bool, .int .i64] := by kernel_rfl
theorem ok10 : okFunc Tryz.prog 10 = true := by kernel_rfl
theorem ok51 : okFunc Tryz.prog 51 = true := by kernel_rfl
theorem ok9 : okFunc Tryz.prog 9 = true := by kernel_rfl
theorem zo46 : tyZero Tryz.prog 46 = some [.int .i64 0, .int .i64 0, .int .i64 0, .int .i64 0, .int .i64 0, .int .i64 0, .int .i64 0, .int .i64 0, .int .i64 0, .int .i64 0, .int .i64 0, .int .i64 0, .int .i64 0, .int .i64 0, .int .i64 0, .int .i64 0, .int .i64 0, .int .i64 0, .int .i64 0, .int .i64 0, .int .i64 0, .int .i64 0, .int .i64 0, .int .i64 0, .int .i64 0, .int .i64 0, .int .i64 0, .int .i64 0, .int .i64 0, .int .i64 0, .int .i64 0, .int .i64 0, .int .i64 0, .int .i64 0, .int .i64 0, .int .i64 0] := by kernel_rfl

open Go.Mesh
theorem mcheapest_c (g : Nat) (M : Core) (F : Fwd) (Y : Lay) (R : List Rs) (k : Nat) (hI : Inv k M) (hk : k ≤ 900) (hH : Held M F Y R) (hml : Y.mail.length ≤ 10000) (n : Nat) (hF : FInv n M F) :
  Does Tryz.prog 13 [.pointer (some ⟨g, 0, none⟩)] (mBlk g M F Y :: mRow Y :: R) (fun _ => True) (X := Bool × (Core × (Lay × List Rs))) (fun x => Inv (k + 2) x.2.1 ∧ Held x.2.1 F x.2.2.1 x.2.2.2 ∧ FInv n x.2.1 F ∧ x.2.2.1.mail.length ≤ 200000) (fun x => .tuple #[.bool true, .bool x.1]) (fun x => mBlk g x.2.1 F x.2.2.1 :: mRow x.2.2.1 :: x.2.2.2) := by
 have hfar : far = 1125899906842624 := rfl
 refine Does.enter Tryz.func13 rfl (m := 231) rfl (by simp) ?_
 intro W0 hro
 refine VC.seq ?_
 refine VC.region ?_
 refine VL.q (Q.assign rfl) ?_
 refine VL.q (Q.assign rfl) ?_
 refine VL.nil ?_
 refine VE.seq ?_
 refine VC.seq ?_
 refine VC.seq ?_
 refine VC.region ?_
 refine VL.q (Q.assign rfl) ?_
 refine VL.nil ?_
 refine VE.seq ?_
 refine VC.block ?_
 refine VC.loop (X := Nat × (Lay × List Rs)) (fun x => [(0, .pointer (some ⟨g, 0, none⟩)), (4, .int .i64 (x.1 : Int))]) (fun x => (mBlk g (annS M x.1) F x.2.1 :: mRow x.2.1 :: x.2.2)) (fun x => x.1 ≤ 2 ∧ Held (annS M x.1) F x.2.1 x.2.2 ∧ x.2.1.mail.length ≤ Y.mail.length + 6 * x.1) (fun x => 2 - x.1) (0, (Y, R)) ⟨Nat.zero_le _, hH, Nat.le_refl _⟩ ?_ ?_
 ·
  exact VS.mk zE (List.Sublist.refl _)
 ·
  intro x hx
  obtain ⟨hx2, hHx, hlx⟩ := hx
  have hIx := annS_inv hI x.1 hx2
  refine VC.seq ?_
  refine VC.seq ?_
  refine VC.region ?_
  refine VL.q (Q.move rfl) ?_
  refine VL.q (Q.lt rfl rfl) ?_
  refine VL.nil ?_
  refine VE.seq ?_
  refine VC.cond rfl ?_ ?_
  ·
   intro h25
   have hr : x.1 < 2 := by have := of_decide_eq_true h25; omega
   refine VC.skip ?_
   refine VE.seq ?_
   refine VC.seq ?_
   refine VC.block ?_
   refine VC.seq ?_
   refine VC.region ?_
   refine VL.q (Q.move rfl) ?_
   refine VL.q (Q.move rfl) ?_
   refine VL.eff (O.callF ok9 rfl rfl (by decide) (mannounce2_c g (annS M x.1) F x.2.1 x.2.2 (k + x.1) hIx (by omega) hHx (by omega) x.1 hr) zM2 (fun _ _ _ => trivial) ?_)
   intro x30 y30
   obtain ⟨Y1, R1⟩ := x30
   have hH1 : Held (annS M (x.1 + 1)) F Y1 R1 := (y30).1
   have hl1 : Y1.mail.length ≤ x.2.1.mail.length + 6 := (y30).2
   refine VL.quietE (v' := .bool false) (by decide) (Q.not rfl) (by rfl) ?_
   refine VL.nil ?_
   refine VE.seq ?_
   refine VC.condF rfl ?_
   refine VC.skip ?_
   refine VE.block_normal ?_
   refine VE.seq ?_
   refine VC.region ?_
   refine VL.q (Q.move rfl) ?_
   refine VL.q ((by first | exact Q.addI rfl rfl (by omega) (by omega) | exact Q.add rfl rfl)) ?_
   refine VL.q (Q.assign rfl) ?_
   refine VL.nil ?_
   refine VE.then_normal ?_
   exact VE.round (x.1 + 1, (Y1, R1)) ⟨by omega, hH1, by show Y1.mail.length ≤ Y.mail.length + 6 * (x.1 + 1); omega⟩ (by omega) zE (List.Sublist.refl _)
  ·
   intro h25
   have he2 : x.1 = 2 := by have := of_decide_eq_false h25; omega
   obtain ⟨k2, Y2, R2⟩ := x
   have he2 : k2 = 2 := he2
   subst he2
   have hH2 : Held (annS M 2) F Y2 R2 := hHx
   have hl2 : Y2.mail.length ≤ Y.mail.length + 6 * 2 := hlx
   refine VC.exit ?_
   refine VE.then_exit ?_
   refine VE.then_exit ?_
   refine VE.block_here ?_
   refine VE.seq ?_
   refine VC.seq ?_
   refine VC.seq ?_
   refine VC.region ?_
   refine VL.q (Q.assign rfl) ?_
   refine VL.nil ?_
   refine VE.seq ?_
   refine VC.block ?_
   refine VC.loop (X := CS) (fun x => [(0, .pointer (some ⟨g, 0, none⟩)), (5, .int .i64 (x.k : Int))]) (fun x => (mBlk g x.M F x.Y :: mRow x.Y :: x.R)) (fun x => CI (k + 2) n (Y.mail.length + 12) F x) (fun x => 20002 - x.k) ⟨0, annS M 2, Y2, R2⟩ ⟨annS_inv hI 2 (Nat.le_refl _), hH2, by show Y2.mail.length ≤ _ + 6 * 0; omega, Nat.zero_le _, Nat.zero_le _, (fun j hj => absurd hj (Nat.not_lt_zero _)), annS_pos M, annS_fwd hF 2⟩ ?_ ?_
   ·
    exact VS.mk zE (List.Sublist.refl _)
   ·
    intro x hx
    have hxl := hx.len
    have hxb := hx.kb
    have hxk := hx.kl
    refine VC.seq ?_
    refine VC.seq ?_
    refine VC.region ?_
    refine VL.q (Q.move rfl) ?_
    refine VL.q (Q.move rfl) ?_
    refine VL.q (Q.nilCheck rfl) ?_
    refine VL.q (Q.fieldAddr fa59_3 rfl) ?_
    refine VL.q (Q.load1 ty57 rfl zM (mesh_mail _ _ _)) ?_
    refine VL.q (Q.len sl57 rfl) ?_
    refine VL.q (Q.lt rfl rfl) ?_
    refine VL.nil ?_
    refine VE.seq ?_
    refine VC.cond rfl ?_ ?_
    ·
     intro h38
     have hlt : x.k < x.Y.mail.length := by have := of_decide_eq_true h38; omega
     refine VC.skip ?_
     refine VE.seq ?_
     refine VC.seq ?_
     refine VC.block ?_
     refine VC.seq ?_
     refine VC.seq ?_
     refine VC.region ?_
     refine VL.q (Q.move rfl) ?_
     refine VL.q (Q.gt rfl rfl) ?_
     refine VL.nil ?_
     refine VE.seq ?_
     refine VC.cond rfl ?_ ?_
     ·
      intro h42
      refine VC.seq ?_
      refine VC.region ?_
      refine VL.q (Q.assign rfl) ?_
      refine VL.q (Q.assign rfl) ?_
      refine VL.nil ?_
      refine VE.seq ?_
      refine VC.ret ?_
      refine VE.then_ret ?_
      refine VE.block_ret ?_
      refine VE.then_ret ?_
      refine VE.then_ret ?_
      refine VE.block_ret ?_
      refine VE.then_ret ?_
      exact VE.ret rfl (.tmp rfl (.tmp rfl .nil)) (false, (x.M, (x.Y, x.R))) ⟨hx.inv, hx.held, hx.fwd, by show x.Y.mail.length ≤ 200000; omega⟩ rfl (List.Sublist.refl _)
     ·
      intro h42
      have hb : x.k ≤ 20000 := by have := of_decide_eq_false h42; omega
      refine VC.skip ?_
      refine VE.seq ?_
      refine VC.seq ?_
      refine VC.region ?_
      refine VL.q (Q.move rfl) ?_
      refine VL.q (Q.move rfl) ?_
      refine VL.eff (O.callF ok10 rfl rfl (by decide) (marrive2_c g x.M F x.Y x.R (k + 2) hx.inv (by omega) hx.held (by omega) x.k x.Y.mail[x.k] hlt rfl) zM2 (fun _ _ _ => trivial) ?_)
      intro x45 y45
      obtain ⟨Y1, R1⟩ := x45
      obtain ⟨hH1, hl1, hp1⟩ := y45
      dsimp only at hl1 hp1
      refine VL.quietE (v' := .bool false) (by decide) (Q.not rfl) (by rfl) ?_
      refine VL.nil ?_
      refine VE.seq ?_
      refine VC.condF rfl ?_
      refine VC.skip ?_
      refine VE.block_normal ?_
      refine VE.seq ?_
      refine VC.region ?_
      refine VL.q (Q.move rfl) ?_
      refine VL.q ((by first | exact Q.addI rfl rfl (by omega) (by omega) | exact Q.add rfl rfl)) ?_
      refine VL.q (Q.assign rfl) ?_
      refine VL.nil ?_
      refine VE.then_normal ?_
      exact VE.round ⟨x.k + 1, arr x.M x.Y.mail[x.k].1, Y1, R1⟩ (hx.next (by omega) hlt (by omega) hH1 hl1 hp1) (by show 20002 - (x.k + 1) < 20002 - x.k; omega) zE (List.Sublist.refl _)
    ·
     intro h38
     have hRd := hx.ready (by have := of_decide_eq_false h38; omega)
     have hH3 := hx.held
     have hFN := hx.fwd
     have hl3 : x.Y.mail.length ≤ 200000 := by omega
     have hk2 : k + 2 ≤ 1000 := by omega
     generalize x.M = N at *
     generalize x.Y = Y3 at *
     generalize x.R = R3 at *
     refine VC.exit ?_
     refine VE.then_exit ?_
     refine VE.then_exit ?_
     refine VE.block_here ?_
     refine VE.seq ?_
     refine VC.seq ?_
     refine VC.region ?_
     refine VL.q (Q.assign rfl) ?_
     refine VL.nil ?_
     refine VE.seq ?_
     refine VC.seq ?_
     refine VC.region ?_
     refine VL.eff (O.alloc zo46 (by decide) ?_)
     intro g7
     refine VL.nil ?_
     refine VE.seq ?_
     refine VC.seq ?_
     refine VC.seq ?_
     refine VC.region ?_
     refine VL.q (Q.assign rfl) ?_
     refine VL.nil ?_
     refine VE.seq ?_
     refine VC.block ?_
     refine VC.loop (X := Nat) (fun a => [(0, .pointer (some ⟨g, 0, none⟩)), (6, .int .i64 1125899906842624), (7, .pointer (some ⟨g7, 0, none⟩)), (8, .int .i64 (a : Int))]) (fun a => (.blk g7 (wayC (initW N (6 * a))) 46 :: mBlk g N F Y3 :: mRow Y3 :: R3)) (fun a => a ≤ 6) (fun a => 6 - a) 0 (Nat.zero_le _) ?_ ?_
     ·
      exact VS.mk zE (by rw [show wayC (initW N (6 * 0)) = List.replicate 36 (.int .i64 0) from initW_zero N]; exact zB)
     ·
      intro a ha6
      refine VC.seq ?_
      refine VC.seq ?_
      refine VC.region ?_
      refine VL.q (Q.move rfl) ?_
      refine VL.q (Q.lt rfl rfl) ?_
      refine VL.nil ?_
      refine VE.seq ?_
      refine VC.cond rfl ?_ ?_
      ·
       intro h48
       have ha : a < 6 := by have := of_decide_eq_true h48; omega
       refine VC.skip ?_
       refine VE.seq ?_
       refine VC.seq ?_
       refine VC.block ?_
       refine VC.seq ?_
       refine VC.region ?_
       refine VL.q (Q.assign rfl) ?_
       refine VL.nil ?_
       refine VE.seq ?_
       refine VC.block ?_
       refine VC.loop (X := Nat) (fun b => [(0, .pointer (some ⟨g, 0, none⟩)), (6, .int .i64 1125899906842624), (7, .pointer (some ⟨g7, 0, none⟩)), (8, .int .i64 (a : Int)), (9, .int .i64 (b : Int))]) (fun b => (.blk g7 (wayC (initW N (a * 6 + b))) 46 :: mBlk g N F Y3 :: mRow Y3 :: R3)) (fun b => b ≤ 6) (fun b => 6 - b) 0 (Nat.zero_le _) ?_ ?_
       ·
        exact VS.mk zE (by rw [show a * 6 + 0 = 6 * a from by omega]; exact zB)
       ·
        intro b hb6
        refine VC.seq ?_
        refine VC.seq ?_
        refine VC.region ?_
        refine VL.q (Q.move rfl) ?_
        refine VL.q (Q.lt rfl rfl) ?_
        refine VL.nil ?_
        refine VE.seq ?_
        refine VC.cond rfl ?_ ?_
        ·
         intro h52
         have hb : b < 6 := by have := of_decide_eq_true h52; omega
         refine VC.skip ?_
         refine VE.seq ?_
         refine VC.seq ?_
         refine VC.block ?_
         refine VC.seq ?_
         refine VC.region ?_
         refine VL.q (Q.move rfl) ?_
         refine VL.q (Q.move rfl) ?_
         refine VL.q (Q.move rfl) ?_
         refine VL.q (Q.indexAddrA ar46 (j := a) rfl rfl rfl ha) ?_
         refine VL.q (Q.indexAddrA ar45 (j := b) rfl rfl rfl hb) ?_
         refine VL.eff (O.store (xs := [.int .i64 ((far : Nat) : Int)]) (C := wayC (initW N (a * 6 + b))) (C' := wayC (upd2 (initW N (a * 6 + b)) a b (far))) ty3 rfl rfl rfl rfl zU (by rw [Nat.mul_one]; exact way_put _ ha hb _) ?_)
         refine VL.nil ?_
         refine VE.seq ?_
         refine VC.seq ?_
         refine VC.region ?_
         refine VL.q (Q.move rfl) ?_
         refine VL.q (Q.move rfl) ?_
         refine VL.q (Q.move rfl) ?_
         refine VL.q (Q.nilCheck rfl) ?_
         refine VL.q (Q.fieldAddr fa59_0 rfl) ?_
         refine VL.q (Q.indexAddrA ar46 (j := a) rfl rfl rfl ha) ?_
         refine VL.q (Q.indexAddrA ar45 (j := b) rfl rfl rfl hb) ?_
         refine VL.q (Q.load1 ty3 rfl zM (by rw [Nat.mul_one]; exact mesh_cost N F Y3 ha hb)) ?_
         refine VL.q (Q.gt rfl rfl) ?_
         refine VL.nil ?_
         refine VE.seq ?_
         refine VC.cond rfl ?_ ?_
         ·
          intro h68
          have hst : wayC (upd2 (upd2 (initW N (a * 6 + b)) a b far) a b (N.cost a b)) = wayC (initW N (a * 6 + (b + 1))) := by rw [upd2_upd2, ← initW_step N ha hb]; congr 2; unfold way0; rw [if_pos (by have := of_decide_eq_true h68; omega)]
          refine VA.start (Ls := []) (Cs := []) mixed ?_
          refine VA.tk 0 rfl (zb (zttbb (zttb (zt ze)))) (List.nil_sublist _) Cells.nil (Quiet.c (Q.move rfl)) ?_
          refine VA.tk 1 rfl (zb (zttbb (zttb (zt ze)))) (List.nil_sublist _) Cells.nil (Quiet.c (Q.move rfl)) ?_
          refine VA.tk 2 rfl (zb (zttbb (zttb (zt ze)))) (List.nil_sublist _) Cells.nil (Quiet.c (Q.move rfl)) ?_
          refine VA.tk 3 rfl (zb (zttbb (zttb (zt ze)))) (List.nil_sublist _) Cells.nil (Quiet.c (Q.move rfl)) ?_
          refine VA.tk 4 rfl (zb (zttbb (zttb (zt ze)))) (List.nil_sublist _) Cells.nil (Quiet.c (Q.move rfl)) ?_
          refine VA.tk 5 rfl (zb (zttbb (zttb (zt ze)))) (List.nil_sublist _) Cells.nil (Quiet.c (Q.nilCheck rfl)) ?_
          refine VA.tk 6 rfl (zb (zttbb (zttb (zt ze)))) (List.nil_sublist _) Cells.nil (Quiet.c (Q.fieldAddr fa59_0 rfl)) ?_
          refine VA.tk 7 rfl (zb (zttbb (zttb (zt ze)))) (List.nil_sublist _) Cells.nil (Quiet.c (Q.indexAddrA ar46 (j := a) rfl rfl rfl ha)) ?_
          refine VA.tk 8 rfl (zb (zttbb (zttb (zt ze)))) (List.nil_sublist _) Cells.nil (Quiet.c (Q.indexAddrA ar45 (j := b) rfl rfl rfl hb)) ?_
          refine VA.tk 10 rfl (zb (zttbb (zttb (zt ze)))) (List.nil_sublist _) Cells.nil (Quiet.c (Q.indexAddrA ar46 (j := a) rfl rfl rfl ha)) ?_
          refine VA.all (rs := [9]) (by kernel_rfl) (by simp) ?_
          refine VA.forall1 ?_
          ·
           refine VA.eff rfl ?_
           refine O.quiet (by decide) (Q.load1 ty3 rfl zM (by rw [Nat.mul_one]; exact mesh_cost N F Y3 ha hb)) ?_
           refine VA.next (List.nil_sublist _) Cells.nil ?_
           refine VA.tk 11 rfl (zb (zttbb (zttb (zt ze)))) (List.nil_sublist _) Cells.nil (Quiet.c (Q.indexAddrA ar45 (j := b) rfl rfl rfl hb)) ?_
           refine VA.all (rs := [12]) (by kernel_rfl) (by simp) ?_
           refine VA.forall1 ?_
           ·
            refine VA.eff rfl ?_
            refine id (O.store (xs := [.int .i64 ((N.cost a b : Nat) : Int)]) (C := wayC (upd2 (initW N (a * 6 + b)) a b far)) (C' := wayC (upd2 (upd2 (initW N (a * 6 + b)) a b far) a b (N.cost a b))) ty3 rfl rfl rfl rfl zU (by rw [Nat.mul_one]; exact way_put _ ha hb _) ?_)
            refine VA.next (List.nil_sublist _) Cells.nil ?_
            refine VA.done (by kernel_rfl) ?_
            refine VE.block_normal ?_
            refine VE.seq ?_
            refine VC.region ?_
            refine VL.q (Q.move rfl) ?_
            refine VL.q ((by first | exact Q.addI rfl rfl (by omega) (by omega) | exact Q.add rfl rfl)) ?_
            refine VL.q (Q.assign rfl) ?_
            refine VL.nil ?_
            refine VE.then_normal ?_
            rw [hst]
            exact VE.round (b + 1) (by omega) (by omega) zE (List.Sublist.refl _)
         ·
          intro h68
          have hst : wayC (upd2 (initW N (a * 6 + b)) a b far) = wayC (initW N (a * 6 + (b + 1))) := by rw [← initW_step N ha hb]; congr 2; unfold way0; rw [if_neg (by have := of_decide_eq_false h68; omega)]
          refine VC.skip ?_
          refine VE.block_normal ?_
          refine VE.seq ?_
          refine VC.region ?_
          refine VL.q (Q.move rfl) ?_
          refine VL.q ((by first | exact Q.addI rfl rfl (by omega) (by omega) | exact Q.add rfl rfl)) ?_
          refine VL.q (Q.assign rfl) ?_
          refine VL.nil ?_
          refine VE.then_normal ?_
          rw [hst]
          exact VE.round (b + 1) (by omega) (by omega) zE (List.Sublist.refl _)
        ·
         intro h52
         have he : b = 6 := by have := of_decide_eq_false h52; omega
         subst he
         refine VC.exit ?_
         refine VE.then_exit ?_
         refine VE.then_exit ?_
         refine VE.block_here ?_
         refine VE.block_normal ?_
         refine VE.seq ?_
         refine VC.region ?_
         refine VL.q (Q.move rfl) ?_
         refine VL.q ((by first | exact Q.addI rfl rfl (by omega) (by omega) | exact Q.add rfl rfl)) ?_
         refine VL.q (Q.assign rfl) ?_
         refine VL.nil ?_
         refine VE.then_normal ?_
         rw [show a * 6 + 6 = 6 * (a + 1) from by omega]
         exact VE.round (a + 1) (by omega) (by omega) zE (List.Sublist.refl _)
      ·
       intro h48
       have he : a = 6 := by have := of_decide_eq_false h48; omega
       subst he
       refine VC.exit ?_
       refine VE.then_exit ?_
       refine VE.then_exit ?_
       refine VE.block_here ?_
       refine VE.seq ?_
       refine VC.seq ?_
       refine VC.seq ?_
       refine VC.region ?_
       refine VL.q (Q.assign rfl) ?_
       refine VL.nil ?_
       refine VE.seq ?_
       refine VC.block ?_
       refine VC.loop (X := Nat) (fun q => [(0, .pointer (some ⟨g, 0, none⟩)), (6, .int .i64 1125899906842624), (7, .pointer (some ⟨g7, 0, none⟩)), (10, .int .i64 (q : Int))]) (fun q => (.blk g7 (wayC (fw (way0 N) (36 * q))) 46 :: mBlk g N F Y3 :: mRow Y3 :: R3)) (fun q => q ≤ 6) (fun q => 6 - q) 0 (Nat.zero_le _) ?_ ?_
       ·
        exact VS.mk zE (by rw [show wayC (fw (way0 N) (36 * 0)) = wayC (initW N (6 * 6)) from (initW_last N).symm]; exact zB)
       ·
        intro q hq6
        refine VC.seq ?_
        refine VC.seq ?_
        refine VC.region ?_
        refine VL.q (Q.move rfl) ?_
        refine VL.q (Q.lt rfl rfl) ?_
        refine VL.nil ?_
        refine VE.seq ?_
        refine VC.cond rfl ?_ ?_
        ·
         intro h82
         have hq : q < 6 := by have := of_decide_eq_true h82; omega
         refine VC.skip ?_
         refine VE.seq ?_
         refine VC.seq ?_
         refine VC.block ?_
         refine VC.seq ?_
         refine VC.region ?_
         refine VL.q (Q.assign rfl) ?_
         refine VL.nil ?_
         refine VE.seq ?_
         refine VC.block ?_
         refine VC.loop (X := Nat) (fun a => [(0, .pointer (some ⟨g, 0, none⟩)), (6, .int .i64 1125899906842624), (7, .pointer (some ⟨g7, 0, none⟩)), (10, .int .i64 (q : Int)), (11, .int .i64 (a : Int))]) (fun a => (.blk g7 (wayC (fw (way0 N) ((q * 6 + a) * 6))) 46 :: mBlk g N F Y3 :: mRow Y3 :: R3)) (fun a => a ≤ 6) (fun a => 6 - a) 0 (Nat.zero_le _) ?_ ?_
         ·
          exact VS.mk zE (by rw [show (q * 6 + 0) * 6 = 36 * q from by omega]; exact zB)
         ·
          intro a ha6
          refine VC.seq ?_
          refine VC.seq ?_
          refine VC.region ?_
          refine VL.q (Q.move rfl) ?_
          refine VL.q (Q.lt rfl rfl) ?_
          refine VL.nil ?_
          refine VE.seq ?_
          refine VC.cond rfl ?_ ?_
          ·
           intro h86
           have ha : a < 6 := by have := of_decide_eq_true h86; omega
           refine VC.skip ?_
           refine VE.seq ?_
           refine VC.seq ?_
           refine VC.block ?_
           refine VC.seq ?_
           refine VC.region ?_
           refine VL.q (Q.assign rfl) ?_
           refine VL.nil ?_
           refine VE.seq ?_
           refine VC.block ?_
           refine VC.loop (X := Nat) (fun b => [(0, .pointer (some ⟨g, 0, none⟩)), (6, .int .i64 1125899906842624), (7, .pointer (some ⟨g7, 0, none⟩)), (10, .int .i64 (q : Int)), (11, .int .i64 (a : Int)), (12, .int .i64 (b : Int))]) (fun b => (.blk g7 (wayC (fw (way0 N) ((q * 6 + a) * 6 + b))) 46 :: mBlk g N F Y3 :: mRow Y3 :: R3)) (fun b => b ≤ 6) (fun b => 6 - b) 0 (Nat.zero_le _) ?_ ?_
           ·
            exact VS.mk zE (by rw [Nat.add_zero]; exact zB)
           ·
            intro b hb6
            refine VC.seq ?_
            refine VC.seq ?_
            refine VC.region ?_
            refine VL.q (Q.move rfl) ?_
            refine VL.q (Q.lt rfl rfl) ?_
            refine VL.nil ?_
            refine VE.seq ?_
            refine VC.cond rfl ?_ ?_
            ·
             intro h90
             have hb : b < 6 := by have := of_decide_eq_true h90; omega
             have hf1 := fw_far hRd.inv ((q * 6 + a) * 6 + b) a b
             have hf2 := fw_far hRd.inv ((q * 6 + a) * 6 + b) a q
             have hf3 := fw_far hRd.inv ((q * 6 + a) * 6 + b) q b
             refine VC.skip ?_
             refine VE.seq ?_
             refine VC.seq ?_
             refine VC.block ?_
             refine VA.start (Ls := []) (Cs := []) mixed ?_
             refine VA.tk 0 rfl (zb (zttbb (zttbb (zttb (zt ze))))) (List.nil_sublist _) Cells.nil (Quiet.c (Q.move rfl)) ?_
             refine VA.tk 1 rfl (zb (zttbb (zttbb (zttb (zt ze))))) (List.nil_sublist _) Cells.nil (Quiet.c (Q.move rfl)) ?_
             refine VA.tk 2 rfl (zb (zttbb (zttbb (zttb (zt ze))))) (List.nil_sublist _) Cells.nil (Quiet.c (Q.move rfl)) ?_
             refine VA.tk 3 rfl (zb (zttbb (zttbb (zttb (zt ze))))) (List.nil_sublist _) Cells.nil (Quiet.c (Q.move rfl)) ?_
             refine VA.tk 4 rfl (zb (zttbb (zttbb (zttb (zt ze))))) (List.nil_sublist _) Cells.nil (Quiet.c (Q.indexAddrA ar46 (j := a) rfl rfl rfl ha)) ?_
             refine VA.tk 5 rfl (zb (zttbb (zttbb (zttb (zt ze))))) (List.nil_sublist _) Cells.nil (Quiet.c (Q.indexAddrA ar45 (j := b) rfl rfl rfl hb)) ?_
             refine VA.tk 7 rfl (zb (zttbb (zttbb (zttb (zt ze))))) (List.nil_sublist _) Cells.nil (Quiet.c (Q.move rfl)) ?_
             refine VA.tk 8 rfl (zb (zttbb (zttbb (zttb (zt ze))))) (List.nil_sublist _) Cells.nil (Quiet.c (Q.move rfl)) ?_
             refine VA.tk 9 rfl (zb (zttbb (zttbb (zttb (zt ze))))) (List.nil_sublist _) Cells.nil (Quiet.c (Q.indexAddrA ar46 (j := a) rfl rfl rfl ha)) ?_
             refine VA.tk 10 rfl (zb (zttbb (zttbb (zttb (zt ze))))) (List.nil_sublist _) Cells.nil (Quiet.c (Q.indexAddrA ar45 (j := q) rfl rfl rfl hq)) ?_
             refine VA.tk 12 rfl (zb (zttbb (zttbb (zttb (zt ze))))) (List.nil_sublist _) Cells.nil (Quiet.c (Q.move rfl)) ?_
             refine VA.tk 13 rfl (zb (zttbb (zttbb (zttb (zt ze))))) (List.nil_sublist _) Cells.nil (Quiet.c (Q.move rfl)) ?_
             refine VA.tk 14 rfl (zb (zttbb (zttbb (zttb (zt ze))))) (List.nil_sublist _) Cells.nil (Quiet.c (Q.indexAddrA ar46 (j := q) rfl rfl rfl hq)) ?_
             refine VA.tk 15 rfl (zb (zttbb (zttbb (zttb (zt ze))))) (List.nil_sublist _) Cells.nil (Quiet.c (Q.indexAddrA ar45 (j := b) rfl rfl rfl hb)) ?_
             refine VA.tk 19 rfl (zb (zttbb (zttbb (zttb (zt ze))))) (List.nil_sublist _) Cells.nil (Quiet.c (Q.indexAddrA ar46 (j := a) rfl rfl rfl ha)) ?_
             refine VA.all (rs := [6, 11, 16]) (by kernel_rfl) (by simp) ?_
             refine VA.forall3 ?_ ?_ ?_
             ·
              refine VA.eff rfl ?_
              refine O.quiet (by decide) (Q.load1 ty3 rfl zM (by rw [Nat.mul_one]; exact way_get (fw (way0 N) ((q * 6 + a) * 6 + b)) ha hb)) ?_
              refine VA.next (List.nil_sublist _) Cells.nil ?_
              refine VA.all (rs := [11, 16]) (by kernel_rfl) (by simp) ?_
              refine VA.forall2 ?_ ?_
              ·
               refine VA.eff rfl ?_
               refine O.quiet (by decide) (Q.load1 ty3 rfl zM (by rw [Nat.mul_one]; exact way_get (fw (way0 N) ((q * 6 + a) * 6 + b)) ha hq)) ?_
               refine VA.next (List.nil_sublist _) Cells.nil ?_
               refine VA.all (rs := [16]) (by kernel_rfl) (by simp) ?_
               refine VA.forall1 ?_
               ·
                refine VA.eff rfl ?_
                refine O.quiet (by decide) (Q.load1 ty3 rfl zM (by rw [Nat.mul_one]; exact way_get (fw (way0 N) ((q * 6 + a) * 6 + b)) hq hb)) ?_
                refine VA.next (List.nil_sublist _) Cells.nil ?_
                refine VA.tk 17 rfl (zb (zttbb (zttbb (zttb (zt ze))))) (List.nil_sublist _) Cells.nil (Quiet.c ((by first | exact Q.addI rfl rfl (by omega) (by omega) | exact Q.add rfl rfl))) ?_
                refine VA.tk 18 rfl (zb (zttbb (zttbb (zttb (zt ze))))) (List.nil_sublist _) Cells.nil (Quiet.c (Quiet.to (v' := .int .i64 ((min ((fw (way0 N) ((q * 6 + a) * 6 + b)) a b) ((fw (way0 N) ((q * 6 + a) * 6 + b)) a q + (fw (way0 N) ((q * 6 + a) * 6 + b)) q b) : Nat) : Int)) (Q.min2 rfl rfl) (congrArg (Value.int .i64) (by split <;> omega)))) ?_
                refine VA.tk 20 rfl (zb (zttbb (zttbb (zttb (zt ze))))) (List.nil_sublist _) Cells.nil (Quiet.c (Q.indexAddrA ar45 (j := b) rfl rfl rfl hb)) ?_
                refine VA.all (rs := [21]) (by kernel_rfl) (by simp) ?_
                refine VA.forall1 ?_
                ·
                 refine VA.eff rfl ?_
                 refine id (O.store (xs := [.int .i64 ((min ((fw (way0 N) ((q * 6 + a) * 6 + b)) a b) ((fw (way0 N) ((q * 6 + a) * 6 + b)) a q + (fw (way0 N) ((q * 6 + a) * 6 + b)) q b) : Nat) : Int)]) (C := wayC (fw (way0 N) ((q * 6 + a) * 6 + b))) (C' := wayC (upd2 (fw (way0 N) ((q * 6 + a) * 6 + b)) a b (min ((fw (way0 N) ((q * 6 + a) * 6 + b)) a b) ((fw (way0 N) ((q * 6 + a) * 6 + b)) a q + (fw (way0 N) ((q * 6 + a) * 6 + b)) q b)))) ty3 rfl rfl rfl rfl zU (by rw [Nat.mul_one]; exact way_put _ ha hb _) ?_)
                 refine VA.next (List.nil_sublist _) Cells.nil ?_
                 refine VA.done (by kernel_rfl) ?_
                 refine VE.block_normal ?_
                 refine VE.seq ?_
                 refine VC.region ?_
                 refine VL.q (Q.move rfl) ?_
                 refine VL.q ((by first | exact Q.addI rfl rfl (by omega) (by omega) | exact Q.add rfl rfl)) ?_
                 refine VL.q (Q.assign rfl) ?_
                 refine VL.nil ?_
                 refine VE.then_normal ?_
                 rw [fw_step (way0 N) ha hb]
                 exact VE.round (b + 1) (by omega) (by omega) zE (List.Sublist.refl _)
              ·
               refine VA.eff rfl ?_
               refine O.quiet (by decide) (Q.load1 ty3 rfl zM (by rw [Nat.mul_one]; exact way_get (fw (way0 N) ((q * 6 + a) * 6 + b)) hq hb)) ?_
               refine VA.next (List.nil_sublist _) Cells.nil ?_
               refine VA.all (rs := [11]) (by kernel_rfl) (by simp) ?_
               refine VA.forall1 ?_
               ·
                refine VA.eff rfl ?_
                refine O.quiet (by decide) (Q.load1 ty3 rfl zM (by rw [Nat.mul_one]; exact way_get (fw (way0 N) ((q * 6 + a) * 6 + b)) ha hq)) ?_
                refine VA.next (List.nil_sublist _) Cells.nil ?_
                refine VA.tk 17 rfl (zb (zttbb (zttbb (zttb (zt ze))))) (List.nil_sublist _) Cells.nil (Quiet.c ((by first | exact Q.addI rfl rfl (by omega) (by omega) | exact Q.add rfl rfl))) ?_
                refine VA.tk 18 rfl (zb (zttbb (zttbb (zttb (zt ze))))) (List.nil_sublist _) Cells.nil (Quiet.c (Quiet.to (v' := .int .i64 ((min ((fw (way0 N) ((q * 6 + a) * 6 + b)) a b) ((fw (way0 N) ((q * 6 + a) * 6 + b)) a q + (fw (way0 N) ((q * 6 + a) * 6 + b)) q b) : Nat) : Int)) (Q.min2 rfl rfl) (congrArg (Value.int .i64) (by split <;> omega)))) ?_
                refine VA.tk 20 rfl (zb (zttbb (zttbb (zttb (zt ze))))) (List.nil_sublist _) Cells.nil (Quiet.c (Q.indexAddrA ar45 (j := b) rfl rfl rfl hb)) ?_
                refine VA.all (rs := [21]) (by kernel_rfl) (by simp) ?_
                refine VA.forall1 ?_
                ·
                 refine VA.eff rfl ?_
                 refine id (O.store (xs := [.int .i64 ((min ((fw (way0 N) ((q * 6 + a) * 6 + b)) a b) ((fw (way0 N) ((q * 6 + a) * 6 + b)) a q + (fw (way0 N) ((q * 6 + a) * 6 + b)) q b) : Nat) : Int)]) (C := wayC (fw (way0 N) ((q * 6 + a) * 6 + b))) (C' := wayC (upd2 (fw (way0 N) ((q * 6 + a) * 6 + b)) a b (min ((fw (way0 N) ((q * 6 + a) * 6 + b)) a b) ((fw (way0 N) ((q * 6 + a) * 6 + b)) a q + (fw (way0 N) ((q * 6 + a) * 6 + b)) q b)))) ty3 rfl rfl rfl rfl zU (by rw [Nat.mul_one]; exact way_put _ ha hb _) ?_)
                 refine VA.next (List.nil_sublist _) Cells.nil ?_
                 refine VA.done (by kernel_rfl) ?_
                 refine VE.block_normal ?_
                 refine VE.seq ?_
                 refine VC.region ?_
                 refine VL.q (Q.move rfl) ?_
                 refine VL.q ((by first | exact Q.addI rfl rfl (by omega) (by omega) | exact Q.add rfl rfl)) ?_
                 refine VL.q (Q.assign rfl) ?_
                 refine VL.nil ?_
                 refine VE.then_normal ?_
                 rw [fw_step (way0 N) ha hb]
                 exact VE.round (b + 1) (by omega) (by omega) zE (List.Sublist.refl _)
             ·
              refine VA.eff rfl ?_
              refine O.quiet (by decide) (Q.load1 ty3 rfl zM (by rw [Nat.mul_one]; exact way_get (fw (way0 N) ((q * 6 + a) * 6 + b)) ha hq)) ?_
              refine VA.next (List.nil_sublist _) Cells.nil ?_
              refine VA.all (rs := [6, 16]) (by kernel_rfl) (by simp) ?_
              refine VA.forall2 ?_ ?_
              ·
               refine VA.eff rfl ?_
               refine O.quiet (by decide) (Q.load1 ty3 rfl zM (by rw [Nat.mul_one]; exact way_get (fw (way0 N) ((q * 6 + a) * 6 + b)) ha hb)) ?_
               refine VA.next (List.nil_sublist _) Cells.nil ?_
               refine VA.all (rs := [16]) (by kernel_rfl) (by simp) ?_
               refine VA.forall1 ?_
               ·
                refine VA.eff rfl ?_
                refine O.quiet (by decide) (Q.load1 ty3 rfl zM (by rw [Nat.mul_one]; exact way_get (fw (way0 N) ((q * 6 + a) * 6 + b)) hq hb)) ?_
                refine VA.next (List.nil_sublist _) Cells.nil ?_
                refine VA.tk 17 rfl (zb (zttbb (zttbb (zttb (zt ze))))) (List.nil_sublist _) Cells.nil (Quiet.c ((by first | exact Q.addI rfl rfl (by omega) (by omega) | exact Q.add rfl rfl))) ?_
                refine VA.tk 18 rfl (zb (zttbb (zttbb (zttb (zt ze))))) (List.nil_sublist _) Cells.nil (Quiet.c (Quiet.to (v' := .int .i64 ((min ((fw (way0 N) ((q * 6 + a) * 6 + b)) a b) ((fw (way0 N) ((q * 6 + a) * 6 + b)) a q + (fw (way0 N) ((q * 6 + a) * 6 + b)) q b) : Nat) : Int)) (Q.min2 rfl rfl) (congrArg (Value.int .i64) (by split <;> omega)))) ?_
                refine VA.tk 20 rfl (zb (zttbb (zttbb (zttb (zt ze))))) (List.nil_sublist _) Cells.nil (Quiet.c (Q.indexAddrA ar45 (j := b) rfl rfl rfl hb)) ?_
                refine VA.all (rs := [21]) (by kernel_rfl) (by simp) ?_
                refine VA.forall1 ?_
                ·
                 refine VA.eff rfl ?_
                 refine id (O.store (xs := [.int .i64 ((min ((fw (way0 N) ((q * 6 + a) * 6 + b)) a b) ((fw (way0 N) ((q * 6 + a) * 6 + b)) a q + (fw (way0 N) ((q * 6 + a) * 6 + b)) q b) : Nat) : Int)]) (C := wayC (fw (way0 N) ((q * 6 + a) * 6 + b))) (C' := wayC (upd2 (fw (way0 N) ((q * 6 + a) * 6 + b)) a b (min ((fw (way0 N) ((q * 6 + a) * 6 + b)) a b) ((fw (way0 N) ((q * 6 + a) * 6 + b)) a q + (fw (way0 N) ((q * 6 + a) * 6 + b)) q b)))) ty3 rfl rfl rfl rfl zU (by rw [Nat.mul_one]; exact way_put _ ha hb _) ?_)
                 refine VA.next (List.nil_sublist _) Cells.nil ?_
                 refine VA.done (by kernel_rfl) ?_
                 refine VE.block_normal ?_
                 refine VE.seq ?_
                 refine VC.region ?_
                 refine VL.q (Q.move rfl) ?_
                 refine VL.q ((by first | exact Q.addI rfl rfl (by omega) (by omega) | exact Q.add rfl rfl)) ?_
                 refine VL.q (Q.assign rfl) ?_
                 refine VL.nil ?_
                 refine VE.then_normal ?_
                 rw [fw_step (way0 N) ha hb]
                 exact VE.round (b + 1) (by omega) (by omega) zE (List.Sublist.refl _)
              ·
               refine VA.eff rfl ?_
               refine O.quiet (by decide) (Q.load1 ty3 rfl zM (by rw [Nat.mul_one]; exact way_get (fw (way0 N) ((q * 6 + a) * 6 + b)) hq hb)) ?_
               refine VA.next (List.nil_sublist _) Cells.nil ?_
               refine VA.tk 17 rfl (zb (zttbb (zttbb (zttb (zt ze))))) (List.nil_sublist _) Cells.nil (Quiet.c ((by first | exact Q.addI rfl rfl (by omega) (by omega) | exact Q.add rfl rfl))) ?_
               refine VA.all (rs := [6]) (by kernel_rfl) (by simp) ?_
               refine VA.forall1 ?_
               ·
                refine VA.eff rfl ?_
                refine O.quiet (by decide) (Q.load1 ty3 rfl zM (by rw [Nat.mul_one]; exact way_get (fw (way0 N) ((q * 6 + a) * 6 + b)) ha hb)) ?_
                refine VA.next (List.nil_sublist _) Cells.nil ?_
                refine VA.tk 18 rfl (zb (zttbb (zttbb (zttb (zt ze))))) (List.nil_sublist _) Cells.nil (Quiet.c (Quiet.to (v' := .int .i64 ((min ((fw (way0 N) ((q * 6 + a) * 6 + b)) a b) ((fw (way0 N) ((q * 6 + a) * 6 + b)) a q + (fw (way0 N) ((q * 6 + a) * 6 + b)) q b) : Nat) : Int)) (Q.min2 rfl rfl) (congrArg (Value.int .i64) (by split <;> omega)))) ?_
                refine VA.tk 20 rfl (zb (zttbb (zttbb (zttb (zt ze))))) (List.nil_sublist _) Cells.nil (Quiet.c (Q.indexAddrA ar45 (j := b) rfl rfl rfl hb)) ?_
                refine VA.all (rs := [21]) (by kernel_rfl) (by simp) ?_
                refine VA.forall1 ?_
                ·
                 refine VA.eff rfl ?_
                 refine id (O.store (xs := [.int .i64 ((min ((fw (way0 N) ((q * 6 + a) * 6 + b)) a b) ((fw (way0 N) ((q * 6 + a) * 6 + b)) a q + (fw (way0 N) ((q * 6 + a) * 6 + b)) q b) : Nat) : Int)]) (C := wayC (fw (way0 N) ((q * 6 + a) * 6 + b))) (C' := wayC (upd2 (fw (way0 N) ((q * 6 + a) * 6 + b)) a b (min ((fw (way0 N) ((q * 6 + a) * 6 + b)) a b) ((fw (way0 N) ((q * 6 + a) * 6 + b)) a q + (fw (way0 N) ((q * 6 + a) * 6 + b)) q b)))) ty3 rfl rfl rfl rfl zU (by rw [Nat.mul_one]; exact way_put _ ha hb _) ?_)
                 refine VA.next (List.nil_sublist _) Cells.nil ?_
                 refine VA.done (by kernel_rfl) ?_
                 refine VE.block_normal ?_
                 refine VE.seq ?_
                 refine VC.region ?_
                 refine VL.q (Q.move rfl) ?_
                 refine VL.q ((by first | exact Q.addI rfl rfl (by omega) (by omega) | exact Q.add rfl rfl)) ?_
                 refine VL.q (Q.assign rfl) ?_
                 refine VL.nil ?_
                 refine VE.then_normal ?_
                 rw [fw_step (way0 N) ha hb]
                 exact VE.round (b + 1) (by omega) (by omega) zE (List.Sublist.refl _)
             ·
              refine VA.eff rfl ?_
              refine O.quiet (by decide) (Q.load1 ty3 rfl zM (by rw [Nat.mul_one]; exact way_get (fw (way0 N) ((q * 6 + a) * 6 + b)) hq hb)) ?_
              refine VA.next (List.nil_sublist _) Cells.nil ?_
              refine VA.all (rs := [6, 11]) (by kernel_rfl) (by simp) ?_
              refine VA.forall2 ?_ ?_
              ·
               refine VA.eff rfl ?_
               refine O.quiet (by decide) (Q.load1 ty3 rfl zM (by rw [Nat.mul_one]; exact way_get (fw (way0 N) ((q * 6 + a) * 6 + b)) ha hb)) ?_
               refine VA.next (List.nil_sublist _) Cells.nil ?_
               refine VA.all (rs := [11]) (by kernel_rfl) (by simp) ?_
               refine VA.forall1 ?_
               ·
                refine VA.eff rfl ?_
                refine O.quiet (by decide) (Q.load1 ty3 rfl zM (by rw [Nat.mul_one]; exact way_get (fw (way0 N) ((q * 6 + a) * 6 + b)) ha hq)) ?_
                refine VA.next (List.nil_sublist _) Cells.nil ?_
                refine VA.tk 17 rfl (zb (zttbb (zttbb (zttb (zt ze))))) (List.nil_sublist _) Cells.nil (Quiet.c ((by first | exact Q.addI rfl rfl (by omega) (by omega) | exact Q.add rfl rfl))) ?_
                refine VA.tk 18 rfl (zb (zttbb (zttbb (zttb (zt ze))))) (List.nil_sublist _) Cells.nil (Quiet.c (Quiet.to (v' := .int .i64 ((min ((fw (way0 N) ((q * 6 + a) * 6 + b)) a b) ((fw (way0 N) ((q * 6 + a) * 6 + b)) a q + (fw (way0 N) ((q * 6 + a) * 6 + b)) q b) : Nat) : Int)) (Q.min2 rfl rfl) (congrArg (Value.int .i64) (by split <;> omega)))) ?_
                refine VA.tk 20 rfl (zb (zttbb (zttbb (zttb (zt ze))))) (List.nil_sublist _) Cells.nil (Quiet.c (Q.indexAddrA ar45 (j := b) rfl rfl rfl hb)) ?_
                refine VA.all (rs := [21]) (by kernel_rfl) (by simp) ?_
                refine VA.forall1 ?_
                ·
                 refine VA.eff rfl ?_
                 refine id (O.store (xs := [.int .i64 ((min ((fw (way0 N) ((q * 6 + a) * 6 + b)) a b) ((fw (way0 N) ((q * 6 + a) * 6 + b)) a q + (fw (way0 N) ((q * 6 + a) * 6 + b)) q b) : Nat) : Int)]) (C := wayC (fw (way0 N) ((q * 6 + a) * 6 + b))) (C' := wayC (upd2 (fw (way0 N) ((q * 6 + a) * 6 + b)) a b (min ((fw (way0 N) ((q * 6 + a) * 6 + b)) a b) ((fw (way0 N) ((q * 6 + a) * 6 + b)) a q + (fw (way0 N) ((q * 6 + a) * 6 + b)) q b)))) ty3 rfl rfl rfl rfl zU (by rw [Nat.mul_one]; exact way_put _ ha hb _) ?_)
                 refine VA.next (List.nil_sublist _) Cells.nil ?_
                 refine VA.done (by kernel_rfl) ?_
                 refine VE.block_normal ?_
                 refine VE.seq ?_
                 refine VC.region ?_
                 refine VL.q (Q.move rfl) ?_
                 refine VL.q ((by first | exact Q.addI rfl rfl (by omega) (by omega) | exact Q.add rfl rfl)) ?_
                 refine VL.q (Q.assign rfl) ?_
                 refine VL.nil ?_
                 refine VE.then_normal ?_
                 rw [fw_step (way0 N) ha hb]
                 exact VE.round (b + 1) (by omega) (by omega) zE (List.Sublist.refl _)
              ·
               refine VA.eff rfl ?_
               refine O.quiet (by decide) (Q.load1 ty3 rfl zM (by rw [Nat.mul_one]; exact way_get (fw (way0 N) ((q * 6 + a) * 6 + b)) ha hq)) ?_
               refine VA.next (List.nil_sublist _) Cells.nil ?_
               refine VA.tk 17 rfl (zb (zttbb (zttbb (zttb (zt ze))))) (List.nil_sublist _) Cells.nil (Quiet.c ((by first | exact Q.addI rfl rfl (by omega) (by omega) | exact Q.add rfl rfl))) ?_
               refine VA.all (rs := [6]) (by kernel_rfl) (by simp) ?_
               refine VA.forall1 ?_
               ·
                refine VA.eff rfl ?_
                refine O.quiet (by decide) (Q.load1 ty3 rfl zM (by rw [Nat.mul_one]; exact way_get (fw (way0 N) ((q * 6 + a) * 6 + b)) ha hb)) ?_
                refine VA.next (List.nil_sublist _) Cells.nil ?_
                refine VA.tk 18 rfl (zb (zttbb (zttbb (zttb (zt ze))))) (List.nil_sublist _) Cells.nil (Quiet.c (Quiet.to (v' := .int .i64 ((min ((fw (way0 N) ((q * 6 + a) * 6 + b)) a b) ((fw (way0 N) ((q * 6 + a) * 6 + b)) a q + (fw (way0 N) ((q * 6 + a) * 6 + b)) q b) : Nat) : Int)) (Q.min2 rfl rfl) (congrArg (Value.int .i64) (by split <;> omega)))) ?_
                refine VA.tk 20 rfl (zb (zttbb (zttbb (zttb (zt ze))))) (List.nil_sublist _) Cells.nil (Quiet.c (Q.indexAddrA ar45 (j := b) rfl rfl rfl hb)) ?_
                refine VA.all (rs := [21]) (by kernel_rfl) (by simp) ?_
                refine VA.forall1 ?_
                ·
                 refine VA.eff rfl ?_
                 refine id (O.store (xs := [.int .i64 ((min ((fw (way0 N) ((q * 6 + a) * 6 + b)) a b) ((fw (way0 N) ((q * 6 + a) * 6 + b)) a q + (fw (way0 N) ((q * 6 + a) * 6 + b)) q b) : Nat) : Int)]) (C := wayC (fw (way0 N) ((q * 6 + a) * 6 + b))) (C' := wayC (upd2 (fw (way0 N) ((q * 6 + a) * 6 + b)) a b (min ((fw (way0 N) ((q * 6 + a) * 6 + b)) a b) ((fw (way0 N) ((q * 6 + a) * 6 + b)) a q + (fw (way0 N) ((q * 6 + a) * 6 + b)) q b)))) ty3 rfl rfl rfl rfl zU (by rw [Nat.mul_one]; exact way_put _ ha hb _) ?_)
                 refine VA.next (List.nil_sublist _) Cells.nil ?_
                 refine VA.done (by kernel_rfl) ?_
                 refine VE.block_normal ?_
                 refine VE.seq ?_
                 refine VC.region ?_
                 refine VL.q (Q.move rfl) ?_
                 refine VL.q ((by first | exact Q.addI rfl rfl (by omega) (by omega) | exact Q.add rfl rfl)) ?_
                 refine VL.q (Q.assign rfl) ?_
                 refine VL.nil ?_
                 refine VE.then_normal ?_
                 rw [fw_step (way0 N) ha hb]
                 exact VE.round (b + 1) (by omega) (by omega) zE (List.Sublist.refl _)
            ·
             intro h90
             have he : b = 6 := by have := of_decide_eq_false h90; omega
             subst he
             refine VC.exit ?_
             refine VE.then_exit ?_
             refine VE.then_exit ?_
             refine VE.block_here ?_
             refine VE.block_normal ?_
             refine VE.seq ?_
             refine VC.region ?_
             refine VL.q (Q.move rfl) ?_
             refine VL.q ((by first | exact Q.addI rfl rfl (by omega) (by omega) | exact Q.add rfl rfl)) ?_
             refine VL.q (Q.assign rfl) ?_
             refine VL.nil ?_
             refine VE.then_normal ?_
             rw [show (q * 6 + a) * 6 + 6 = (q * 6 + (a + 1)) * 6 from by omega]
             exact VE.round (a + 1) (by omega) (by omega) zE (List.Sublist.refl _)
          ·
           intro h86
           have he : a = 6 := by have := of_decide_eq_false h86; omega
           subst he
           refine VC.exit ?_
           refine VE.then_exit ?_
           refine VE.then_exit ?_
           refine VE.block_here ?_
           refine VE.block_normal ?_
           refine VE.seq ?_
           refine VC.region ?_
           refine VL.q (Q.move rfl) ?_
           refine VL.q ((by first | exact Q.addI rfl rfl (by omega) (by omega) | exact Q.add rfl rfl)) ?_
           refine VL.q (Q.assign rfl) ?_
           refine VL.nil ?_
           refine VE.then_normal ?_
           rw [show (q * 6 + 6) * 6 = 36 * (q + 1) from by omega]
           exact VE.round (q + 1) (by omega) (by omega) zE (List.Sublist.refl _)
        ·
         intro h82
         have he : q = 6 := by have := of_decide_eq_false h82; omega
         subst he
         refine VC.exit ?_
         refine VE.then_exit ?_
         refine VE.then_exit ?_
         refine VE.block_here ?_
         refine VE.seq ?_
         refine VC.seq ?_
         refine VC.seq ?_
         refine VC.region ?_
         refine VL.q (Q.assign rfl) ?_
         refine VL.nil ?_
         refine VE.seq ?_
         refine VC.block ?_
         refine VC.loop (X := Nat) (fun a => [(0, .pointer (some ⟨g, 0, none⟩)), (6, .int .i64 1125899906842624), (7, .pointer (some ⟨g7, 0, none⟩)), (13, .int .i64 (a : Int))]) (fun a => (.blk g7 (wayC (fw (way0 N) 216)) 46 :: mBlk g N F Y3 :: mRow Y3 :: R3)) (fun a => a ≤ 6) (fun a => 6 - a) 0 (Nat.zero_le _) ?_ ?_
         ·
          exact VS.mk zE (by rw [show 36 * 6 = 216 from rfl]; exact zB)
         ·
          intro a ha6
          refine VC.seq ?_
          refine VC.seq ?_
          refine VC.region ?_
          refine VL.q (Q.move rfl) ?_
          refine VL.q (Q.lt rfl rfl) ?_
          refine VL.nil ?_
          refine VE.seq ?_
          refine VC.cond rfl ?_ ?_
          ·
           intro h115
           have ha : a < 6 := by have := of_decide_eq_true h115; omega
           refine VC.skip ?_
           refine VE.seq ?_
           refine VC.seq ?_
           refine VC.block ?_
           refine VC.seq ?_
           refine VC.region ?_
           refine VL.q (Q.move rfl) ?_
           refine VL.q (Q.assign rfl) ?_
           refine VL.nil ?_
           refine VE.seq ?_
           refine VC.seq ?_
           refine VC.seq ?_
           refine VC.region ?_
           refine VL.q (Q.assign rfl) ?_
           refine VL.nil ?_
           refine VE.seq ?_
           refine VC.block ?_
           refine VC.loop (X := Nat) (fun r => [(0, .pointer (some ⟨g, 0, none⟩)), (6, .int .i64 1125899906842624), (7, .pointer (some ⟨g7, 0, none⟩)), (13, .int .i64 (a : Int)), (14, .int .i64 (leastF N a r : Int)), (15, .int .i64 (r : Int))]) (fun r => (.blk g7 (wayC (fw (way0 N) 216)) 46 :: mBlk g N F Y3 :: mRow Y3 :: R3)) (fun r => r ≤ 2) (fun r => 2 - r) 0 (Nat.zero_le _) ?_ ?_
           ·
            exact VS.mk zE (List.Sublist.refl _)
           ·
            intro r hr6
            refine VC.seq ?_
            refine VC.seq ?_
            refine VC.region ?_
            refine VL.q (Q.move rfl) ?_
            refine VL.q (Q.lt rfl rfl) ?_
            refine VL.nil ?_
            refine VE.seq ?_
            refine VC.cond rfl ?_ ?_
            ·
             intro h120
             have hr : r < 2 := by have := of_decide_eq_true h120; omega
             refine VC.skip ?_
             refine VE.seq ?_
             refine VC.seq ?_
             refine VC.block ?_
             refine VC.seq ?_
             refine VC.region ?_
             refine VL.q (Q.move rfl) ?_
             refine VL.q (Q.move rfl) ?_
             refine VL.q (Q.move rfl) ?_
             refine VL.eff (O.call0 ok45 rfl rfl (by decide) (mtree_c g N F Y3 R3 hH3 a r ha hr) (fun _ _ hw => hw.sub (by repeat (first | exact List.Sublist.refl _ | apply List.Sublist.cons))) ?_)
             intro x127 y127
             rcases x127 with _ | t
             ·
              have htr := y127
              have hno : a ≠ r → ¬ (fw (way0 N) 216) a r < far := fun hn hl => by
               have h1 := (hRd.known ha hr).1
               rw [htr] at h1
               simp [hn, hl] at h1
              refine VL.q (Q.move rfl) ?_
              refine VL.q (Q.extract rfl rfl) ?_
              refine VL.q (Q.extract rfl rfl) ?_
              refine VL.eff (O.alloc zo151 (by decide) ?_)
              intro g16
              refine VL.eff (O.store ty151 rfl rfl rfl rfl zU zP ?_)
              refine VL.q (Q.assign rfl) ?_
              refine VL.nil ?_
              refine VE.seq ?_
              refine VC.seq ?_
              refine VC.seq ?_
              refine VA.start (Ls := [.blk g16 [.int .u8 0, .int .u8 0, .int .u8 0, .int .u8 0, .int .u8 0, .int .u8 0, .int .u8 0, .int .u8 0, .int .u8 0, .int .u8 0, .int .u8 0, .int .u8 0, .int .i64 0, .int .i64 0, .int .i64 0, .bool false, .int .i64 0] 151, .blk g7 (wayC (fw (way0 N) 216)) 46, mBlk g N F Y3]) (Cs := []) mixed ?_
              refine VA.tk 0 rfl (zttb (zttb (zt (zb (zttb (zt ze)))))) zB Cells.nil (Quiet.c (Q.move rfl)) ?_
              refine VA.tk 1 rfl (zttb (zttb (zt (zb (zttb (zt ze)))))) zB Cells.nil (Quiet.c (Q.move rfl)) ?_
              refine VA.tk 2 rfl (zttb (zttb (zt (zb (zttb (zt ze)))))) zB Cells.nil (Quiet.c (Q.move rfl)) ?_
              refine VA.tk 3 rfl (zttb (zttb (zt (zb (zttb (zt ze)))))) zB Cells.nil (Quiet.c (Quiet.to (v' := .bool ((a : Int) != (r : Int))) (Q.ne rfl rfl) (by rfl))) ?_
              refine VA.tk 4 rfl (zttb (zttb (zt (zb (zttb (zt ze)))))) zB Cells.nil (Quiet.c (Q.move rfl)) ?_
              refine VK.case 134 rfl ?_ ?_
              ·
               intro h134
               refine VA.takeY 5 rfl rfl rfl (by kernel_rfl) (by kernel_rfl) (by kernel_rfl) (zttb (zttb (zt (zb (zttb (zt ze)))))) zB Cells.nil (by decide) (Quiet.c (Q.move rfl)) ?_
               refine VA.takeY 6 rfl rfl rfl (by kernel_rfl) (by kernel_rfl) (by kernel_rfl) (zttb (zttb (zt (zb (zttb (zt ze)))))) zB Cells.nil (by decide) (Quiet.c (Q.move rfl)) ?_
               refine VA.takeY 7 rfl rfl rfl (by kernel_rfl) (by kernel_rfl) (by kernel_rfl) (zttb (zttb (zt (zb (zttb (zt ze)))))) zB Cells.nil (by decide) (Quiet.c (Q.indexAddrA ar46 (j := a) rfl rfl rfl ha)) ?_
               refine VA.takeY 8 rfl rfl rfl (by kernel_rfl) (by kernel_rfl) (by kernel_rfl) (zttb (zttb (zt (zb (zttb (zt ze)))))) zB Cells.nil (by decide) (Quiet.c (Q.indexAddrA ar45 (j := r) rfl rfl rfl (by omega))) ?_
               refine VA.takeY 9 rfl rfl rfl (by kernel_rfl) (by kernel_rfl) (by kernel_rfl) (zttb (zttb (zt (zb (zttb (zt ze)))))) zB Cells.nil (by decide) (Quiet.c (Q.load1 ty3 rfl zM (by rw [Nat.mul_one]; exact way_get (fw (way0 N) 216) ha (by omega)))) ?_
               refine VA.takeY 10 rfl rfl rfl (by kernel_rfl) (by kernel_rfl) (by kernel_rfl) (zttb (zttb (zt (zb (zttb (zt ze)))))) zB Cells.nil (by decide) (Quiet.c (Q.move rfl)) ?_
               refine VA.takeY 11 rfl rfl rfl (by kernel_rfl) (by kernel_rfl) (by kernel_rfl) (zttb (zttb (zt (zb (zttb (zt ze)))))) zB Cells.nil (by decide) (Quiet.c (Quiet.to (v' := .bool (decide (((fw (way0 N) 216) a r : Int) < 1125899906842624))) (Q.lt rfl rfl) (by rfl))) ?_
               refine VA.tk 12 rfl (zttb (zttb (zt (zb (zttb (zt ze)))))) zB Cells.nil (Quiet.c (Q.pick_true rfl rfl)) ?_
               refine VA.tk 13 rfl (zttb (zttb (zt (zb (zttb (zt ze)))))) zB Cells.nil (Quiet.c (Quiet.to (v' := .bool false) (Q.bne ub4 rfl rfl) (congrArg Value.bool (by rw [decide_eq_false (by have := hno (by intro e; subst e; simp at h134); omega)]; rfl)))) ?_
               refine VA.tk 14 rfl (zttb (zttb (zt (zb (zttb (zt ze)))))) zB Cells.nil (Quiet.c (Q.move rfl)) ?_
               refine VA.takeY 15 rfl rfl rfl (by kernel_rfl) (by kernel_rfl) (by kernel_rfl) (zttb (zttb (zt (zb (zttb (zt ze)))))) zB Cells.nil (by decide) (Quiet.c (Q.move rfl)) ?_
               refine VA.takeY 16 rfl rfl rfl (by kernel_rfl) (by kernel_rfl) (by kernel_rfl) (zttb (zttb (zt (zb (zttb (zt ze)))))) zB Cells.nil (by decide) (Quiet.c (Q.move rfl)) ?_
               refine VA.takeN 17 rfl rfl rfl (.inl rfl) (by kernel_rfl) (by kernel_rfl) (by kernel_rfl) (zttb (zttb (zt (zb (zttb (zt ze)))))) zB Cells.nil (by decide) ?_
               refine VA.takeN 18 rfl rfl rfl (.inl rfl) (by kernel_rfl) (by kernel_rfl) (by kernel_rfl) (zttb (zttb (zt (zb (zttb (zt ze)))))) zB Cells.nil (by decide) ?_
               refine VA.takeN 19 rfl rfl rfl (.inl rfl) (by kernel_rfl) (by kernel_rfl) (by kernel_rfl) (zttb (zttb (zt (zb (zttb (zt ze)))))) zB Cells.nil (by decide) ?_
               refine VA.takeN 20 rfl rfl rfl (.inl rfl) (by kernel_rfl) (by kernel_rfl) (by kernel_rfl) (zttb (zttb (zt (zb (zttb (zt ze)))))) zB Cells.nil (by decide) ?_
               refine VA.takeN 21 rfl rfl rfl (.inl rfl) (by kernel_rfl) (by kernel_rfl) (by kernel_rfl) (zttb (zttb (zt (zb (zttb (zt ze)))))) zB Cells.nil (by decide) ?_
               refine VA.takeN 22 rfl rfl rfl (.inl rfl) (by kernel_rfl) (by kernel_rfl) (by kernel_rfl) (zttb (zttb (zt (zb (zttb (zt ze)))))) zB Cells.nil (by decide) ?_
               refine VA.takeN 23 rfl rfl rfl (.inl rfl) (by kernel_rfl) (by kernel_rfl) (by kernel_rfl) (zttb (zttb (zt (zb (zttb (zt ze)))))) zB Cells.nil (by decide) ?_
               refine VA.takeN 24 rfl rfl rfl (.inl rfl) (by kernel_rfl) (by kernel_rfl) (by kernel_rfl) (zttb (zttb (zt (zb (zttb (zt ze)))))) zB Cells.nil (by decide) ?_
               refine VA.takeN 25 rfl rfl rfl (.inl rfl) (by kernel_rfl) (by kernel_rfl) (by kernel_rfl) (zttb (zttb (zt (zb (zttb (zt ze)))))) zB Cells.nil (by decide) ?_
               refine VA.takeN 26 rfl rfl rfl (.inr rfl) (by kernel_rfl) (by kernel_rfl) (by kernel_rfl) (zttb (zttb (zt (zb (zttb (zt ze)))))) zB Cells.nil (by decide) ?_
               refine VA.takeN 27 rfl rfl rfl (.inr rfl) (by kernel_rfl) (by kernel_rfl) (by kernel_rfl) (zttb (zttb (zt (zb (zttb (zt ze)))))) zB Cells.nil (by decide) ?_
               refine VA.takeN 28 rfl rfl rfl (.inr rfl) (by kernel_rfl) (by kernel_rfl) (by kernel_rfl) (zttb (zttb (zt (zb (zttb (zt ze)))))) zB Cells.nil (by decide) ?_
               refine VA.takeN 29 rfl rfl rfl (.inr rfl) (by kernel_rfl) (by kernel_rfl) (by kernel_rfl) (zttb (zttb (zt (zb (zttb (zt ze)))))) zB Cells.nil (by decide) ?_
               refine VA.takeN 30 rfl rfl rfl (.inr rfl) (by kernel_rfl) (by kernel_rfl) (by kernel_rfl) (zttb (zttb (zt (zb (zttb (zt ze)))))) zB Cells.nil (by decide) ?_
               refine VA.takeN 31 rfl rfl rfl (.inl rfl) (by kernel_rfl) (by kernel_rfl) (by kernel_rfl) (zttb (zttb (zt (zb (zttb (zt ze)))))) zB Cells.nil (by decide) ?_
               refine VA.takeN 32 rfl rfl rfl (.inl rfl) (by kernel_rfl) (by kernel_rfl) (by kernel_rfl) (zttb (zttb (zt (zb (zttb (zt ze)))))) zB Cells.nil (by decide) ?_
               refine VA.takeN 33 rfl rfl rfl (.inr rfl) (by kernel_rfl) (by kernel_rfl) (by kernel_rfl) (zttb (zttb (zt (zb (zttb (zt ze)))))) zB Cells.nil (by decide) ?_
               refine VA.takeN 34 rfl rfl rfl (.inr rfl) (by kernel_rfl) (by kernel_rfl) (by kernel_rfl) (zttb (zttb (zt (zb (zttb (zt ze)))))) zB Cells.nil (by decide) ?_
               refine VA.takeN 35 rfl rfl rfl (.inr rfl) (by kernel_rfl) (by kernel_rfl) (by kernel_rfl) (zttb (zttb (zt (zb (zttb (zt ze)))))) zB Cells.nil (by decide) ?_
               refine VA.takeN 36 rfl rfl rfl (.inr rfl) (by kernel_rfl) (by kernel_rfl) (by kernel_rfl) (zttb (zttb (zt (zb (zttb (zt ze)))))) zB Cells.nil (by decide) ?_
               refine VA.takeN 37 rfl rfl rfl (.inr rfl) (by kernel_rfl) (by kernel_rfl) (by kernel_rfl) (zttb (zttb (zt (zb (zttb (zt ze)))))) zB Cells.nil (by decide) ?_
               refine VA.takeN 38 rfl rfl rfl (.inr rfl) (by kernel_rfl) (by kernel_rfl) (by kernel_rfl) (zttb (zttb (zt (zb (zttb (zt ze)))))) zB Cells.nil (by decide) ?_
               refine VA.takeN 39 rfl rfl rfl (.inr rfl) (by kernel_rfl) (by kernel_rfl) (by kernel_rfl) (zttb (zttb (zt (zb (zttb (zt ze)))))) zB Cells.nil (by decide) ?_
               refine VA.takeN 40 rfl rfl rfl (.inr rfl) (by kernel_rfl) (by kernel_rfl) (by kernel_rfl) (zttb (zttb (zt (zb (zttb (zt ze)))))) zB Cells.nil (by decide) ?_
               refine VA.takeN 41 rfl rfl rfl (.inr rfl) (by kernel_rfl) (by kernel_rfl) (by kernel_rfl) (zttb (zttb (zt (zb (zttb (zt ze)))))) zB Cells.nil (by decide) ?_
               refine VA.takeN 42 rfl rfl rfl (.inr rfl) (by kernel_rfl) (by kernel_rfl) (by kernel_rfl) (zttb (zttb (zt (zb (zttb (zt ze)))))) zB Cells.nil (by decide) ?_
               refine VA.takeN 43 rfl rfl rfl (.inl rfl) (by kernel_rfl) (by kernel_rfl) (by kernel_rfl) (zttb (zttb (zt (zb (zttb (zt ze)))))) zB Cells.nil (by decide) ?_
               refine VA.takeY 44 rfl rfl rfl (by kernel_rfl) (by kernel_rfl) (by kernel_rfl) (zttb (zttb (zt (zb (zttb (zt ze)))))) zB Cells.nil (by decide) (Quiet.c (Q.pick_false rfl rfl)) ?_
               refine VA.tk 45 rfl (zttb (zttb (zt (zb (zttb (zt ze)))))) zB Cells.nil (Quiet.c (Q.pick_false rfl rfl)) ?_
               refine VA.done (by kernel_rfl) ?_
               refine VE.seq ?_
               refine VC.condF rfl ?_
               refine VC.skip ?_
               refine VE.seq ?_
               refine VC.seq ?_
               refine VC.region ?_
               refine VL.q (Q.move rfl) ?_
               refine VL.nil ?_
               refine VE.seq ?_
               refine VC.condF rfl ?_
               refine VC.skip ?_
               refine VE.block_normal ?_
               refine VE.seq ?_
               refine VC.region ?_
               refine VL.q (Q.move rfl) ?_
               refine VL.q ((by first | exact Q.addI rfl rfl (by omega) (by omega) | exact Q.add rfl rfl)) ?_
               refine VL.q (Q.assign rfl) ?_
               refine VL.nil ?_
               refine VE.then_normal ?_
               refine VK.picks (Lin := (.blk g7 (wayC (fw (way0 N) 216)) 46 :: mBlk g N F Y3 :: mRow Y3 :: R3)) zM2 ?_
               have hls : leastF N a r = leastF N a (r + 1) := by show _ = (match N.tree a r with | some t => min (leastF N a r) t.cost | none => leastF N a r); rw [htr]
               rw [hls]
               exact VE.round (r + 1) (by omega) (by omega) zE (List.Sublist.refl _)
              ·
               intro h134
               refine VA.takeN 5 rfl rfl rfl (.inl rfl) (by kernel_rfl) (by kernel_rfl) (by kernel_rfl) (zttb (zttb (zt (zb (zttb (zt ze)))))) zB Cells.nil (by decide) ?_
               refine VA.takeN 6 rfl rfl rfl (.inl rfl) (by kernel_rfl) (by kernel_rfl) (by kernel_rfl) (zttb (zttb (zt (zb (zttb (zt ze)))))) zB Cells.nil (by decide) ?_
               refine VA.takeN 7 rfl rfl rfl (.inl rfl) (by kernel_rfl) (by kernel_rfl) (by kernel_rfl) (zttb (zttb (zt (zb (zttb (zt ze)))))) zB Cells.nil (by decide) ?_
               refine VA.takeN 8 rfl rfl rfl (.inl rfl) (by kernel_rfl) (by kernel_rfl) (by kernel_rfl) (zttb (zttb (zt (zb (zttb (zt ze)))))) zB Cells.nil (by decide) ?_
               refine VA.takeN 9 rfl rfl rfl (.inl rfl) (by kernel_rfl) (by kernel_rfl) (by kernel_rfl) (zttb (zttb (zt (zb (zttb (zt ze)))))) zB Cells.nil (by decide) ?_
               refine VA.takeN 10 rfl rfl rfl (.inl rfl) (by kernel_rfl) (by kernel_rfl) (by kernel_rfl) (zttb (zttb (zt (zb (zttb (zt ze)))))) zB Cells.nil (by decide) ?_
               refine VA.takeN 11 rfl rfl rfl (.inl rfl) (by kernel_rfl) (by kernel_rfl) (by kernel_rfl) (zttb (zttb (zt (zb (zttb (zt ze)))))) zB Cells.nil (by decide) ?_
               refine VA.tk 12 rfl (zttb (zttb (zt (zb (zttb (zt ze)))))) zB Cells.nil (Quiet.c (Q.pick_false rfl rfl)) ?_
               refine VA.tk 13 rfl (zttb (zttb (zt (zb (zttb (zt ze)))))) zB Cells.nil (Quiet.c (Quiet.to (v' := .bool false) (Q.bne ub4 rfl rfl) (by rfl))) ?_
               refine VA.tk 14 rfl (zttb (zttb (zt (zb (zttb (zt ze)))))) zB Cells.nil (Quiet.c (Q.move rfl)) ?_
               refine VA.takeY 15 rfl rfl rfl (by kernel_rfl) (by kernel_rfl) (by kernel_rfl) (zttb (zttb (zt (zb (zttb (zt ze)))))) zB Cells.nil (by decide) (Quiet.c (Q.move rfl)) ?_
               refine VA.takeY 16 rfl rfl rfl (by kernel_rfl) (by kernel_rfl) (by kernel_rfl) (zttb (zttb (zt (zb (zttb (zt ze)))))) zB Cells.nil (by decide) (Quiet.c (Q.move rfl)) ?_
               refine VA.takeN 17 rfl rfl rfl (.inl rfl) (by kernel_rfl) (by kernel_rfl) (by kernel_rfl) (zttb (zttb (zt (zb (zttb (zt ze)))))) zB Cells.nil (by decide) ?_
               refine VA.takeN 18 rfl rfl rfl (.inl rfl) (by kernel_rfl) (by kernel_rfl) (by kernel_rfl) (zttb (zttb (zt (zb (zttb (zt ze)))))) zB Cells.nil (by decide) ?_
               refine VA.takeN 19 rfl rfl rfl (.inl rfl) (by kernel_rfl) (by kernel_rfl) (by kernel_rfl) (zttb (zttb (zt (zb (zttb (zt ze)))))) zB Cells.nil (by decide) ?_
               refine VA.takeN 20 rfl rfl rfl (.inl rfl) (by kernel_rfl) (by kernel_rfl) (by kernel_rfl) (zttb (zttb (zt (zb (zttb (zt ze)))))) zB Cells.nil (by decide) ?_
               refine VA.takeN 21 rfl rfl rfl (.inl rfl) (by kernel_rfl) (by kernel_rfl) (by kernel_rfl) (zttb (zttb (zt (zb (zttb (zt ze)))))) zB Cells.nil (by decide) ?_
               refine VA.takeN 22 rfl rfl rfl (.inl rfl) (by kernel_rfl) (by kernel_rfl) (by kernel_rfl) (zttb (zttb (zt (zb (zttb (zt ze)))))) zB Cells.nil (by decide) ?_
               refine VA.takeN 23 rfl rfl rfl (.inl rfl) (by kernel_rfl) (by kernel_rfl) (by kernel_rfl) (zttb (zttb (zt (zb (zttb (zt ze)))))) zB Cells.nil (by decide) ?_
               refine VA.takeN 24 rfl rfl rfl (.inl rfl) (by kernel_rfl) (by kernel_rfl) (by kernel_rfl) (zttb (zttb (zt (zb (zttb (zt ze)))))) zB Cells.nil (by decide) ?_
               refine VA.takeN 25 rfl rfl rfl (.inl rfl) (by kernel_rfl) (by kernel_rfl) (by kernel_rfl) (zttb (zttb (zt (zb (zttb (zt ze)))))) zB Cells.nil (by decide) ?_
               refine VA.takeN 26 rfl rfl rfl (.inr rfl) (by kernel_rfl) (by kernel_rfl) (by kernel_rfl) (zttb (zttb (zt (zb (zttb (zt ze)))))) zB Cells.nil (by decide) ?_
               refine VA.takeN 27 rfl rfl rfl (.inr rfl) (by kernel_rfl) (by kernel_rfl) (by kernel_rfl) (zttb (zttb (zt (zb (zttb (zt ze)))))) zB Cells.nil (by decide) ?_
               refine VA.takeN 28 rfl rfl rfl (.inr rfl) (by kernel_rfl) (by kernel_rfl) (by kernel_rfl) (zttb (zttb (zt (zb (zttb (zt ze)))))) zB Cells.nil (by decide) ?_
               refine VA.takeN 29 rfl rfl rfl (.inr rfl) (by kernel_rfl) (by kernel_rfl) (by kernel_rfl) (zttb (zttb (zt (zb (zttb (zt ze)))))) zB Cells.nil (by decide) ?_
               refine VA.takeN 30 rfl rfl rfl (.inr rfl) (by kernel_rfl) (by kernel_rfl) (by kernel_rfl) (zttb (zttb (zt (zb (zttb (zt ze)))))) zB Cells.nil (by decide) ?_
               refine VA.takeN 31 rfl rfl rfl (.inl rfl) (by kernel_rfl) (by kernel_rfl) (by kernel_rfl) (zttb (zttb (zt (zb (zttb (zt ze)))))) zB Cells.nil (by decide) ?_
               refine VA.takeN 32 rfl rfl rfl (.inl rfl) (by kernel_rfl) (by kernel_rfl) (by kernel_rfl) (zttb (zttb (zt (zb (zttb (zt ze)))))) zB Cells.nil (by decide) ?_
               refine VA.takeN 33 rfl rfl rfl (.inr rfl) (by kernel_rfl) (by kernel_rfl) (by kernel_rfl) (zttb (zttb (zt (zb (zttb (zt ze)))))) zB Cells.nil (by decide) ?_
               refine VA.takeN 34 rfl rfl rfl (.inr rfl) (by kernel_rfl) (by kernel_rfl) (by kernel_rfl) (zttb (zttb (zt (zb (zttb (zt ze)))))) zB Cells.nil (by decide) ?_
               refine VA.takeN 35 rfl rfl rfl (.inr rfl) (by kernel_rfl) (by kernel_rfl) (by kernel_rfl) (zttb (zttb (zt (zb (zttb (zt ze)))))) zB Cells.nil (by decide) ?_
               refine VA.takeN 36 rfl rfl rfl (.inr rfl) (by kernel_rfl) (by kernel_rfl) (by kernel_rfl) (zttb (zttb (zt (zb (zttb (zt ze)))))) zB Cells.nil (by decide) ?_
               refine VA.takeN 37 rfl rfl rfl (.inr rfl) (by kernel_rfl) (by kernel_rfl) (by kernel_rfl) (zttb (zttb (zt (zb (zttb (zt ze)))))) zB Cells.nil (by decide) ?_
               refine VA.takeN 38 rfl rfl rfl (.inr rfl) (by kernel_rfl) (by kernel_rfl) (by kernel_rfl) (zttb (zttb (zt (zb (zttb (zt ze)))))) zB Cells.nil (by decide) ?_
               refine VA.takeN 39 rfl rfl rfl (.inr rfl) (by kernel_rfl) (by kernel_rfl) (by kernel_rfl) (zttb (zttb (zt (zb (zttb (zt ze)))))) zB Cells.nil (by decide) ?_
               refine VA.takeN 40 rfl rfl rfl (.inr rfl) (by kernel_rfl) (by kernel_rfl) (by kernel_rfl) (zttb (zttb (zt (zb (zttb (zt ze)))))) zB Cells.nil (by decide) ?_
               refine VA.takeN 41 rfl rfl rfl (.inr rfl) (by kernel_rfl) (by kernel_rfl) (by kernel_rfl) (zttb (zttb (zt (zb (zttb (zt ze)))))) zB Cells.nil (by decide) ?_
               refine VA.takeN 42 rfl rfl rfl (.inr rfl) (by kernel_rfl) (by kernel_rfl) (by kernel_rfl) (zttb (zttb (zt (zb (zttb (zt ze)))))) zB Cells.nil (by decide) ?_
               refine VA.takeN 43 rfl rfl rfl (.inl rfl) (by kernel_rfl) (by kernel_rfl) (by kernel_rfl) (zttb (zttb (zt (zb (zttb (zt ze)))))) zB Cells.nil (by decide) ?_
               refine VA.takeY 44 rfl rfl rfl (by kernel_rfl) (by kernel_rfl) (by kernel_rfl) (zttb (zttb (zt (zb (zttb (zt ze)))))) zB Cells.nil (by decide) (Quiet.c (Q.pick_false rfl rfl)) ?_
               refine VA.tk 45 rfl (zttb (zttb (zt (zb (zttb (zt ze)))))) zB Cells.nil (Quiet.c (Q.pick_false rfl rfl)) ?_
               refine VA.done (by kernel_rfl) ?_
               refine VE.seq ?_
               refine VC.condF rfl ?_
               refine VC.skip ?_
               refine VE.seq ?_
               refine VC.seq ?_
               refine VC.region ?_
               refine VL.q (Q.move rfl) ?_
               refine VL.nil ?_
               refine VE.seq ?_
               refine VC.condF rfl ?_
               refine VC.skip ?_
               refine VE.block_normal ?_
               refine VE.seq ?_
               refine VC.region ?_
               refine VL.q (Q.move rfl) ?_
               refine VL.q ((by first | exact Q.addI rfl rfl (by omega) (by omega) | exact Q.add rfl rfl)) ?_
               refine VL.q (Q.assign rfl) ?_
               refine VL.nil ?_
               refine VE.then_normal ?_
               refine VK.picks (Lin := (.blk g7 (wayC (fw (way0 N) 216)) 46 :: mBlk g N F Y3 :: mRow Y3 :: R3)) zM2 ?_
               have hls : leastF N a r = leastF N a (r + 1) := by show _ = (match N.tree a r with | some t => min (leastF N a r) t.cost | none => leastF N a r); rw [htr]
               rw [hls]
               exact VE.round (r + 1) (by omega) (by omega) zE (List.Sublist.refl _)
             ·
              have htr := y127
              have h1 := (hRd.known ha hr).1
              rw [htr] at h1
              have h2 := (hRd.known ha hr).2 t htr
              have har : a ≠ r := fun e => by simp [e] at h1
              have hlt2 : (fw (way0 N) 216) a r < far := by simpa [har] using h1
              have hcst := h2.1
              have hsq := h2.2
              refine VL.q (Q.move rfl) ?_
              refine VL.q (Q.extract rfl rfl) ?_
              refine VL.q (Q.extract rfl rfl) ?_
              refine VL.eff (O.alloc zo151 (by decide) ?_)
              intro g16
              refine VL.eff (O.store ty151 rfl rfl rfl rfl zU zP ?_)
              refine VL.q (Q.assign rfl) ?_
              refine VL.nil ?_
              refine VE.seq ?_
              refine VC.seq ?_
              refine VC.seq ?_
              refine VA.start (Ls := [.blk g16 [.int .u8 2, .int .u8 0, .int .u8 0, .int .u8 0, .int .u8 2, .int .u8 (r : Int), .int .u8 2, .int .u8 0, .int .u8 0, .int .u8 0, .int .u8 2, .int .u8 (t.parent : Int), .int .i64 (t.seq : Int), .int .i64 (t.hops : Int), .int .i64 (t.cost : Int), .bool (decide (r = 0)), .int .i64 (t.till : Int)] 151, .blk g7 (wayC (fw (way0 N) 216)) 46, mBlk g N F Y3]) (Cs := []) mixed ?_
              refine VA.tk 0 rfl (zttb (zttb (zt (zb (zttb (zt ze)))))) zB Cells.nil (Quiet.c (Q.move rfl)) ?_
              refine VA.tk 1 rfl (zttb (zttb (zt (zb (zttb (zt ze)))))) zB Cells.nil (Quiet.c (Q.move rfl)) ?_
              refine VA.tk 2 rfl (zttb (zttb (zt (zb (zttb (zt ze)))))) zB Cells.nil (Quiet.c (Q.move rfl)) ?_
              refine VA.tk 3 rfl (zttb (zttb (zt (zb (zttb (zt ze)))))) zB Cells.nil (Quiet.c (Quiet.to (v' := .bool true) (Q.ne rfl rfl) (congrArg Value.bool (by simp; omega)))) ?_
              refine VA.tk 4 rfl (zttb (zttb (zt (zb (zttb (zt ze)))))) zB Cells.nil (Quiet.c (Q.move rfl)) ?_
              refine VA.takeY 5 rfl rfl rfl (by kernel_rfl) (by kernel_rfl) (by kernel_rfl) (zttb (zttb (zt (zb (zttb (zt ze)))))) zB Cells.nil (by decide) (Quiet.c (Q.move rfl)) ?_
              refine VA.takeY 6 rfl rfl rfl (by kernel_rfl) (by kernel_rfl) (by kernel_rfl) (zttb (zttb (zt (zb (zttb (zt ze)))))) zB Cells.nil (by decide) (Quiet.c (Q.move rfl)) ?_
              refine VA.takeY 7 rfl rfl rfl (by kernel_rfl) (by kernel_rfl) (by kernel_rfl) (zttb (zttb (zt (zb (zttb (zt ze)))))) zB Cells.nil (by decide) (Quiet.c (Q.indexAddrA ar46 (j := a) rfl rfl rfl ha)) ?_
              refine VA.takeY 8 rfl rfl rfl (by kernel_rfl) (by kernel_rfl) (by kernel_rfl) (zttb (zttb (zt (zb (zttb (zt ze)))))) zB Cells.nil (by decide) (Quiet.c (Q.indexAddrA ar45 (j := r) rfl rfl rfl (by omega))) ?_
              refine VA.takeY 9 rfl rfl rfl (by kernel_rfl) (by kernel_rfl) (by kernel_rfl) (zttb (zttb (zt (zb (zttb (zt ze)))))) zB Cells.nil (by decide) (Quiet.c (Q.load1 ty3 rfl zM (by rw [Nat.mul_one]; exact way_get (fw (way0 N) 216) ha (by omega)))) ?_
              refine VA.takeY 10 rfl rfl rfl (by kernel_rfl) (by kernel_rfl) (by kernel_rfl) (zttb (zttb (zt (zb (zttb (zt ze)))))) zB Cells.nil (by decide) (Quiet.c (Q.move rfl)) ?_
              refine VA.takeY 11 rfl rfl rfl (by kernel_rfl) (by kernel_rfl) (by kernel_rfl) (zttb (zttb (zt (zb (zttb (zt ze)))))) zB Cells.nil (by decide) (Quiet.c (Quiet.to (v' := .bool (decide (((fw (way0 N) 216) a r : Int) < 1125899906842624))) (Q.lt rfl rfl) (by rfl))) ?_
              refine VA.tk 12 rfl (zttb (zttb (zt (zb (zttb (zt ze)))))) zB Cells.nil (Quiet.c (Q.pick_true rfl rfl)) ?_
              refine VA.tk 13 rfl (zttb (zttb (zt (zb (zttb (zt ze)))))) zB Cells.nil (Quiet.c (Quiet.to (v' := .bool false) (Q.bne ub4 rfl rfl) (congrArg Value.bool (by rw [decide_eq_true (by omega)]; rfl)))) ?_
              refine VA.tk 14 rfl (zttb (zttb (zt (zb (zttb (zt ze)))))) zB Cells.nil (Quiet.c (Q.move rfl)) ?_
              refine VA.takeY 15 rfl rfl rfl (by kernel_rfl) (by kernel_rfl) (by kernel_rfl) (zttb (zttb (zt (zb (zttb (zt ze)))))) zB Cells.nil (by decide) (Quiet.c (Q.move rfl)) ?_
              refine VA.takeY 16 rfl rfl rfl (by kernel_rfl) (by kernel_rfl) (by kernel_rfl) (zttb (zttb (zt (zb (zttb (zt ze)))))) zB Cells.nil (by decide) (Quiet.c (Q.move rfl)) ?_
              refine VA.takeY 17 rfl rfl rfl (by kernel_rfl) (by kernel_rfl) (by kernel_rfl) (zttb (zttb (zt (zb (zttb (zt ze)))))) zB Cells.nil (by decide) (Quiet.c (Q.fieldAddr fa151_4 rfl)) ?_
              refine VA.takeY 18 rfl rfl rfl (by kernel_rfl) (by kernel_rfl) (by kernel_rfl) (zttb (zttb (zt (zb (zttb (zt ze)))))) zB Cells.nil (by decide) (Quiet.c (Q.load1 ty3 rfl zM rfl)) ?_
              refine VA.takeY 19 rfl rfl rfl (by kernel_rfl) (by kernel_rfl) (by kernel_rfl) (zttb (zttb (zt (zb (zttb (zt ze)))))) zB Cells.nil (by decide) (Quiet.c (Q.move rfl)) ?_
              refine VA.takeY 20 rfl rfl rfl (by kernel_rfl) (by kernel_rfl) (by kernel_rfl) (zttb (zttb (zt (zb (zttb (zt ze)))))) zB Cells.nil (by decide) (Quiet.c (Q.move rfl)) ?_
              refine VA.takeY 21 rfl rfl rfl (by kernel_rfl) (by kernel_rfl) (by kernel_rfl) (zttb (zttb (zt (zb (zttb (zt ze)))))) zB Cells.nil (by decide) (Quiet.c (Q.indexAddrA ar46 (j := a) rfl rfl rfl ha)) ?_
              refine VA.takeY 22 rfl rfl rfl (by kernel_rfl) (by kernel_rfl) (by kernel_rfl) (zttb (zttb (zt (zb (zttb (zt ze)))))) zB Cells.nil (by decide) (Quiet.c (Q.indexAddrA ar45 (j := r) rfl rfl rfl (by omega))) ?_
              refine VA.takeY 23 rfl rfl rfl (by kernel_rfl) (by kernel_rfl) (by kernel_rfl) (zttb (zttb (zt (zb (zttb (zt ze)))))) zB Cells.nil (by decide) (Quiet.c (Q.load1 ty3 rfl zM (by rw [Nat.mul_one]; exact way_get (fw (way0 N) 216) ha (by omega)))) ?_
              refine VA.takeY 24 rfl rfl rfl (by kernel_rfl) (by kernel_rfl) (by kernel_rfl) (zttb (zttb (zt (zb (zttb (zt ze)))))) zB Cells.nil (by decide) (Quiet.c (Quiet.to (v' := .bool false) (Q.ne rfl rfl) (neF (by omega)))) ?_
              refine VA.takeY 25 rfl rfl rfl (by kernel_rfl) (by kernel_rfl) (by kernel_rfl) (zttb (zttb (zt (zb (zttb (zt ze)))))) zB Cells.nil (by decide) (Quiet.c (Q.move rfl)) ?_
              refine VA.takeY 26 rfl rfl rfl (by kernel_rfl) (by kernel_rfl) (by kernel_rfl) (zttb (zttb (zt (zb (zttb (zt ze)))))) zB Cells.nil (by decide) (Quiet.c (Q.fieldAddr fa151_5 rfl)) ?_
              refine VA.takeY 27 rfl rfl rfl (by kernel_rfl) (by kernel_rfl) (by kernel_rfl) (zttb (zttb (zt (zb (zttb (zt ze)))))) zB Cells.nil (by decide) (Quiet.c (Q.load1 ty4 rfl zM rfl)) ?_
              refine VA.takeY 28 rfl rfl rfl (by kernel_rfl) (by kernel_rfl) (by kernel_rfl) (zttb (zttb (zt (zb (zttb (zt ze)))))) zB Cells.nil (by decide) (Quiet.c (Q.move rfl)) ?_
              refine VA.takeY 29 rfl rfl rfl (by kernel_rfl) (by kernel_rfl) (by kernel_rfl) (zttb (zttb (zt (zb (zttb (zt ze)))))) zB Cells.nil (by decide) (Quiet.c (Q.eq rfl rfl)) ?_
              refine VA.takeY 30 rfl rfl rfl (by kernel_rfl) (by kernel_rfl) (by kernel_rfl) (zttb (zttb (zt (zb (zttb (zt ze)))))) zB Cells.nil (by decide) (Quiet.c (Quiet.to (v' := .bool false) (Q.bne ub4 rfl rfl) (congrArg Value.bool (by rcases (show r = 0 ∨ r = 1 by omega) with e | e <;> subst e <;> rfl)))) ?_
              refine VA.takeY 31 rfl rfl rfl (by kernel_rfl) (by kernel_rfl) (by kernel_rfl) (zttb (zttb (zt (zb (zttb (zt ze)))))) zB Cells.nil (by decide) (Quiet.c (Q.pick_false rfl rfl)) ?_
              refine VA.takeY 32 rfl rfl rfl (by kernel_rfl) (by kernel_rfl) (by kernel_rfl) (zttb (zttb (zt (zb (zttb (zt ze)))))) zB Cells.nil (by decide) (Quiet.c (Q.move rfl)) ?_
              refine VA.takeY 33 rfl rfl rfl (by kernel_rfl) (by kernel_rfl) (by kernel_rfl) (zttb (zttb (zt (zb (zttb (zt ze)))))) zB Cells.nil (by decide) (Quiet.c (Q.fieldAddr fa151_2 rfl)) ?_
              refine VA.takeY 34 rfl rfl rfl (by kernel_rfl) (by kernel_rfl) (by kernel_rfl) (zttb (zttb (zt (zb (zttb (zt ze)))))) zB Cells.nil (by decide) (Quiet.c (Q.load1 ty3 rfl zM rfl)) ?_
              refine VA.takeY 35 rfl rfl rfl (by kernel_rfl) (by kernel_rfl) (by kernel_rfl) (zttb (zttb (zt (zb (zttb (zt ze)))))) zB Cells.nil (by decide) (Quiet.c (Q.move rfl)) ?_
              refine VA.takeY 36 rfl rfl rfl (by kernel_rfl) (by kernel_rfl) (by kernel_rfl) (zttb (zttb (zt (zb (zttb (zt ze)))))) zB Cells.nil (by decide) (Quiet.c (Q.move rfl)) ?_
              refine VA.takeY 37 rfl rfl rfl (by kernel_rfl) (by kernel_rfl) (by kernel_rfl) (zttb (zttb (zt (zb (zttb (zt ze)))))) zB Cells.nil (by decide) (Quiet.c (Q.nilCheck rfl)) ?_
              refine VA.takeY 38 rfl rfl rfl (by kernel_rfl) (by kernel_rfl) (by kernel_rfl) (zttb (zttb (zt (zb (zttb (zt ze)))))) zB Cells.nil (by decide) (Quiet.c (Q.fieldAddr fa59_1 rfl)) ?_
              refine VA.takeY 39 rfl rfl rfl (by kernel_rfl) (by kernel_rfl) (by kernel_rfl) (zttb (zttb (zt (zb (zttb (zt ze)))))) zB Cells.nil (by decide) (Quiet.c (Q.indexAddrA ar51 (j := r) rfl rfl rfl (by omega))) ?_
              refine VA.takeY 40 rfl rfl rfl (by kernel_rfl) (by kernel_rfl) (by kernel_rfl) (zttb (zttb (zt (zb (zttb (zt ze)))))) zB Cells.nil (by decide) (Quiet.c (Q.fieldAddr fa50_3 rfl)) ?_
              refine VA.takeY 41 rfl rfl rfl (by kernel_rfl) (by kernel_rfl) (by kernel_rfl) (zttb (zttb (zt (zb (zttb (zt ze)))))) zB Cells.nil (by decide) (Quiet.c (Q.load1 ty3 rfl zM ((mesh_root N F Y3 (show r < 6 by omega)).spec.2 8 _ rfl))) ?_
              refine VA.takeY 42 rfl rfl rfl (by kernel_rfl) (by kernel_rfl) (by kernel_rfl) (zttb (zttb (zt (zb (zttb (zt ze)))))) zB Cells.nil (by decide) (Quiet.c (Quiet.to (v' := .bool false) (Q.ne rfl rfl) (neF (by omega)))) ?_
              refine VA.takeY 43 rfl rfl rfl (by kernel_rfl) (by kernel_rfl) (by kernel_rfl) (zttb (zttb (zt (zb (zttb (zt ze)))))) zB Cells.nil (by decide) (Quiet.c (Q.pick_false rfl rfl)) ?_
              refine VA.takeY 44 rfl rfl rfl (by kernel_rfl) (by kernel_rfl) (by kernel_rfl) (zttb (zttb (zt (zb (zttb (zt ze)))))) zB Cells.nil (by decide) (Quiet.c (Q.pick_true rfl rfl)) ?_
              refine VA.tk 45 rfl (zttb (zttb (zt (zb (zttb (zt ze)))))) zB Cells.nil (Quiet.c (Q.pick_false rfl rfl)) ?_
              refine VA.done (by kernel_rfl) ?_
              refine VE.seq ?_
              refine VC.condF rfl ?_
              refine VC.skip ?_
              refine VE.seq ?_
              refine VC.seq ?_
              refine VC.region ?_
              refine VL.q (Q.move rfl) ?_
              refine VL.nil ?_
              refine VE.seq ?_
              refine VC.condT rfl ?_
              refine VC.region ?_
              refine VL.q (Q.move rfl) ?_
              refine VL.q (Q.fieldAddr fa151_4 rfl) ?_
              refine VL.q (Q.load1 ty3 rfl zM rfl) ?_
              refine VL.quietE (v' := .int .i64 ((min (leastF N a r) t.cost : Nat) : Int)) (by decide) (Q.min2 rfl rfl) (congrArg (Value.int .i64) (by split <;> omega)) ?_
              refine VL.q (Q.assign rfl) ?_
              refine VL.nil ?_
              refine VE.block_normal ?_
              refine VE.seq ?_
              refine VC.region ?_
              refine VL.q (Q.move rfl) ?_
              refine VL.q ((by first | exact Q.addI rfl rfl (by omega) (by omega) | exact Q.add rfl rfl)) ?_
              refine VL.q (Q.assign rfl) ?_
              refine VL.nil ?_
              refine VE.then_normal ?_
              refine VK.picks (Lin := (.blk g7 (wayC (fw (way0 N) 216)) 46 :: mBlk g N F Y3 :: mRow Y3 :: R3)) zM2 ?_
              have hls : min (leastF N a r) t.cost = leastF N a (r + 1) := by show _ = (match N.tree a r with | some t => min (leastF N a r) t.cost | none => leastF N a r); rw [htr]
              rw [hls]
              exact VE.round (r + 1) (by omega) (by omega) zE (List.Sublist.refl _)
            ·
             intro h120
             have he : r = 2 := by have := of_decide_eq_false h120; omega
             subst he
             refine VC.exit ?_
             refine VE.then_exit ?_
             refine VE.then_exit ?_
             refine VE.block_here ?_
             refine VE.seq ?_
             refine VC.seq ?_
             refine VC.region ?_
             refine VL.q (Q.move rfl) ?_
             refine VL.q (Q.move rfl) ?_
             refine VL.q (Q.nilCheck rfl) ?_
             refine VL.q (Q.fieldAddr fa59_1 rfl) ?_
             refine VL.q (Q.indexAddrA ar51 (j := a) rfl rfl rfl ha) ?_
             refine VL.q (Q.loadA (xs := rootC N Y3 a) ty50 rfl zM (mesh_root N F Y3 ha)) ?_
             refine VL.eff (O.call0 ok51 rfl rfl (by decide) (best1_c hRd.inv hk2 a (N.rseq a) (Y3.tv a).1 (Y3.tv a).2 ha (N.tree a) rfl (by have := hRd.inv.rs a; omega)) (fun _ _ hw => Rd.row hw (by repeat (first | exact (hH3.tr a ha) | apply List.Mem.tail))) ?_)
             intro x188 y188
             rcases x188 with _ | q1
             ·
              have hbl : leastF N a 2 = far := y188
              refine VL.q (Q.move rfl) ?_
              refine VL.q (Q.extract rfl rfl) ?_
              refine VL.q (Q.extract rfl rfl) ?_
              refine VL.eff (O.alloc zo151 (by decide) ?_)
              intro g18
              refine VL.eff (O.store ty151 rfl rfl rfl rfl zU zP ?_)
              refine VL.q (Q.assign rfl) ?_
              refine VL.nil ?_
              refine VE.seq ?_
              refine VC.seq ?_
              refine VC.region ?_
              refine VL.q (Q.move rfl) ?_
              refine VL.q (Q.move rfl) ?_
              refine VL.q (Q.nilCheck rfl) ?_
              refine VL.q (Q.fieldAddr fa59_1 rfl) ?_
              refine VL.q (Q.indexAddrA ar51 (j := a) rfl rfl rfl ha) ?_
              refine VL.q (Q.loadA (xs := rootC N Y3 a) ty50 rfl zM (mesh_root N F Y3 ha)) ?_
              refine VL.eff (O.call0 ok51 rfl rfl (by decide) (best0_c hRd.inv hk2 a (N.rseq a) (Y3.tv a).1 (Y3.tv a).2 ha (N.tree a) rfl (by have := hRd.inv.rs a; omega)) (fun _ _ hw => Rd.row hw (by repeat (first | exact (hH3.tr a ha) | apply List.Mem.tail))) ?_)
              intro x198 y198
              rcases x198 with _ | tb
              ·
               have hb0 := y198
               refine VL.q (Q.move rfl) ?_
               refine VL.q (Q.extract rfl rfl) ?_
               refine VL.q (Q.extract rfl rfl) ?_
               refine VL.eff (O.alloc zo151 (by decide) ?_)
               intro g20
               refine VL.eff (O.store ty151 rfl rfl rfl rfl zU zP ?_)
               refine VL.q (Q.assign rfl) ?_
               refine VL.nil ?_
               refine VE.seq ?_
               refine VC.seq ?_
               refine VC.region ?_
               refine VL.q (Q.move rfl) ?_
               refine VL.q (Q.move rfl) ?_
               refine VL.eff (O.call0 ok45 rfl rfl (by decide) (mtree_c g N F Y3 R3 hH3 a 0 ha (by decide)) (fun _ _ hw => hw.sub (by repeat (first | exact List.Sublist.refl _ | apply List.Sublist.cons))) ?_)
               intro x204 y204
               rcases x204 with _ | t0
               ·
                refine VL.q (Q.move rfl) ?_
                refine VL.q (Q.extract rfl rfl) ?_
                refine VL.q (Q.extract rfl rfl) ?_
                refine VL.eff (O.alloc zo151 (by decide) ?_)
                intro g22
                refine VL.eff (O.store ty151 rfl rfl rfl rfl zU zP ?_)
                refine VL.q (Q.assign rfl) ?_
                refine VL.nil ?_
                refine VE.seq ?_
                refine VC.seq ?_
                refine VC.region ?_
                refine VL.q (Q.move rfl) ?_
                refine VL.q (Q.move rfl) ?_
                refine VL.q (Q.move rfl) ?_
                refine VL.q (Q.lt rfl rfl) ?_
                refine VL.quietE (v' := .bool false) (by decide) (Q.bne ub4 rfl rfl) (congrArg Value.bool (by rw [decide_eq_false (by omega)]; rfl)) ?_
                refine VL.q (Q.move rfl) ?_
                refine VL.yes rfl rfl ?_
                refine VL.q (Q.move rfl) ?_
                refine VL.yes rfl rfl ?_
                refine VL.q (Q.move rfl) ?_
                refine VL.no (by simp) rfl rfl (.inl rfl) ?_
                refine VL.no (by simp) rfl rfl (.inl rfl) ?_
                refine VL.no (by simp) rfl rfl (.inl rfl) ?_
                refine VL.no (by simp) rfl rfl (.inl rfl) ?_
                refine VL.yes rfl rfl ?_
                refine VL.quietE (v' := .bool false) (by decide) (Q.pick_false rfl rfl) (by rfl) ?_
                refine VL.quietE (v' := .bool false) (by decide) (Q.pick_false rfl rfl) (by rfl) ?_
                refine VL.q (Q.move rfl) ?_
                refine VL.yes rfl rfl ?_
                refine VL.q (Q.move rfl) ?_
                refine VL.yes rfl rfl ?_
                refine VL.q (Q.move rfl) ?_
                refine VL.yes rfl rfl ?_
                refine VL.quietE (v' := .bool false) (by decide) (Q.bne ub4 rfl rfl) (by rfl) ?_
                refine VL.quietE (v' := .bool false) (by decide) (Q.pick_false rfl rfl) (by rfl) ?_
                refine VL.q (Q.move rfl) ?_
                refine VL.yes rfl rfl ?_
                refine VL.q (Q.loadA ty151 rfl zM zS) ?_
                refine VL.yes rfl rfl ?_
                refine VL.q (Q.loadA ty151 rfl zM zS) ?_
                refine VL.yes rfl rfl ?_
                refine VL.quietE (v' := .bool false) (by decide) (Q.neS flt151 (by decide) ty151 eg151 rfl rfl rfl rfl) (congrArg (fun b => Value.bool (!b)) (vsEq_refl _ rfl)) ?_
                refine VL.quietE (v' := .bool false) (by decide) (Q.pick_false rfl rfl) (by rfl) ?_
                refine VL.nil ?_
                refine VE.seq ?_
                refine VC.condF rfl ?_
                refine VC.skip ?_
                refine VE.block_normal ?_
                refine VE.seq ?_
                refine VC.region ?_
                refine VL.q (Q.move rfl) ?_
                refine VL.q ((by first | exact Q.addI rfl rfl (by omega) (by omega) | exact Q.add rfl rfl)) ?_
                refine VL.q (Q.assign rfl) ?_
                refine VL.nil ?_
                refine VE.then_normal ?_
                refine VK.picks (Lin := (.blk g7 (wayC (fw (way0 N) 216)) 46 :: mBlk g N F Y3 :: mRow Y3 :: R3)) zM2 ?_
                exact VE.round (a + 1) (by omega) (by omega) zE (List.Sublist.refl _)
               ·
                have h204 := y204
                rw [hb0] at h204
                cases h204
              ·
               have hb0 := y198
               refine VL.q (Q.move rfl) ?_
               refine VL.q (Q.extract rfl rfl) ?_
               refine VL.q (Q.extract rfl rfl) ?_
               refine VL.eff (O.alloc zo151 (by decide) ?_)
               intro g20
               refine VL.eff (O.store ty151 rfl rfl rfl rfl zU zP ?_)
               refine VL.q (Q.assign rfl) ?_
               refine VL.nil ?_
               refine VE.seq ?_
               refine VC.seq ?_
               refine VC.region ?_
               refine VL.q (Q.move rfl) ?_
               refine VL.q (Q.move rfl) ?_
               refine VL.eff (O.call0 ok45 rfl rfl (by decide) (mtree_c g N F Y3 R3 hH3 a 0 ha (by decide)) (fun _ _ hw => hw.sub (by repeat (first | exact List.Sublist.refl _ | apply List.Sublist.cons))) ?_)
               intro x204 y204
               rcases x204 with _ | t0
               ·
                have h204 := y204
                rw [hb0] at h204
                cases h204
               ·
                have h204 := y204
                rw [hb0] at h204
                cases h204
                refine VL.q (Q.move rfl) ?_
                refine VL.q (Q.extract rfl rfl) ?_
                refine VL.q (Q.extract rfl rfl) ?_
                refine VL.eff (O.alloc zo151 (by decide) ?_)
                intro g22
                refine VL.eff (O.store ty151 rfl rfl rfl rfl zU zP ?_)
                refine VL.q (Q.assign rfl) ?_
                refine VL.nil ?_
                refine VE.seq ?_
                refine VC.seq ?_
                refine VC.region ?_
                refine VL.q (Q.move rfl) ?_
                refine VL.q (Q.move rfl) ?_
                refine VL.q (Q.move rfl) ?_
                refine VL.q (Q.lt rfl rfl) ?_
                refine VL.quietE (v' := .bool false) (by decide) (Q.bne ub4 rfl rfl) (congrArg Value.bool (by rw [decide_eq_false (by omega)]; rfl)) ?_
                refine VL.q (Q.move rfl) ?_
                refine VL.yes rfl rfl ?_
                refine VL.q (Q.move rfl) ?_
                refine VL.yes rfl rfl ?_
                refine VL.q (Q.move rfl) ?_
                refine VL.no (by simp) rfl rfl (.inl rfl) ?_
                refine VL.no (by simp) rfl rfl (.inl rfl) ?_
                refine VL.no (by simp) rfl rfl (.inl rfl) ?_
                refine VL.no (by simp) rfl rfl (.inl rfl) ?_
                refine VL.yes rfl rfl ?_
                refine VL.quietE (v' := .bool false) (by decide) (Q.pick_false rfl rfl) (by rfl) ?_
                refine VL.quietE (v' := .bool false) (by decide) (Q.pick_false rfl rfl) (by rfl) ?_
                refine VL.q (Q.move rfl) ?_
                refine VL.yes rfl rfl ?_
                refine VL.q (Q.move rfl) ?_
                refine VL.yes rfl rfl ?_
                refine VL.q (Q.move rfl) ?_
                refine VL.yes rfl rfl ?_
                refine VL.quietE (v' := .bool false) (by decide) (Q.bne ub4 rfl rfl) (by rfl) ?_
                refine VL.quietE (v' := .bool false) (by decide) (Q.pick_false rfl rfl) (by rfl) ?_
                refine VL.q (Q.move rfl) ?_
                refine VL.yes rfl rfl ?_
                refine VL.q (Q.loadA ty151 rfl zM zS) ?_
                refine VL.yes rfl rfl ?_
                refine VL.q (Q.loadA ty151 rfl zM zS) ?_
                refine VL.yes rfl rfl ?_
                refine VL.quietE (v' := .bool false) (by decide) (Q.neS flt151 (by decide) ty151 eg151 rfl rfl rfl rfl) (congrArg (fun b => Value.bool (!b)) (vsEq_refl _ rfl)) ?_
                refine VL.quietE (v' := .bool false) (by decide) (Q.pick_false rfl rfl) (by rfl) ?_
                refine VL.nil ?_
                refine VE.seq ?_
                refine VC.condF rfl ?_
                refine VC.skip ?_
                refine VE.block_normal ?_
                refine VE.seq ?_
                refine VC.region ?_
                refine VL.q (Q.move rfl) ?_
                refine VL.q ((by first | exact Q.addI rfl rfl (by omega) (by omega) | exact Q.add rfl rfl)) ?_
                refine VL.q (Q.assign rfl) ?_
                refine VL.nil ?_
                refine VE.then_normal ?_
                refine VK.picks (Lin := (.blk g7 (wayC (fw (way0 N) 216)) 46 :: mBlk g N F Y3 :: mRow Y3 :: R3)) zM2 ?_
                exact VE.round (a + 1) (by omega) (by omega) zE (List.Sublist.refl _)
             ·
              have hbc := (y188).1
              have hbl := (y188).2
              refine VL.q (Q.move rfl) ?_
              refine VL.q (Q.extract rfl rfl) ?_
              refine VL.q (Q.extract rfl rfl) ?_
              refine VL.eff (O.alloc zo151 (by decide) ?_)
              intro g18
              refine VL.eff (O.store ty151 rfl rfl rfl rfl zU zP ?_)
              refine VL.q (Q.assign rfl) ?_
              refine VL.nil ?_
              refine VE.seq ?_
              refine VC.seq ?_
              refine VC.region ?_
              refine VL.q (Q.move rfl) ?_
              refine VL.q (Q.move rfl) ?_
              refine VL.q (Q.nilCheck rfl) ?_
              refine VL.q (Q.fieldAddr fa59_1 rfl) ?_
              refine VL.q (Q.indexAddrA ar51 (j := a) rfl rfl rfl ha) ?_
              refine VL.q (Q.loadA (xs := rootC N Y3 a) ty50 rfl zM (mesh_root N F Y3 ha)) ?_
              refine VL.eff (O.call0 ok51 rfl rfl (by decide) (best0_c hRd.inv hk2 a (N.rseq a) (Y3.tv a).1 (Y3.tv a).2 ha (N.tree a) rfl (by have := hRd.inv.rs a; omega)) (fun _ _ hw => Rd.row hw (by repeat (first | exact (hH3.tr a ha) | apply List.Mem.tail))) ?_)
              intro x198 y198
              rcases x198 with _ | tb
              ·
               have hb0 := y198
               refine VL.q (Q.move rfl) ?_
               refine VL.q (Q.extract rfl rfl) ?_
               refine VL.q (Q.extract rfl rfl) ?_
               refine VL.eff (O.alloc zo151 (by decide) ?_)
               intro g20
               refine VL.eff (O.store ty151 rfl rfl rfl rfl zU zP ?_)
               refine VL.q (Q.assign rfl) ?_
               refine VL.nil ?_
               refine VE.seq ?_
               refine VC.seq ?_
               refine VC.region ?_
               refine VL.q (Q.move rfl) ?_
               refine VL.q (Q.move rfl) ?_
               refine VL.eff (O.call0 ok45 rfl rfl (by decide) (mtree_c g N F Y3 R3 hH3 a 0 ha (by decide)) (fun _ _ hw => hw.sub (by repeat (first | exact List.Sublist.refl _ | apply List.Sublist.cons))) ?_)
               intro x204 y204
               rcases x204 with _ | t0
               ·
                refine VL.q (Q.move rfl) ?_
                refine VL.q (Q.extract rfl rfl) ?_
                refine VL.q (Q.extract rfl rfl) ?_
                refine VL.eff (O.alloc zo151 (by decide) ?_)
                intro g22
                refine VL.eff (O.store ty151 rfl rfl rfl rfl zU zP ?_)
                refine VL.q (Q.assign rfl) ?_
                refine VL.nil ?_
                refine VE.seq ?_
                refine VC.seq ?_
                refine VC.region ?_
                refine VL.q (Q.move rfl) ?_
                refine VL.q (Q.move rfl) ?_
                refine VL.q (Q.move rfl) ?_
                refine VL.q (Q.lt rfl rfl) ?_
                refine VL.quietE (v' := .bool false) (by decide) (Q.bne ub4 rfl rfl) (congrArg Value.bool (by rw [decide_eq_true (by omega)]; rfl)) ?_
                refine VL.q (Q.move rfl) ?_
                refine VL.yes rfl rfl ?_
                refine VL.q (Q.move rfl) ?_
                refine VL.yes rfl rfl ?_
                refine VL.q (Q.move rfl) ?_
                refine VL.yes rfl rfl ?_
                refine VL.q (Q.fieldAddr fa151_4 rfl) ?_
                refine VL.yes rfl rfl ?_
                refine VL.q (Q.load1 ty3 rfl zM rfl) ?_
                refine VL.yes rfl rfl ?_
                refine VL.q (Q.move rfl) ?_
                refine VL.yes rfl rfl ?_
                refine VL.quietE (v' := .bool false) (by decide) (Q.ne rfl rfl) (neF (by omega)) ?_
                refine VL.yes rfl rfl ?_
                refine VL.quietE (v' := .bool false) (by decide) (Q.pick_true rfl rfl) (by rfl) ?_
                refine VL.quietE (v' := .bool false) (by decide) (Q.pick_false rfl rfl) (by rfl) ?_
                refine VL.q (Q.move rfl) ?_
                refine VL.yes rfl rfl ?_
                refine VL.q (Q.move rfl) ?_
                refine VL.yes rfl rfl ?_
                refine VL.q (Q.move rfl) ?_
                refine VL.yes rfl rfl ?_
                refine VL.quietE (v' := .bool false) (by decide) (Q.bne ub4 rfl rfl) (by rfl) ?_
                refine VL.quietE (v' := .bool false) (by decide) (Q.pick_false rfl rfl) (by rfl) ?_
                refine VL.q (Q.move rfl) ?_
                refine VL.yes rfl rfl ?_
                refine VL.q (Q.loadA ty151 rfl zM zS) ?_
                refine VL.yes rfl rfl ?_
                refine VL.q (Q.loadA ty151 rfl zM zS) ?_
                refine VL.yes rfl rfl ?_
                refine VL.quietE (v' := .bool false) (by decide) (Q.neS flt151 (by decide) ty151 eg151 rfl rfl rfl rfl) (congrArg (fun b => Value.bool (!b)) (vsEq_refl _ rfl)) ?_
                refine VL.quietE (v' := .bool false) (by decide) (Q.pick_false rfl rfl) (by rfl) ?_
                refine VL.nil ?_
                refine VE.seq ?_
                refine VC.condF rfl ?_
                refine VC.skip ?_
                refine VE.block_normal ?_
                refine VE.seq ?_
                refine VC.region ?_
                refine VL.q (Q.move rfl) ?_
                refine VL.q ((by first | exact Q.addI rfl rfl (by omega) (by omega) | exact Q.add rfl rfl)) ?_
                refine VL.q (Q.assign rfl) ?_
                refine VL.nil ?_
                refine VE.then_normal ?_
                refine VK.picks (Lin := (.blk g7 (wayC (fw (way0 N) 216)) 46 :: mBlk g N F Y3 :: mRow Y3 :: R3)) zM2 ?_
                exact VE.round (a + 1) (by omega) (by omega) zE (List.Sublist.refl _)
               ·
                have h204 := y204
                rw [hb0] at h204
                cases h204
              ·
               have hb0 := y198
               refine VL.q (Q.move rfl) ?_
               refine VL.q (Q.extract rfl rfl) ?_
               refine VL.q (Q.extract rfl rfl) ?_
               refine VL.eff (O.alloc zo151 (by decide) ?_)
               intro g20
               refine VL.eff (O.store ty151 rfl rfl rfl rfl zU zP ?_)
               refine VL.q (Q.assign rfl) ?_
               refine VL.nil ?_
               refine VE.seq ?_
               refine VC.seq ?_
               refine VC.region ?_
               refine VL.q (Q.move rfl) ?_
               refine VL.q (Q.move rfl) ?_
               refine VL.eff (O.call0 ok45 rfl rfl (by decide) (mtree_c g N F Y3 R3 hH3 a 0 ha (by decide)) (fun _ _ hw => hw.sub (by repeat (first | exact List.Sublist.refl _ | apply List.Sublist.cons))) ?_)
               intro x204 y204
               rcases x204 with _ | t0
               ·
                have h204 := y204
                rw [hb0] at h204
                cases h204
               ·
                have h204 := y204
                rw [hb0] at h204
                cases h204
                refine VL.q (Q.move rfl) ?_
                refine VL.q (Q.extract rfl rfl) ?_
                refine VL.q (Q.extract rfl rfl) ?_
                refine VL.eff (O.alloc zo151 (by decide) ?_)
                intro g22
                refine VL.eff (O.store ty151 rfl rfl rfl rfl zU zP ?_)
                refine VL.q (Q.assign rfl) ?_
                refine VL.nil ?_
                refine VE.seq ?_
                refine VC.seq ?_
                refine VC.region ?_
                refine VL.q (Q.move rfl) ?_
                refine VL.q (Q.move rfl) ?_
                refine VL.q (Q.move rfl) ?_
                refine VL.q (Q.lt rfl rfl) ?_
                refine VL.quietE (v' := .bool false) (by decide) (Q.bne ub4 rfl rfl) (congrArg Value.bool (by rw [decide_eq_true (by omega)]; rfl)) ?_
                refine VL.q (Q.move rfl) ?_
                refine VL.yes rfl rfl ?_
                refine VL.q (Q.move rfl) ?_
                refine VL.yes rfl rfl ?_
                refine VL.q (Q.move rfl) ?_
                refine VL.yes rfl rfl ?_
                refine VL.q (Q.fieldAddr fa151_4 rfl) ?_
                refine VL.yes rfl rfl ?_
                refine VL.q (Q.load1 ty3 rfl zM rfl) ?_
                refine VL.yes rfl rfl ?_
                refine VL.q (Q.move rfl) ?_
                refine VL.yes rfl rfl ?_
                refine VL.quietE (v' := .bool false) (by decide) (Q.ne rfl rfl) (neF (by omega)) ?_
                refine VL.yes rfl rfl ?_
                refine VL.quietE (v' := .bool false) (by decide) (Q.pick_true rfl rfl) (by rfl) ?_
                refine VL.quietE (v' := .bool false) (by decide) (Q.pick_false rfl rfl) (by rfl) ?_
                refine VL.q (Q.move rfl) ?_
                refine VL.yes rfl rfl ?_
                refine VL.q (Q.move rfl) ?_
                refine VL.yes rfl rfl ?_
                refine VL.q (Q.move rfl) ?_
                refine VL.yes rfl rfl ?_
                refine VL.quietE (v' := .bool false) (by decide) (Q.bne ub4 rfl rfl) (by rfl) ?_
                refine VL.quietE (v' := .bool false) (by decide) (Q.pick_false rfl rfl) (by rfl) ?_
                refine VL.q (Q.move rfl) ?_
                refine VL.yes rfl rfl ?_
                refine VL.q (Q.loadA ty151 rfl zM zS) ?_
                refine VL.yes rfl rfl ?_
                refine VL.q (Q.loadA ty151 rfl zM zS) ?_
                refine VL.yes rfl rfl ?_
                refine VL.quietE (v' := .bool false) (by decide) (Q.neS flt151 (by decide) ty151 eg151 rfl rfl rfl rfl) (congrArg (fun b => Value.bool (!b)) (vsEq_refl _ rfl)) ?_
                refine VL.quietE (v' := .bool false) (by decide) (Q.pick_false rfl rfl) (by rfl) ?_
                refine VL.nil ?_
                refine VE.seq ?_
                refine VC.condF rfl ?_
                refine VC.skip ?_
                refine VE.block_normal ?_
                refine VE.seq ?_
                refine VC.region ?_
                refine VL.q (Q.move rfl) ?_
                refine VL.q ((by first | exact Q.addI rfl rfl (by omega) (by omega) | exact Q.add rfl rfl)) ?_
                refine VL.q (Q.assign rfl) ?_
                refine VL.nil ?_
                refine VE.then_normal ?_
                refine VK.picks (Lin := (.blk g7 (wayC (fw (way0 N) 216)) 46 :: mBlk g N F Y3 :: mRow Y3 :: R3)) zM2 ?_
                exact VE.round (a + 1) (by omega) (by omega) zE (List.Sublist.refl _)
          ·
           intro h115
           refine VC.exit ?_
           refine VE.then_exit ?_
           refine VE.then_exit ?_
           refine VE.block_here ?_
           refine VE.seq ?_
           refine VC.seq ?_
           refine VC.region ?_
           refine VL.q (Q.assign rfl) ?_
           refine VL.q (Q.assign rfl) ?_
           refine VL.nil ?_
           refine VE.seq ?_
           refine VC.ret ?_
           refine VK.picks (Lin := mBlk g N F Y3 :: mRow Y3 :: R3) zM2 ?_
           exact VE.ret rfl (.tmp rfl (.tmp rfl .nil)) (true, (N, (Y3, R3))) ⟨hRd.inv, hH3, hFN, hl3⟩ rfl (List.Sublist.refl _)

end Go.Proofs.YtencghlmckbmlaaGreat
