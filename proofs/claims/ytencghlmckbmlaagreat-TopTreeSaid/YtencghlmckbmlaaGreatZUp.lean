/- The contract of sending a frame up the mesh. Conditions: those that it bears. -/
import Derived.Test.YtencghlmckbmlaaGreatRows
import Derived.Test.YtencghlmckbmlaaGreatZUp1
namespace Go.Proofs.YtencghlmckbmlaaGreat
open Go Go.RowKit Go.Sx
set_option maxRecDepth 100000

theorem ok45 : okFunc Tryz.prog 45 = true := by kernel_rfl
theorem ok46 : okFunc Tryz.prog 46 = true := by kernel_rfl
theorem ok48 : okFunc Tryz.prog 48 = true := by kernel_rfl
theorem ok49 : okFunc Tryz.prog 49 = true := by kernel_rfl

open Go.Mesh
theorem mupwards_c (g : Nat) (M : Core) (F : Fwd) (Y : Lay) (R : List Rs) (k : Nat) (hI : Inv k M) (hk : k ≤ 1000) (hH : Held M F Y R) (hml : Y.mail.length ≤ 1000000) (n : Nat) (hF : FInv n M F) (hn : n ≤ 118) (i r : Nat) (hi : i < 6) (hr : r < 2) (p : Option Addr) (m c : Nat) (l : List UInt8) (hl : l.length = m) (hm : m ≤ 100) :
  Does Tryz.prog 11 [.pointer (some ⟨g, 0, none⟩), .int .i64 (i : Int), .int .i64 (r : Int), .agg #[.int .u8 2, .int .u8 9, .int .u8 9, .int .u8 9, .int .u8 9, .int .u8 9], .slice p m c] (mBlk g M F Y :: mRow Y :: R) (fun W => Rd W p (bs l) ∧ ∀ x, p = some x → x.block ∉ List.flatMap Rs.ids (mBlk g M F Y :: mRow Y :: R)) (X := Fwd × (Lay × List Rs)) (fun x => FInv (n + 1) M x.1 ∧ Held M x.1 x.2.1 x.2.2) (fun _ => .bool true) (fun x => mBlk g M x.1 x.2.1 :: mRow x.2.1 :: x.2.2) := by
 have hF1 := setF_inv hI hF hr 6
 have hmk : (i, F.fseq i) ∉ F.seen i := fun hm => by have := (hF.sn i hi _ hm).2; dsimp only at this; omega
 refine Does.enter Tryz.func11 rfl (m := 200) rfl (by simp) ?_
 rintro W0 ⟨hro, hdis⟩
 refine VC.seq ?_
 refine VC.region ?_
 refine VL.eff (O.box rfl rfl (by decide) ?_)
 intro g8
 refine VL.q (Q.assign rfl) ?_
 refine VL.nil ?_
 refine VE.seq ?_
 refine VC.seq ?_
 refine VC.seq ?_
 refine VC.region ?_
 refine VL.q (Q.move rfl) ?_
 refine VL.q (Q.move rfl) ?_
 refine VL.q (Q.eq rfl rfl) ?_
 refine VL.nil ?_
 refine VE.seq ?_
 refine VC.cond rfl ?_ ?_
 ·
  intro h35
  refine VC.seq ?_
  refine VC.region ?_
  refine VL.q (Q.assign rfl) ?_
  refine VL.nil ?_
  refine VE.seq ?_
  refine VC.ret ?_
  refine VE.then_ret ?_
  refine VK.picks (Lin := mBlk g M F Y :: mRow Y :: R) zM2 ?_
  exact VE.ret rfl (.tmp rfl .nil) (F, (Y, R)) ⟨hF.mono (by omega), hH⟩ rfl (List.Sublist.refl _)
 ·
  intro h35
  have hir : i ≠ r := fun e => by rw [e] at h35; simp at h35
  refine VC.skip ?_
  refine VE.seq ?_
  refine VC.seq ?_
  refine VC.seq ?_
  refine VC.region ?_
  refine VL.q (Q.assign rfl) ?_
  refine VL.nil ?_
  refine VE.seq ?_
  refine VC.block ?_
  refine VC.loop (X := Nat × (Lay × List Rs)) (fun x => [(0, .pointer (some ⟨g, 0, none⟩)), (1, .int .i64 (i : Int)), (2, .int .i64 (r : Int)), (4, .slice p m c), (8, .pointer (some ⟨g8, 0, none⟩)), (11, .int .i64 (x.1 : Int))]) (fun x => (.blk g8 [.int .u8 2, .int .u8 9, .int .u8 9, .int .u8 9, .int .u8 9, .int .u8 9] 44 :: mBlk g M (setF M F r x.1) x.2.1 :: mRow x.2.1 :: x.2.2)) (fun x => x.1 ≤ 6 ∧ Held M (setF M F r x.1) x.2.1 x.2.2) (fun x => 6 - x.1) (0, (Y, R)) ⟨Nat.zero_le _, by rw [setF_zero]; exact hH⟩ ?_ ?_
  ·
   exact VS.mk zE (by simp only [setF_zero]; exact zB)
  ·
   intro x hx
   obtain ⟨hx6, hHx⟩ := hx
   refine VC.seq ?_
   refine VC.seq ?_
   refine VC.region ?_
   refine VL.q (Q.move rfl) ?_
   refine VL.q (Q.lt rfl rfl) ?_
   refine VL.nil ?_
   refine VE.seq ?_
   refine VC.cond rfl ?_ ?_
   ·
    intro h37
    have hlt : x.1 < 6 := by have := of_decide_eq_true h37; omega
    refine VC.skip ?_
    refine VE.seq ?_
    refine VC.seq ?_
    refine VC.block ?_
    refine VC.seq ?_
    refine VC.region ?_
    refine VL.q (Q.move rfl) ?_
    refine VL.q (Q.move rfl) ?_
    refine VL.q (Q.move rfl) ?_
    refine VL.eff (O.call0 ok45 rfl rfl (by decide) (mtree_c g M (setF M F r x.1) x.2.1 x.2.2 hHx x.1 r hlt hr) (fun _ _ hw => hw.sub (by repeat (first | exact List.Sublist.refl _ | apply List.Sublist.cons))) ?_)
    intro x44 y44
    rcases x44 with _ | t
    ·
     have htr := y44
     refine VL.q (Q.move rfl) ?_
     refine VL.q (Q.extract rfl rfl) ?_
     refine VL.q (Q.extract rfl rfl) ?_
     refine VL.eff (O.alloc zo151 (by decide) ?_)
     intro g12
     refine VL.eff (O.store ty151 rfl rfl rfl rfl zU zP ?_)
     refine VL.q (Q.assign rfl) ?_
     refine VL.nil ?_
     refine VE.seq ?_
     refine VC.seq ?_
     refine VC.seq ?_
     refine VC.region ?_
     refine VL.q (Q.move rfl) ?_
     refine VL.quietE (v' := .bool true) (by decide) (Q.not rfl) (by rfl) ?_
     refine VL.nil ?_
     refine VE.seq ?_
     refine VC.condT rfl ?_
     refine VC.exit ?_
     refine VE.then_exit ?_
     refine VE.block_here ?_
     refine VE.seq ?_
     refine VC.region ?_
     refine VL.q (Q.move rfl) ?_
     refine VL.q ((by first | exact Q.addI rfl rfl (by omega) (by omega) | exact Q.add rfl rfl)) ?_
     refine VL.q (Q.assign rfl) ?_
     refine VL.nil ?_
     refine VE.then_normal ?_
     refine VK.picks (Lin := .blk g8 [.int .u8 2, .int .u8 9, .int .u8 9, .int .u8 9, .int .u8 9, .int .u8 9] 44 :: mBlk g M (setF M F r x.1) x.2.1 :: mRow x.2.1 :: x.2.2) zM2 ?_
     rw [← setF_none htr]
     exact VE.round (x.1 + 1, x.2) ⟨by omega, by rw [setF_none htr]; exact hHx⟩ (by omega) zE (List.Sublist.refl _)
    ·
     have htr := y44
     have ho := hI.tree x.1 hlt r hr t htr
     have hpn : t.parent ≠ x.1 := fun e => by have := ho.edge; rw [e, hI.cdiag] at this; omega
     have hpar := ho.par
     refine VL.q (Q.move rfl) ?_
     refine VL.q (Q.extract rfl rfl) ?_
     refine VL.q (Q.extract rfl rfl) ?_
     refine VL.eff (O.alloc zo151 (by decide) ?_)
     intro g12
     refine VL.eff (O.store ty151 rfl rfl rfl rfl zU zP ?_)
     refine VL.q (Q.assign rfl) ?_
     refine VL.nil ?_
     refine VE.seq ?_
     refine VC.seq ?_
     refine VC.seq ?_
     refine VC.region ?_
     refine VL.q (Q.move rfl) ?_
     refine VL.quietE (v' := .bool false) (by decide) (Q.not rfl) (by rfl) ?_
     refine VL.nil ?_
     refine VE.seq ?_
     refine VC.condF rfl ?_
     refine VC.skip ?_
     refine VE.seq ?_
     refine VC.seq ?_
     refine VA.start (Ls := [.blk g12 [.int .u8 2, .int .u8 0, .int .u8 0, .int .u8 0, .int .u8 2, .int .u8 (r : Int), .int .u8 2, .int .u8 0, .int .u8 0, .int .u8 0, .int .u8 2, .int .u8 (t.parent : Int), .int .i64 (t.seq : Int), .int .i64 (t.hops : Int), .int .i64 (t.cost : Int), .bool (decide (r = 0)), .int .i64 (t.till : Int)] 151, mBlk g M (setF M F r x.1) x.2.1]) (Cs := []) mixed ?_
     refine VA.tk 0 rfl (Still.then (Still.block (Still.then (Still.then (Still.block (Still.then Still.body)))))) zB Cells.nil (Quiet.c (Q.move rfl)) ?_
     refine VA.tk 1 rfl (Still.then (Still.block (Still.then (Still.then (Still.block (Still.then Still.body)))))) zB Cells.nil (Quiet.c (Q.move rfl)) ?_
     refine VA.tk 2 rfl (Still.then (Still.block (Still.then (Still.then (Still.block (Still.then Still.body)))))) zB Cells.nil (Quiet.c (Q.nilCheck rfl)) ?_
     refine VA.tk 3 rfl (Still.then (Still.block (Still.then (Still.then (Still.block (Still.then Still.body)))))) zB Cells.nil (Quiet.c (Q.fieldAddr fa59_2 rfl)) ?_
     refine VA.tk 4 rfl (Still.then (Still.block (Still.then (Still.then (Still.block (Still.then Still.body)))))) zB Cells.nil (Quiet.c (Q.indexAddrA ar56 (j := x.1) rfl rfl rfl hlt)) ?_
     refine VA.tk 5 rfl (Still.then (Still.block (Still.then (Still.then (Still.block (Still.then Still.body)))))) zB Cells.nil (Quiet.c (Q.loadA (xs := fwdC (setF M F r x.1) x.2.1 x.1) ty55 rfl zM (mesh_fwd M (setF M F r x.1) x.2.1 hlt))) ?_
     refine VA.tk 6 rfl (Still.then (Still.block (Still.then (Still.then (Still.block (Still.then Still.body)))))) zB Cells.nil (Quiet.c (Q.move rfl)) ?_
     refine VA.tk 8 rfl (Still.then (Still.block (Still.then (Still.then (Still.block (Still.then Still.body)))))) zB Cells.nil (Quiet.c (Q.fieldAddr fa151_1 rfl)) ?_
     refine VA.tk 9 rfl (Still.then (Still.block (Still.then (Still.then (Still.block (Still.then Still.body)))))) zB Cells.nil (Quiet.c (Q.loadA ty44 rfl zM zS)) ?_
     refine VA.all (rs := [7, 14]) (by kernel_rfl) (by simp) ?_
     refine VA.forall2 ?_ ?_
     ·
      refine VA.eff rfl ?_
      refine id (O.call0 ok35 rfl rfl (by decide) (nodeOf_c r (by omega)) (fun _ _ _ => trivial) ?_)
      intro x57 y57
      refine VA.next zB Cells.nil ?_
      refine VA.all (rs := [10, 14]) (by kernel_rfl) (by simp) ?_
      refine VA.forall2 ?_ ?_
      ·
       refine VA.eff rfl ?_
       refine id (O.call0 ok46 rfl rfl (by decide) (setnext2_c x.1 (F.fseq x.1) (x.2.1.sv x.1) (F.seen x.1) (x.2.1.nv x.1) (setN M F r x.1 x.1) ((setF_inv hI hF hr x.1).ok (by omega) hlt) (hHx.sc x.1 hlt) r t.parent hr (fun e => ho.ne e.symm) hpn) (fun _ _ hw => ⟨Rd.row hw (by repeat (first | exact (hHx.sn x.1 hlt) | apply List.Mem.tail)), Rd.row hw (by repeat (first | exact (hHx.nx x.1 hlt) | apply List.Mem.tail))⟩) ?_)
       intro x60 y60
       obtain ⟨q1, q2⟩ := x60
       have hq1 : (F.seen x.1).length ≤ q1.2 := y60
       refine VA.next zB Cells.nil ?_
       refine VA.tk 11 rfl (Still.then (Still.block (Still.then (Still.then (Still.block (Still.then Still.body)))))) zB Cells.nil (Quiet.c (Q.move rfl)) ?_
       refine VA.tk 12 rfl (Still.then (Still.block (Still.then (Still.then (Still.block (Still.then Still.body)))))) zB Cells.nil (Quiet.c (Q.extract rfl rfl)) ?_
       refine VA.tk 13 rfl (Still.then (Still.block (Still.then (Still.then (Still.block (Still.then Still.body)))))) zB Cells.nil (Quiet.c (Q.extract rfl rfl)) ?_
       refine VA.all (rs := [14]) (by kernel_rfl) (by simp) ?_
       refine VA.forall1 ?_
       ·
        refine VA.eff rfl ?_
        refine id (O.alloc zo55 (by decide) ?_)
        intro g14
        refine VA.next zB Cells.nil ?_
        refine VA.all (rs := [15]) (by kernel_rfl) (by simp) ?_
        refine VA.forall1 ?_
        ·
         refine VA.eff rfl ?_
         refine id (O.store ty55 rfl rfl rfl rfl zU zP ?_)
         refine VA.next zB Cells.nil ?_
         refine VA.tk 16 rfl (Still.then (Still.block (Still.then (Still.then (Still.block (Still.then Still.body)))))) zB Cells.nil (Quiet.c (Q.assign rfl)) ?_
         refine VA.done (by kernel_rfl) ?_
         refine VE.seq ?_
         refine VC.seq ?_
         refine VC.seq ?_
         refine VC.region ?_
         refine VL.q (Q.move rfl) ?_
         refine VL.quietE (v' := .bool false) (by decide) (Q.ne rfl rfl) (by rfl) ?_
         refine VL.nil ?_
         refine VE.seq ?_
         refine VC.condF rfl ?_
         refine VC.skip ?_
         refine VE.seq ?_
         refine VA.start (Ls := [.blk g14 [.int .u8 2, .int .u8 0, .int .u8 0, .int .u8 0, .int .u8 2, .int .u8 (x.1 : Int), .int .i64 ((F.fseq x.1) : Int), .slice q1.1 (F.seen x.1).length q1.2, .slice q2.1 (lst (upd (setN M F r x.1 x.1) r (some t.parent))).length q2.2] 55]) (Cs := []) mixed ?_
         refine VA.tk 0 rfl (Still.block (Still.then (Still.then (Still.block (Still.then Still.body))))) (List.singleton_sublist.2 zM) Cells.nil (Quiet.c (Q.move rfl)) ?_
         refine VA.tk 1 rfl (Still.block (Still.then (Still.then (Still.block (Still.then Still.body))))) (List.singleton_sublist.2 zM) Cells.nil (Quiet.c (Q.move rfl)) ?_
         refine VA.tk 2 rfl (Still.block (Still.then (Still.then (Still.block (Still.then Still.body))))) (List.singleton_sublist.2 zM) Cells.nil (Quiet.c (Q.loadA ty55 rfl zM zS)) ?_
         refine VA.tk 3 rfl (Still.block (Still.then (Still.then (Still.block (Still.then Still.body))))) (List.singleton_sublist.2 zM) Cells.nil (Quiet.c (Q.nilCheck rfl)) ?_
         refine VA.tk 4 rfl (Still.block (Still.then (Still.then (Still.block (Still.then Still.body))))) (List.singleton_sublist.2 zM) Cells.nil (Quiet.c (Q.fieldAddr fa59_2 rfl)) ?_
         refine VA.tk 5 rfl (Still.block (Still.then (Still.then (Still.block (Still.then Still.body))))) (List.singleton_sublist.2 zM) Cells.nil (Quiet.c (Q.indexAddrA ar56 (j := x.1) rfl rfl rfl hlt)) ?_
         refine VA.all (rs := [6]) (by kernel_rfl) (by simp) ?_
         refine VA.forall1 ?_
         ·
          refine VA.eff rfl ?_
          refine id (O.store (xs := [.int .u8 2, .int .u8 0, .int .u8 0, .int .u8 0, .int .u8 2, .int .u8 (x.1 : Int), .int .i64 ((F.fseq x.1) : Int), .slice q1.1 (F.seen x.1).length q1.2, .slice q2.1 (lst (upd (setN M F r x.1 x.1) r (some t.parent))).length q2.2]) (C := meshC M (setF M F r x.1) x.2.1) (C' := meshC M (setF M F r (x.1 + 1)) (updY x.2.1 x.1 q1 q2)) ty55 rfl rfl rfl rfl zU (mesh_put_fwd (M := M) (F := (setF M F r x.1)) (F' := (setF M F r (x.1 + 1))) (Y := x.2.1) (Y' := (updY x.2.1 x.1 q1 q2)) hlt rfl rfl (fun j hj => fwdC_else hj rfl rfl (setN_other hj)) (put_cells (A := fwdC (setF M F r x.1) x.2.1 x.1) (B := fwdC (setF M F r (x.1 + 1)) (updY x.2.1 x.1 q1 q2) x.1) (cells := [.int .u8 2, .int .u8 0, .int .u8 0, .int .u8 0, .int .u8 2, .int .u8 (x.1 : Int), .int .i64 ((F.fseq x.1) : Int), .slice q1.1 (F.seen x.1).length q1.2, .slice q2.1 (lst (upd (setN M F r x.1 x.1) r (some t.parent))).length q2.2]) ((fwdC_at _ _ _ _ _).trans (by rw [show (setF M F r (x.1 + 1)).next x.1 = setN M F r (x.1 + 1) x.1 from rfl, setN_some htr]; rfl)) rfl)) ?_)
          refine VA.next (List.singleton_sublist.2 zM) Cells.nil ?_
          refine VA.done (by kernel_rfl) ?_
          refine VE.block_normal ?_
          refine VE.seq ?_
          refine VC.region ?_
          refine VL.q (Q.move rfl) ?_
          refine VL.q ((by first | exact Q.addI rfl rfl (by omega) (by omega) | exact Q.add rfl rfl)) ?_
          refine VL.q (Q.assign rfl) ?_
          refine VL.nil ?_
          refine VE.then_normal ?_
          refine VK.picks (Lin := .blk g8 [.int .u8 2, .int .u8 9, .int .u8 9, .int .u8 9, .int .u8 9, .int .u8 9] 44 :: mBlk g M (setF M F r (x.1 + 1)) ((updY x.2.1 x.1 q1 q2)) :: mRow ((updY x.2.1 x.1 q1 q2)) :: sRow q1 (F.seen x.1) :: nRow q2 (upd (setN M F r x.1 x.1) r (some t.parent)) :: x.2.2) zM2 ?_
          rw [← setN_some htr]
          exact VE.round (x.1 + 1, ((updY x.2.1 x.1 q1 q2), sRow q1 (F.seen x.1) :: nRow q2 (setN M F r (x.1 + 1) x.1) :: x.2.2)) ⟨by omega, held_fwd (F' := (setF M F r (x.1 + 1))) (k := x.1) hHx (fun _ _ => rfl) (fun j hj => setN_other hj) q1 q2 hq1⟩ (by omega) zE (List.Sublist.refl _)
      ·
       refine VA.eff rfl ?_
       refine id (O.alloc zo55 (by decide) ?_)
       intro g14_1
       refine VA.next zB Cells.nil ?_
       refine VA.all (rs := [10]) (by kernel_rfl) (by simp) ?_
       refine VA.forall1 ?_
       ·
        refine VA.eff rfl ?_
        refine id (O.call0 ok46 rfl rfl (by decide) (setnext2_c x.1 (F.fseq x.1) (x.2.1.sv x.1) (F.seen x.1) (x.2.1.nv x.1) (setN M F r x.1 x.1) ((setF_inv hI hF hr x.1).ok (by omega) hlt) (hHx.sc x.1 hlt) r t.parent hr (fun e => ho.ne e.symm) hpn) (fun _ _ hw => ⟨Rd.row hw (by repeat (first | exact (hHx.sn x.1 hlt) | apply List.Mem.tail)), Rd.row hw (by repeat (first | exact (hHx.nx x.1 hlt) | apply List.Mem.tail))⟩) ?_)
        intro x60_1 y60_1
        obtain ⟨q1, q2⟩ := x60_1
        have hq1 : (F.seen x.1).length ≤ q1.2 := y60_1
        refine VA.next zB Cells.nil ?_
        refine VA.tk 11 rfl (Still.then (Still.block (Still.then (Still.then (Still.block (Still.then Still.body)))))) zB Cells.nil (Quiet.c (Q.move rfl)) ?_
        refine VA.tk 12 rfl (Still.then (Still.block (Still.then (Still.then (Still.block (Still.then Still.body)))))) zB Cells.nil (Quiet.c (Q.extract rfl rfl)) ?_
        refine VA.tk 13 rfl (Still.then (Still.block (Still.then (Still.then (Still.block (Still.then Still.body)))))) zB Cells.nil (Quiet.c (Q.extract rfl rfl)) ?_
        refine VA.all (rs := [15]) (by kernel_rfl) (by simp) ?_
        refine VA.forall1 ?_
        ·
         refine VA.eff rfl ?_
         refine id (O.store ty55 rfl rfl rfl rfl zU zP ?_)
         refine VA.next zB Cells.nil ?_
         refine VA.tk 16 rfl (Still.then (Still.block (Still.then (Still.then (Still.block (Still.then Still.body)))))) zB Cells.nil (Quiet.c (Q.assign rfl)) ?_
         refine VA.done (by kernel_rfl) ?_
         refine VE.seq ?_
         refine VC.seq ?_
         refine VC.seq ?_
         refine VC.region ?_
         refine VL.q (Q.move rfl) ?_
         refine VL.quietE (v' := .bool false) (by decide) (Q.ne rfl rfl) (by rfl) ?_
         refine VL.nil ?_
         refine VE.seq ?_
         refine VC.condF rfl ?_
         refine VC.skip ?_
         refine VE.seq ?_
         refine VA.start (Ls := [.blk g14_1 [.int .u8 2, .int .u8 0, .int .u8 0, .int .u8 0, .int .u8 2, .int .u8 (x.1 : Int), .int .i64 ((F.fseq x.1) : Int), .slice q1.1 (F.seen x.1).length q1.2, .slice q2.1 (lst (upd (setN M F r x.1 x.1) r (some t.parent))).length q2.2] 55]) (Cs := []) mixed ?_
         refine VA.tk 0 rfl (Still.block (Still.then (Still.then (Still.block (Still.then Still.body))))) (List.singleton_sublist.2 zM) Cells.nil (Quiet.c (Q.move rfl)) ?_
         refine VA.tk 1 rfl (Still.block (Still.then (Still.then (Still.block (Still.then Still.body))))) (List.singleton_sublist.2 zM) Cells.nil (Quiet.c (Q.move rfl)) ?_
         refine VA.tk 2 rfl (Still.block (Still.then (Still.then (Still.block (Still.then Still.body))))) (List.singleton_sublist.2 zM) Cells.nil (Quiet.c (Q.loadA ty55 rfl zM zS)) ?_
         refine VA.tk 3 rfl (Still.block (Still.then (Still.then (Still.block (Still.then Still.body))))) (List.singleton_sublist.2 zM) Cells.nil (Quiet.c (Q.nilCheck rfl)) ?_
         refine VA.tk 4 rfl (Still.block (Still.then (Still.then (Still.block (Still.then Still.body))))) (List.singleton_sublist.2 zM) Cells.nil (Quiet.c (Q.fieldAddr fa59_2 rfl)) ?_
         refine VA.tk 5 rfl (Still.block (Still.then (Still.then (Still.block (Still.then Still.body))))) (List.singleton_sublist.2 zM) Cells.nil (Quiet.c (Q.indexAddrA ar56 (j := x.1) rfl rfl rfl hlt)) ?_
         refine VA.all (rs := [6]) (by kernel_rfl) (by simp) ?_
         refine VA.forall1 ?_
         ·
          refine VA.eff rfl ?_
          refine id (O.store (xs := [.int .u8 2, .int .u8 0, .int .u8 0, .int .u8 0, .int .u8 2, .int .u8 (x.1 : Int), .int .i64 ((F.fseq x.1) : Int), .slice q1.1 (F.seen x.1).length q1.2, .slice q2.1 (lst (upd (setN M F r x.1 x.1) r (some t.parent))).length q2.2]) (C := meshC M (setF M F r x.1) x.2.1) (C' := meshC M (setF M F r (x.1 + 1)) (updY x.2.1 x.1 q1 q2)) ty55 rfl rfl rfl rfl zU (mesh_put_fwd (M := M) (F := (setF M F r x.1)) (F' := (setF M F r (x.1 + 1))) (Y := x.2.1) (Y' := (updY x.2.1 x.1 q1 q2)) hlt rfl rfl (fun j hj => fwdC_else hj rfl rfl (setN_other hj)) (put_cells (A := fwdC (setF M F r x.1) x.2.1 x.1) (B := fwdC (setF M F r (x.1 + 1)) (updY x.2.1 x.1 q1 q2) x.1) (cells := [.int .u8 2, .int .u8 0, .int .u8 0, .int .u8 0, .int .u8 2, .int .u8 (x.1 : Int), .int .i64 ((F.fseq x.1) : Int), .slice q1.1 (F.seen x.1).length q1.2, .slice q2.1 (lst (upd (setN M F r x.1 x.1) r (some t.parent))).length q2.2]) ((fwdC_at _ _ _ _ _).trans (by rw [show (setF M F r (x.1 + 1)).next x.1 = setN M F r (x.1 + 1) x.1 from rfl, setN_some htr]; rfl)) rfl)) ?_)
          refine VA.next (List.singleton_sublist.2 zM) Cells.nil ?_
          refine VA.done (by kernel_rfl) ?_
          refine VE.block_normal ?_
          refine VE.seq ?_
          refine VC.region ?_
          refine VL.q (Q.move rfl) ?_
          refine VL.q ((by first | exact Q.addI rfl rfl (by omega) (by omega) | exact Q.add rfl rfl)) ?_
          refine VL.q (Q.assign rfl) ?_
          refine VL.nil ?_
          refine VE.then_normal ?_
          refine VK.picks (Lin := .blk g8 [.int .u8 2, .int .u8 9, .int .u8 9, .int .u8 9, .int .u8 9, .int .u8 9] 44 :: mBlk g M (setF M F r (x.1 + 1)) ((updY x.2.1 x.1 q1 q2)) :: mRow ((updY x.2.1 x.1 q1 q2)) :: sRow q1 (F.seen x.1) :: nRow q2 (upd (setN M F r x.1 x.1) r (some t.parent)) :: x.2.2) zM2 ?_
          rw [← setN_some htr]
          exact VE.round (x.1 + 1, ((updY x.2.1 x.1 q1 q2), sRow q1 (F.seen x.1) :: nRow q2 (setN M F r (x.1 + 1) x.1) :: x.2.2)) ⟨by omega, held_fwd (F' := (setF M F r (x.1 + 1))) (k := x.1) hHx (fun _ _ => rfl) (fun j hj => setN_other hj) q1 q2 hq1⟩ (by omega) zE (List.Sublist.refl _)
     ·
      refine VA.eff rfl ?_
      refine id (O.alloc zo55 (by decide) ?_)
      intro g14_2
      refine VA.next zB Cells.nil ?_
      refine VA.all (rs := [7]) (by kernel_rfl) (by simp) ?_
      refine VA.forall1 ?_
      ·
       refine VA.eff rfl ?_
       refine id (O.call0 ok35 rfl rfl (by decide) (nodeOf_c r (by omega)) (fun _ _ _ => trivial) ?_)
       intro x57_1 y57_1
       refine VA.next zB Cells.nil ?_
       refine VA.all (rs := [10]) (by kernel_rfl) (by simp) ?_
       refine VA.forall1 ?_
       ·
        refine VA.eff rfl ?_
        refine id (O.call0 ok46 rfl rfl (by decide) (setnext2_c x.1 (F.fseq x.1) (x.2.1.sv x.1) (F.seen x.1) (x.2.1.nv x.1) (setN M F r x.1 x.1) ((setF_inv hI hF hr x.1).ok (by omega) hlt) (hHx.sc x.1 hlt) r t.parent hr (fun e => ho.ne e.symm) hpn) (fun _ _ hw => ⟨Rd.row hw (by repeat (first | exact (hHx.sn x.1 hlt) | apply List.Mem.tail)), Rd.row hw (by repeat (first | exact (hHx.nx x.1 hlt) | apply List.Mem.tail))⟩) ?_)
        intro x60_2 y60_2
        obtain ⟨q1, q2⟩ := x60_2
        have hq1 : (F.seen x.1).length ≤ q1.2 := y60_2
        refine VA.next zB Cells.nil ?_
        refine VA.tk 11 rfl (Still.then (Still.block (Still.then (Still.then (Still.block (Still.then Still.body)))))) zB Cells.nil (Quiet.c (Q.move rfl)) ?_
        refine VA.tk 12 rfl (Still.then (Still.block (Still.then (Still.then (Still.block (Still.then Still.body)))))) zB Cells.nil (Quiet.c (Q.extract rfl rfl)) ?_
        refine VA.tk 13 rfl (Still.then (Still.block (Still.then (Still.then (Still.block (Still.then Still.body)))))) zB Cells.nil (Quiet.c (Q.extract rfl rfl)) ?_
        refine VA.all (rs := [15]) (by kernel_rfl) (by simp) ?_
        refine VA.forall1 ?_
        ·
         refine VA.eff rfl ?_
         refine id (O.store ty55 rfl rfl rfl rfl zU zP ?_)
         refine VA.next zB Cells.nil ?_
         refine VA.tk 16 rfl (Still.then (Still.block (Still.then (Still.then (Still.block (Still.then Still.body)))))) zB Cells.nil (Quiet.c (Q.assign rfl)) ?_
         refine VA.done (by kernel_rfl) ?_
         refine VE.seq ?_
         refine VC.seq ?_
         refine VC.seq ?_
         refine VC.region ?_
         refine VL.q (Q.move rfl) ?_
         refine VL.quietE (v' := .bool false) (by decide) (Q.ne rfl rfl) (by rfl) ?_
         refine VL.nil ?_
         refine VE.seq ?_
         refine VC.condF rfl ?_
         refine VC.skip ?_
         refine VE.seq ?_
         refine VA.start (Ls := [.blk g14_2 [.int .u8 2, .int .u8 0, .int .u8 0, .int .u8 0, .int .u8 2, .int .u8 (x.1 : Int), .int .i64 ((F.fseq x.1) : Int), .slice q1.1 (F.seen x.1).length q1.2, .slice q2.1 (lst (upd (setN M F r x.1 x.1) r (some t.parent))).length q2.2] 55]) (Cs := []) mixed ?_
         refine VA.tk 0 rfl (Still.block (Still.then (Still.then (Still.block (Still.then Still.body))))) (List.singleton_sublist.2 zM) Cells.nil (Quiet.c (Q.move rfl)) ?_
         refine VA.tk 1 rfl (Still.block (Still.then (Still.then (Still.block (Still.then Still.body))))) (List.singleton_sublist.2 zM) Cells.nil (Quiet.c (Q.move rfl)) ?_
         refine VA.tk 2 rfl (Still.block (Still.then (Still.then (Still.block (Still.then Still.body))))) (List.singleton_sublist.2 zM) Cells.nil (Quiet.c (Q.loadA ty55 rfl zM zS)) ?_
         refine VA.tk 3 rfl (Still.block (Still.then (Still.then (Still.block (Still.then Still.body))))) (List.singleton_sublist.2 zM) Cells.nil (Quiet.c (Q.nilCheck rfl)) ?_
         refine VA.tk 4 rfl (Still.block (Still.then (Still.then (Still.block (Still.then Still.body))))) (List.singleton_sublist.2 zM) Cells.nil (Quiet.c (Q.fieldAddr fa59_2 rfl)) ?_
         refine VA.tk 5 rfl (Still.block (Still.then (Still.then (Still.block (Still.then Still.body))))) (List.singleton_sublist.2 zM) Cells.nil (Quiet.c (Q.indexAddrA ar56 (j := x.1) rfl rfl rfl hlt)) ?_
         refine VA.all (rs := [6]) (by kernel_rfl) (by simp) ?_
         refine VA.forall1 ?_
         ·
          refine VA.eff rfl ?_
          refine id (O.store (xs := [.int .u8 2, .int .u8 0, .int .u8 0, .int .u8 0, .int .u8 2, .int .u8 (x.1 : Int), .int .i64 ((F.fseq x.1) : Int), .slice q1.1 (F.seen x.1).length q1.2, .slice q2.1 (lst (upd (setN M F r x.1 x.1) r (some t.parent))).length q2.2]) (C := meshC M (setF M F r x.1) x.2.1) (C' := meshC M (setF M F r (x.1 + 1)) (updY x.2.1 x.1 q1 q2)) ty55 rfl rfl rfl rfl zU (mesh_put_fwd (M := M) (F := (setF M F r x.1)) (F' := (setF M F r (x.1 + 1))) (Y := x.2.1) (Y' := (updY x.2.1 x.1 q1 q2)) hlt rfl rfl (fun j hj => fwdC_else hj rfl rfl (setN_other hj)) (put_cells (A := fwdC (setF M F r x.1) x.2.1 x.1) (B := fwdC (setF M F r (x.1 + 1)) (updY x.2.1 x.1 q1 q2) x.1) (cells := [.int .u8 2, .int .u8 0, .int .u8 0, .int .u8 0, .int .u8 2, .int .u8 (x.1 : Int), .int .i64 ((F.fseq x.1) : Int), .slice q1.1 (F.seen x.1).length q1.2, .slice q2.1 (lst (upd (setN M F r x.1 x.1) r (some t.parent))).length q2.2]) ((fwdC_at _ _ _ _ _).trans (by rw [show (setF M F r (x.1 + 1)).next x.1 = setN M F r (x.1 + 1) x.1 from rfl, setN_some htr]; rfl)) rfl)) ?_)
          refine VA.next (List.singleton_sublist.2 zM) Cells.nil ?_
          refine VA.done (by kernel_rfl) ?_
          refine VE.block_normal ?_
          refine VE.seq ?_
          refine VC.region ?_
          refine VL.q (Q.move rfl) ?_
          refine VL.q ((by first | exact Q.addI rfl rfl (by omega) (by omega) | exact Q.add rfl rfl)) ?_
          refine VL.q (Q.assign rfl) ?_
          refine VL.nil ?_
          refine VE.then_normal ?_
          refine VK.picks (Lin := .blk g8 [.int .u8 2, .int .u8 9, .int .u8 9, .int .u8 9, .int .u8 9, .int .u8 9] 44 :: mBlk g M (setF M F r (x.1 + 1)) ((updY x.2.1 x.1 q1 q2)) :: mRow ((updY x.2.1 x.1 q1 q2)) :: sRow q1 (F.seen x.1) :: nRow q2 (upd (setN M F r x.1 x.1) r (some t.parent)) :: x.2.2) zM2 ?_
          rw [← setN_some htr]
          exact VE.round (x.1 + 1, ((updY x.2.1 x.1 q1 q2), sRow q1 (F.seen x.1) :: nRow q2 (setN M F r (x.1 + 1) x.1) :: x.2.2)) ⟨by omega, held_fwd (F' := (setF M F r (x.1 + 1))) (k := x.1) hHx (fun _ _ => rfl) (fun j hj => setN_other hj) q1 q2 hq1⟩ (by omega) zE (List.Sublist.refl _)
   ·
    intro h37
    have he6 : x.1 = 6 := by have := of_decide_eq_false h37; omega
    obtain ⟨k6, Y1, R1⟩ := x
    have he6 : k6 = 6 := he6
    subst he6
    have hH1 : Held M (setF M F r 6) Y1 R1 := hHx
    refine VK.picks (Lin := .blk g8 [.int .u8 2, .int .u8 9, .int .u8 9, .int .u8 9, .int .u8 9, .int .u8 9] 44 :: mBlk g M (setF M F r 6) Y1 :: mRow Y1 :: R1) zM2 ?_
    refine VC.exit ?_
    refine VE.then_exit ?_
    refine VE.then_exit ?_
    refine VE.block_here ?_
    refine VE.seq ?_
    refine VC.seq ?_
    refine VC.region ?_
    refine VL.q (Q.move rfl) ?_
    refine VL.q (Q.move rfl) ?_
    refine VL.q (Q.move rfl) ?_
    refine VL.eff (O.call0 ok45 rfl rfl (by decide) (mtree_c g M (setF M F r 6) Y1 R1 hH1 i r hi hr) (fun _ _ hw => hw.sub (by repeat (first | exact List.Sublist.refl _ | apply List.Sublist.cons))) ?_)
    intro x75 y75
    rcases x75 with _ | t
    ·
     have htr := y75
     refine VL.q (Q.move rfl) ?_
     refine VL.q (Q.extract rfl rfl) ?_
     refine VL.q (Q.extract rfl rfl) ?_
     refine VL.eff (O.alloc zo151 (by decide) ?_)
     intro g16
     refine VL.eff (O.store ty151 rfl rfl rfl rfl zU zP ?_)
     refine VL.q (Q.assign rfl) ?_
     refine VL.nil ?_
     refine VE.seq ?_
     refine VC.seq ?_
     refine VK.keep (E' := [(0, .pointer (some ⟨g, 0, none⟩)), (1, .int .i64 (i : Int)), (2, .int .i64 (r : Int)), (4, .slice p m c), (8, .pointer (some ⟨g8, 0, none⟩)), (17, .bool false)]) zE ?_
     refine VK.picks (Lin := .blk g8 [.int .u8 2, .int .u8 9, .int .u8 9, .int .u8 9, .int .u8 9, .int .u8 9] 44 :: mBlk g M (setF M F r 6) Y1 :: mRow Y1 :: R1) zM2 ?_
     refine up_send i r W0 _ g M F n hF hF1 hn hi hr p m c l hl hm g8 Y1 R1 hH1 hir hmk (fun _ ho => hro.only ho hdis) false _ (Still.then Still.body) ?_
     intro z hz
     refine VE.seq ?_
     rcases z with ⟨_ | ⟨v, q1, q2, qd⟩, g18, g19⟩
     ·
      refine VC.seq ?_
      refine VC.seq ?_
      refine VC.region ?_
      refine VL.q (Q.move rfl) ?_
      refine VL.quietE (v' := .bool true) (by decide) (Q.not rfl) (by rfl) ?_
      refine VL.nil ?_
      refine VE.seq ?_
      refine VC.condT rfl ?_
      refine VC.seq ?_
      refine VC.region ?_
      refine VL.q (Q.move rfl) ?_
      refine VL.quietE (v' := .bool true) (by decide) (Q.eq rfl rfl) (by rfl) ?_
      refine VL.q (Q.assign rfl) ?_
      refine VL.nil ?_
      refine VE.seq ?_
      refine VC.ret ?_
      refine VE.then_ret ?_
      refine VK.picks (Lin := mBlk g M (setF M F r 6) Y1 :: mRow Y1 :: R1) zM2 ?_
      exact VE.ret rfl (.tmp rfl .nil) ((setF M F r 6), (Y1, R1)) ⟨hF1.mono (by omega), hH1⟩ rfl (List.Sublist.refl _)
     ·
      exfalso
      have hz := hz.1
      rw [setN_six hF hr hi, htr] at hz
      cases hz
    ·
     have htr := y75
     refine VL.q (Q.move rfl) ?_
     refine VL.q (Q.extract rfl rfl) ?_
     refine VL.q (Q.extract rfl rfl) ?_
     refine VL.eff (O.alloc zo151 (by decide) ?_)
     intro g16
     refine VL.eff (O.store ty151 rfl rfl rfl rfl zU zP ?_)
     refine VL.q (Q.assign rfl) ?_
     refine VL.nil ?_
     refine VE.seq ?_
     refine VC.seq ?_
     refine VK.keep (E' := [(0, .pointer (some ⟨g, 0, none⟩)), (1, .int .i64 (i : Int)), (2, .int .i64 (r : Int)), (4, .slice p m c), (8, .pointer (some ⟨g8, 0, none⟩)), (17, .bool true)]) zE ?_
     refine VK.picks (Lin := .blk g8 [.int .u8 2, .int .u8 9, .int .u8 9, .int .u8 9, .int .u8 9, .int .u8 9] 44 :: mBlk g M (setF M F r 6) Y1 :: mRow Y1 :: R1) zM2 ?_
     refine up_send i r W0 _ g M F n hF hF1 hn hi hr p m c l hl hm g8 Y1 R1 hH1 hir hmk (fun _ ho => hro.only ho hdis) true _ (Still.then Still.body) ?_
     intro z hz
     refine VE.seq ?_
     rcases z with ⟨_ | ⟨v, q1, q2, qd⟩, g18, g19⟩
     ·
      exfalso
      have hz : setN M F r 6 i r = none := hz
      rw [setN_six hF hr hi, htr] at hz
      cases hz
     ·
      obtain ⟨hv, hq1, hqd⟩ := hz
      dsimp only at hv hq1 hqd
      rw [setN_six hF hr hi, htr] at hv
      cases hv
      refine VC.seq ?_
      refine VC.seq ?_
      refine VC.region ?_
      refine VL.q (Q.move rfl) ?_
      refine VL.quietE (v' := .bool false) (by decide) (Q.not rfl) (by rfl) ?_
      refine VL.nil ?_
      refine VE.seq ?_
      refine VC.condF rfl ?_
      refine VC.skip ?_
      refine VE.seq ?_
      refine VC.seq ?_
      refine VC.seq ?_
      refine VC.region ?_
      refine VL.q (Q.move rfl) ?_
      refine VL.quietE (v' := .bool false) (by decide) (Q.ne rfl rfl) (by rfl) ?_
      refine VL.nil ?_
      refine VE.seq ?_
      refine VC.condF rfl ?_
      refine VC.skip ?_
      refine VE.seq ?_
      refine VC.seq ?_
      refine VA.start (Ls := [.blk g18 [.int .u8 2, .int .u8 0, .int .u8 0, .int .u8 0, .int .u8 2, .int .u8 (i : Int), .int .i64 ((F.fseq i + 1 : Nat) : Int), .slice q1.1 (F.seen i ++ [(i, (F.fseq i))]).length q1.2, .slice q2.1 (lst (setN M F r 6 i)).length q2.2] 55]) (Cs := []) mixed ?_
      refine VA.tk 0 rfl (Still.then Still.body) (List.singleton_sublist.2 zM) Cells.nil (Quiet.c (Q.move rfl)) ?_
      refine VA.tk 1 rfl (Still.then Still.body) (List.singleton_sublist.2 zM) Cells.nil (Quiet.c (Q.move rfl)) ?_
      refine VA.tk 2 rfl (Still.then Still.body) (List.singleton_sublist.2 zM) Cells.nil (Quiet.c (Q.loadA ty55 rfl zM zS)) ?_
      refine VA.tk 3 rfl (Still.then Still.body) (List.singleton_sublist.2 zM) Cells.nil (Quiet.c (Q.nilCheck rfl)) ?_
      refine VA.tk 4 rfl (Still.then Still.body) (List.singleton_sublist.2 zM) Cells.nil (Quiet.c (Q.fieldAddr fa59_2 rfl)) ?_
      refine VA.tk 5 rfl (Still.then Still.body) (List.singleton_sublist.2 zM) Cells.nil (Quiet.c (Q.indexAddrA ar56 (j := i) rfl rfl rfl hi)) ?_
      refine VA.all (rs := [6]) (by kernel_rfl) (by simp) ?_
      refine VA.forall1 ?_
      ·
       refine VA.eff rfl ?_
       refine id (O.store (xs := [.int .u8 2, .int .u8 0, .int .u8 0, .int .u8 0, .int .u8 2, .int .u8 (i : Int), .int .i64 ((F.fseq i + 1 : Nat) : Int), .slice q1.1 (F.seen i ++ [(i, (F.fseq i))]).length q1.2, .slice q2.1 (lst (setN M F r 6 i)).length q2.2]) (C := meshC M (setF M F r 6) Y1) (C' := meshC M (visF (setF M F r 6) i (fun j => j == i)) (updY Y1 i q1 q2)) ty55 rfl rfl rfl rfl zU (mesh_put_fwd (M := M) (F := (setF M F r 6)) (F' := (visF (setF M F r 6) i (fun j => j == i))) (Y := Y1) (Y' := (updY Y1 i q1 q2)) hi rfl rfl (fun j hj => fwdC_else hj (by simp [visF, upd, setF, hj]) (by have hb := beq_false_of_ne hj; simp [visF, setF, hb]) rfl) (put_cells (A := fwdC (setF M F r 6) Y1 i) (B := fwdC (visF (setF M F r 6) i (fun j => j == i)) (updY Y1 i q1 q2) i) (cells := [.int .u8 2, .int .u8 0, .int .u8 0, .int .u8 0, .int .u8 2, .int .u8 (i : Int), .int .i64 ((F.fseq i + 1 : Nat) : Int), .slice q1.1 (F.seen i ++ [(i, (F.fseq i))]).length q1.2, .slice q2.1 (lst (setN M F r 6 i)).length q2.2]) ((fwdC_at _ _ _ _ _).trans (by simp [visF, upd, setF])) rfl)) ?_)
       refine VA.next (List.singleton_sublist.2 zM) Cells.nil ?_
       refine VA.done (by kernel_rfl) ?_
       refine VE.seq ?_
       refine VC.seq ?_
       refine VC.seq ?_
       refine VC.region ?_
       refine VL.q (Q.assign rfl) ?_
       refine VL.nil ?_
       refine VE.seq ?_
       refine VC.block ?_
       have hH2 : Held M (visF (setF M F r 6) i (fun j => j == i)) ((updY Y1 i q1 q2)) (sRow q1 (F.seen i ++ [(i, (F.fseq i))]) :: nRow q2 (setN M F r 6 i) :: R1) := by
        have hs : (visF (setF M F r 6) i (fun j => j == i)).seen i = (F.seen i ++ [(i, (F.fseq i))]) := by simp [visF, setF]
        have := held_fwd hH1 (F' := (visF (setF M F r 6) i (fun j => j == i))) (k := i) (fun j hj => by have hb := beq_false_of_ne hj; simp [visF, setF, hb]) (fun _ _ => rfl) q1 q2 (by rw [hs]; exact hq1)
        rw [hs] at this
        exact this
       refine VC.loop (X := WS) (fun x => [(0, .pointer (some ⟨g, 0, none⟩)), (1, .int .i64 (i : Int)), (2, .int .i64 (r : Int)), (4, .slice p m c), (8, .pointer (some ⟨g8, 0, none⟩)), (19, .pointer (some ⟨g19, 0, none⟩)), (21, .int .i64 (x.st : Int))]) (fun x => (.blk g19 [.int .u8 2, .int .u8 0, .int .u8 0, .int .u8 0, .int .u8 2, .int .u8 (x.f : Int), .int .u8 2, .int .u8 0, .int .u8 0, .int .u8 0, .int .u8 2, .int .u8 (x.a : Int), .int .u8 2, .int .u8 0, .int .u8 0, .int .u8 0, .int .u8 2, .int .u8 (i : Int), .int .u8 2, .int .u8 0, .int .u8 0, .int .u8 0, .int .u8 2, .int .u8 (r : Int), .int .u8 2, .int .u8 0, .int .u8 0, .int .u8 0, .int .u8 2, .int .u8 (i : Int), .int .u8 2, .int .u8 9, .int .u8 9, .int .u8 9, .int .u8 9, .int .u8 9, .int .i64 ((F.fseq i) : Int), .int .i64 ((31 - x.st : Nat) : Int), .slice x.pd m x.cd] 156 :: .row (.slice x.pd m x.cd) 5 1 m (bs l) :: .blk g8 [.int .u8 2, .int .u8 9, .int .u8 9, .int .u8 9, .int .u8 9, .int .u8 9] 44 :: mBlk g M (visF (setF M F r 6) i x.vis) (x.Y) :: mRow (x.Y) :: x.R)) (fun x => WalkI M r i x.st x.f x.a x.vis ∧ Held M (visF (setF M F r 6) i x.vis) x.Y x.R ∧ m ≤ x.cd) (fun x => 6 - x.st) ⟨0, i, t.parent, (fun j => j == i), (updY Y1 i q1 q2), sRow q1 (F.seen i ++ [(i, (F.fseq i))]) :: nRow q2 (setN M F r 6 i) :: R1, qd.1, qd.2⟩ ⟨WalkI.start hI hr hi htr, hH2, hqd⟩ ?_ ?_
       ·
        refine VK.picks (Lin := .blk g19 [.int .u8 2, .int .u8 0, .int .u8 0, .int .u8 0, .int .u8 2, .int .u8 (i : Int), .int .u8 2, .int .u8 0, .int .u8 0, .int .u8 0, .int .u8 2, .int .u8 (t.parent : Int), .int .u8 2, .int .u8 0, .int .u8 0, .int .u8 0, .int .u8 2, .int .u8 (i : Int), .int .u8 2, .int .u8 0, .int .u8 0, .int .u8 0, .int .u8 2, .int .u8 (r : Int), .int .u8 2, .int .u8 0, .int .u8 0, .int .u8 0, .int .u8 2, .int .u8 (i : Int), .int .u8 2, .int .u8 9, .int .u8 9, .int .u8 9, .int .u8 9, .int .u8 9, .int .i64 ((F.fseq i) : Int), .int .i64 ((31 - 0 : Nat) : Int), .slice qd.1 m qd.2] 156 :: .row (.slice qd.1 m qd.2) 5 1 m (bs l) :: .blk g8 [.int .u8 2, .int .u8 9, .int .u8 9, .int .u8 9, .int .u8 9, .int .u8 9] 44 :: mBlk g M (visF (setF M F r 6) i (fun j => j == i)) ((updY Y1 i q1 q2)) :: mRow ((updY Y1 i q1 q2)) :: sRow q1 (F.seen i ++ [(i, (F.fseq i))]) :: nRow q2 (setN M F r 6 i) :: R1) zM2 ?_
        exact VS.mk zE (List.Sublist.refl _)
       ·
        intro x hx
        obtain ⟨hw, hHx, hcd⟩ := hx
        have ha6 := hw.a6
        have hf6 := hw.f6
        have hs4 := hw.s4
        have hnew := hw.new
        have hia : i ≠ x.a := fun e => by rw [← e, hw.vi] at hnew; cases hnew
        have hfa : x.f ≠ x.a := fun e => by rw [← e, hw.vf] at hnew; cases hnew
        have hFx := visF_inv hF1 hi x.vis
        have hFy := visF_inv hF1 hi (upd x.vis x.a true)
        have hfw : r ≠ x.a → 2 ≤ 31 - x.st ∧ (setN M F r 6 x.a r).isSome = true := fun hne => ⟨by omega, by
         rw [setN_six hF hr ha6]
         rcases hw.rk with e | e
         ·
          exact absurd e.symm hne
         ·
          obtain ⟨t1, ht1⟩ := Option.isSome_iff_exists.1 e.1
          rw [ht1]
          rfl⟩
        have hmk2 := vis_mark hF1 ha6 hnew (i := i)
        refine VC.seq ?_
        refine VC.seq ?_
        refine VC.region ?_
        refine VL.q (Q.move rfl) ?_
        refine VL.q (Q.lt rfl rfl) ?_
        refine VL.nil ?_
        refine VE.seq ?_
        refine VC.cond rfl ?_ ?_
        ·
         intro h108
         refine VC.skip ?_
         refine VE.seq ?_
         refine VC.seq ?_
         refine VC.block ?_
         refine VC.seq ?_
         refine VC.region ?_
         refine VL.q (Q.loadA ty156 rfl zM zS) ?_
         refine VL.eff (O.call0 ok48 rfl rfl (by decide) (fencode_c x.f x.a i r (F.fseq i) (31 - x.st) (by omega) (by omega) (by omega) (by omega) (by have := hF.fs i; omega) (by omega) x.pd m x.cd l hl (by omega)) (fun _ _ hw => Rd.row hw zM) ?_)
         intro x113 y113
         obtain ⟨pe, ce⟩ := x113
         have hce : 40 + m ≤ ce := y113
         refine VL.q (Q.move rfl) ?_
         refine VL.q (Q.extract rfl rfl) ?_
         refine VL.q (Q.extract rfl rfl) ?_
         refine VL.q (Q.assign rfl) ?_
         refine VL.q (Q.assign rfl) ?_
         refine VL.nil ?_
         refine VE.seq ?_
         refine VC.seq ?_
         refine VC.region ?_
         refine VL.q (Q.move rfl) ?_
         refine VL.eff (O.call0 ok49 rfl rfl (by decide) (fdecode_c x.f x.a i r (F.fseq i) (31 - x.st) (by omega) (by omega) (by omega) (by omega) (by have := hF.fs i; omega) (by omega) pe m ce l hl (by omega) hce) (fun _ _ hw => Rd.row hw zM) ?_)
         intro x118 y118
         obtain ⟨pd2, cd2⟩ := x118
         have hcd2 : m ≤ cd2 := y118
         refine VL.q (Q.move rfl) ?_
         refine VL.q (Q.extract rfl rfl) ?_
         refine VL.q (Q.extract rfl rfl) ?_
         refine VL.eff (O.alloc zo156 (by decide) ?_)
         intro g24
         refine VL.eff (O.store ty156 rfl rfl rfl rfl zU zP ?_)
         refine VL.q (Q.assign rfl) ?_
         refine VL.nil ?_
         refine VE.seq ?_
         refine VC.seq ?_
         refine VC.region ?_
         refine VL.q (Q.fieldAddr fa156_1 rfl) ?_
         refine VL.q (Q.loadA ty44 rfl zM zS) ?_
         refine VL.eff (O.call0 ok43 rfl rfl (by decide) (vaneNode_c x.a ha6) (fun _ _ _ => trivial) ?_)
         intro x123 y123
         refine VL.q (Q.assign rfl) ?_
         refine VL.nil ?_
         refine VE.seq ?_
         refine VC.seq ?_
         refine VC.seq ?_
         refine VC.region ?_
         refine VL.q (Q.move rfl) ?_
         refine VL.quietE (v' := .bool false) (by decide) (Q.ne rfl rfl) (by rfl) ?_
         refine VL.q (Q.move rfl) ?_
         refine VL.yes rfl rfl ?_
         refine VL.q (Q.move rfl) ?_
         refine VL.yes rfl rfl ?_
         refine VL.quietE (v' := .bool false) (by decide) (Q.ne rfl rfl) (by rfl) ?_
         refine VL.quietE (v' := .bool false) (by decide) (Q.pick_false rfl rfl) (by rfl) ?_
         refine VL.q (Q.move rfl) ?_
         refine VL.yes rfl rfl ?_
         refine VL.q (Q.move rfl) ?_
         refine VL.yes rfl rfl ?_
         refine VL.quietE (v' := .bool false) (by decide) (Q.lt rfl rfl) (congrArg Value.bool (decide_eq_false (by omega))) ?_
         refine VL.quietE (v' := .bool false) (by decide) (Q.pick_false rfl rfl) (by rfl) ?_
         refine VL.nil ?_
         refine VE.seq ?_
         refine VC.condF rfl ?_
         refine VC.skip ?_
         refine VE.seq ?_
         refine VC.seq ?_
         refine VK.keep (E' := [(0, .pointer (some ⟨g, 0, none⟩)), (1, .int .i64 (i : Int)), (2, .int .i64 (r : Int)), (4, .slice p m c), (8, .pointer (some ⟨g8, 0, none⟩)), (19, .pointer (some ⟨g19, 0, none⟩)), (21, .int .i64 (x.st : Int)), (24, .pointer (some ⟨g24, 0, none⟩)), (26, .int .i64 (x.a : Int))]) zE ?_
         refine VK.picks (Lin := .blk g24 [.int .u8 2, .int .u8 0, .int .u8 0, .int .u8 0, .int .u8 2, .int .u8 (x.f : Int), .int .u8 2, .int .u8 0, .int .u8 0, .int .u8 0, .int .u8 2, .int .u8 (x.a : Int), .int .u8 2, .int .u8 0, .int .u8 0, .int .u8 0, .int .u8 2, .int .u8 (i : Int), .int .u8 2, .int .u8 0, .int .u8 0, .int .u8 0, .int .u8 2, .int .u8 (r : Int), .int .u8 2, .int .u8 0, .int .u8 0, .int .u8 0, .int .u8 2, .int .u8 (i : Int), .int .u8 2, .int .u8 9, .int .u8 9, .int .u8 9, .int .u8 9, .int .u8 9, .int .i64 ((F.fseq i) : Int), .int .i64 ((31 - x.st : Nat) : Int), .slice pd2 m cd2] 156 :: .row (.slice pd2 m cd2) 5 1 m (bs l) :: .blk g19 [.int .u8 2, .int .u8 0, .int .u8 0, .int .u8 0, .int .u8 2, .int .u8 (x.f : Int), .int .u8 2, .int .u8 0, .int .u8 0, .int .u8 0, .int .u8 2, .int .u8 (x.a : Int), .int .u8 2, .int .u8 0, .int .u8 0, .int .u8 0, .int .u8 2, .int .u8 (i : Int), .int .u8 2, .int .u8 0, .int .u8 0, .int .u8 0, .int .u8 2, .int .u8 (r : Int), .int .u8 2, .int .u8 0, .int .u8 0, .int .u8 0, .int .u8 2, .int .u8 (i : Int), .int .u8 2, .int .u8 9, .int .u8 9, .int .u8 9, .int .u8 9, .int .u8 9, .int .i64 ((F.fseq i) : Int), .int .i64 ((31 - x.st : Nat) : Int), .slice x.pd m x.cd] 156 :: .blk g8 [.int .u8 2, .int .u8 9, .int .u8 9, .int .u8 9, .int .u8 9, .int .u8 9] 44 :: mBlk g M (visF (setF M F r 6) i x.vis) x.Y :: mRow x.Y :: x.R) zM2 ?_
         refine up_receive i r W0 _ g M F n hF hF1 hn hi hr p m c l hl hm g8 x hHx ha6 hs4 hfa hia hFx hfw hmk2 pd2 cd2 g19 g24 _ (Still.then (Still.block (Still.then (Still.then (Still.block (Still.then Still.body)))))) ?_
         intro z hz
         refine VE.seq ?_
         rcases z with ⟨⟨q1, q2⟩ | ⟨q1, q2, qd⟩ | ⟨v, q1, q2, qd⟩, g27, g29⟩
         ·
          exact absurd hz.1 hmk2
         ·
          obtain ⟨_, hra, hq1, hqd⟩ := hz
          have hH3 : Held M (visF (setF M F r 6) i (upd x.vis x.a true)) ((updY x.Y x.a q1 q2)) (sRow q1 ((visF (setF M F r 6) i x.vis).seen x.a ++ [(i, (F.fseq i))]) :: nRow q2 (setN M F r 6 x.a) :: x.R) := by
           have hs : (visF (setF M F r 6) i (upd x.vis x.a true)).seen x.a = (visF (setF M F r 6) i x.vis).seen x.a ++ [(i, (F.fseq i))] := visF_seen hnew
           have := held_fwd hHx (F' := (visF (setF M F r 6) i (upd x.vis x.a true))) (k := x.a) (fun j hj => visF_other hj) (fun _ _ => rfl) q1 q2 (by rw [hs]; exact hq1)
           rw [hs] at this
           exact this
          refine VC.seq ?_
          refine VC.seq ?_
          refine VC.region ?_
          refine VL.q (Q.move rfl) ?_
          refine VL.quietE (v' := .bool false) (by decide) (Q.ne rfl rfl) (by rfl) ?_
          refine VL.nil ?_
          refine VE.seq ?_
          refine VC.condF rfl ?_
          refine VC.skip ?_
          refine VE.seq ?_
          refine VC.seq ?_
          refine VA.start (Ls := [.blk g27 [.int .u8 2, .int .u8 0, .int .u8 0, .int .u8 0, .int .u8 2, .int .u8 (x.a : Int), .int .i64 (((visF (setF M F r 6) i x.vis).fseq x.a) : Int), .slice q1.1 ((visF (setF M F r 6) i x.vis).seen x.a ++ [(i, (F.fseq i))]).length q1.2, .slice q2.1 (lst (setN M F r 6 x.a)).length q2.2] 55]) (Cs := []) mixed ?_
          refine VA.tk 0 rfl (Still.then (Still.block (Still.then (Still.then (Still.block (Still.then Still.body)))))) (List.singleton_sublist.2 zM) Cells.nil (Quiet.c (Q.move rfl)) ?_
          refine VA.tk 1 rfl (Still.then (Still.block (Still.then (Still.then (Still.block (Still.then Still.body)))))) (List.singleton_sublist.2 zM) Cells.nil (Quiet.c (Q.move rfl)) ?_
          refine VA.tk 2 rfl (Still.then (Still.block (Still.then (Still.then (Still.block (Still.then Still.body)))))) (List.singleton_sublist.2 zM) Cells.nil (Quiet.c (Q.loadA ty55 rfl zM zS)) ?_
          refine VA.tk 3 rfl (Still.then (Still.block (Still.then (Still.then (Still.block (Still.then Still.body)))))) (List.singleton_sublist.2 zM) Cells.nil (Quiet.c (Q.nilCheck rfl)) ?_
          refine VA.tk 4 rfl (Still.then (Still.block (Still.then (Still.then (Still.block (Still.then Still.body)))))) (List.singleton_sublist.2 zM) Cells.nil (Quiet.c (Q.fieldAddr fa59_2 rfl)) ?_
          refine VA.tk 5 rfl (Still.then (Still.block (Still.then (Still.then (Still.block (Still.then Still.body)))))) (List.singleton_sublist.2 zM) Cells.nil (Quiet.c (Q.indexAddrA ar56 (j := x.a) rfl rfl rfl ha6)) ?_
          refine VA.all (rs := [6]) (by kernel_rfl) (by simp) ?_
          refine VA.forall1 ?_
          ·
           refine VA.eff rfl ?_
           refine id (O.store (xs := [.int .u8 2, .int .u8 0, .int .u8 0, .int .u8 0, .int .u8 2, .int .u8 (x.a : Int), .int .i64 (((visF (setF M F r 6) i x.vis).fseq x.a) : Int), .slice q1.1 ((visF (setF M F r 6) i x.vis).seen x.a ++ [(i, (F.fseq i))]).length q1.2, .slice q2.1 (lst (setN M F r 6 x.a)).length q2.2]) (C := meshC M (visF (setF M F r 6) i x.vis) x.Y) (C' := meshC M (visF (setF M F r 6) i (upd x.vis x.a true)) (updY x.Y x.a q1 q2)) ty55 rfl rfl rfl rfl zU (mesh_put_fwd (M := M) (F := (visF (setF M F r 6) i x.vis)) (F' := (visF (setF M F r 6) i (upd x.vis x.a true))) (Y := x.Y) (Y' := (updY x.Y x.a q1 q2)) ha6 rfl rfl (fun j hj => fwdC_else hj rfl (visF_other hj) rfl) (put_cells (A := fwdC (visF (setF M F r 6) i x.vis) x.Y x.a) (B := fwdC (visF (setF M F r 6) i (upd x.vis x.a true)) (updY x.Y x.a q1 q2) x.a) (cells := [.int .u8 2, .int .u8 0, .int .u8 0, .int .u8 0, .int .u8 2, .int .u8 (x.a : Int), .int .i64 (((visF (setF M F r 6) i x.vis).fseq x.a) : Int), .slice q1.1 ((visF (setF M F r 6) i x.vis).seen x.a ++ [(i, (F.fseq i))]).length q1.2, .slice q2.1 (lst (setN M F r 6 x.a)).length q2.2]) ((fwdC_at _ _ _ _ _).trans (by rw [visF_seen hnew]; rfl)) rfl)) ?_)
           refine VA.next (List.singleton_sublist.2 zM) Cells.nil ?_
           refine VA.done (by kernel_rfl) ?_
           refine VE.seq ?_
           refine VC.seq ?_
           refine VC.seq ?_
           refine VC.region ?_
           refine VL.q (Q.move rfl) ?_
           refine VL.q (Q.move rfl) ?_
           refine VL.quietE (v' := .bool false) (by decide) (Q.ne rfl rfl) (congrArg Value.bool (by rw [hra]; simp)) ?_
           refine VL.nil ?_
           refine VE.seq ?_
           refine VC.condF rfl ?_
           refine VC.skip ?_
           refine VE.seq ?_
           refine VC.seq ?_
           refine VC.region ?_
           refine VL.q (Q.loadA ty55 rfl zM zS) ?_
           refine VL.q (Q.loadA ty156 rfl zM zS) ?_
           have hok2 : FOk x.a ((visF (setF M F r 6) i x.vis).fseq x.a) ((visF (setF M F r 6) i x.vis).seen x.a ++ [(i, (F.fseq i))]) (lst (setN M F r 6 x.a)) := by
            have := hFy.ok (by omega) ha6
            rwa [visF_seen hnew] at this
           refine VL.eff (O.call0 ok50 rfl rfl (by decide) (receive2_c x.a ((visF (setF M F r 6) i x.vis).fseq x.a) q1 ((visF (setF M F r 6) i x.vis).seen x.a ++ [(i, (F.fseq i))]) q2 (setN M F r 6 x.a) hok2 hq1 pd2 m cd2 l hl (by omega) x.f i r (F.fseq i) (31 - x.st) hfa hia (by have := hF.fs i; omega) (by omega) (by have := seen_ln hFy ha6 (by omega); rwa [visF_seen hnew] at this) hr (fun h => absurd hra h)) (fun _ _ hw => ⟨⟨Rd.row hw zM, Rd.row hw zM⟩, Rd.row hw zM⟩) ?_)
           intro x164 y164
           rcases x164 with ⟨s1, s2⟩ | ⟨s1, s2, sd⟩ | ⟨v, s1, s2, sd⟩
           ·
            refine VL.q (Q.move rfl) ?_
            refine VL.q (Q.extract rfl rfl) ?_
            refine VL.q (Q.extract rfl rfl) ?_
            refine VL.q (Q.extract rfl rfl) ?_
            refine VL.q (Q.extract rfl rfl) ?_
            refine VL.eff (O.alloc zo55 (by decide) ?_)
            intro g30
            refine VL.eff (O.alloc zo156 (by decide) ?_)
            intro g32
            refine VL.eff (O.store ty55 rfl rfl rfl rfl zU zP ?_)
            refine VL.q (Q.assign rfl) ?_
            refine VL.eff (O.store ty156 rfl rfl rfl rfl zU zP ?_)
            refine VL.q (Q.assign rfl) ?_
            refine VL.nil ?_
            refine VE.seq ?_
            refine VC.seq ?_
            refine VA.start (Ls := [.blk g29 [.int .u8 2, .int .u8 0, .int .u8 0, .int .u8 0, .int .u8 2, .int .u8 (x.f : Int), .int .u8 2, .int .u8 0, .int .u8 0, .int .u8 0, .int .u8 2, .int .u8 (x.a : Int), .int .u8 2, .int .u8 0, .int .u8 0, .int .u8 0, .int .u8 2, .int .u8 (i : Int), .int .u8 2, .int .u8 0, .int .u8 0, .int .u8 0, .int .u8 2, .int .u8 (r : Int), .int .u8 2, .int .u8 0, .int .u8 0, .int .u8 0, .int .u8 2, .int .u8 (i : Int), .int .u8 2, .int .u8 9, .int .u8 9, .int .u8 9, .int .u8 9, .int .u8 9, .int .i64 ((F.fseq i) : Int), .int .i64 ((31 - x.st : Nat) : Int), .slice qd.1 m qd.2] 156, .row (.slice qd.1 m qd.2) 5 1 m (bs l), .blk g8 [.int .u8 2, .int .u8 9, .int .u8 9, .int .u8 9, .int .u8 9, .int .u8 9] 44]) (Cs := []) mixed ?_
            refine VA.tk 0 rfl (Still.then (Still.block (Still.then (Still.then (Still.block (Still.then Still.body)))))) zB Cells.nil (Quiet.c (Q.move rfl)) ?_
            refine VA.tk 1 rfl (Still.then (Still.block (Still.then (Still.then (Still.block (Still.then Still.body)))))) zB Cells.nil (Quiet.c (Q.eq rfl rfl)) ?_
            refine VA.tk 2 rfl (Still.then (Still.block (Still.then (Still.then (Still.block (Still.then Still.body)))))) zB Cells.nil (Quiet.c (Q.move rfl)) ?_
            refine VA.takeY 3 rfl rfl rfl (by kernel_rfl) (by kernel_rfl) (by kernel_rfl) (Still.then (Still.block (Still.then (Still.then (Still.block (Still.then Still.body)))))) zB Cells.nil (by decide) (Quiet.c (Q.move rfl)) ?_
            refine VA.takeY 4 rfl rfl rfl (by kernel_rfl) (by kernel_rfl) (by kernel_rfl) (Still.then (Still.block (Still.then (Still.then (Still.block (Still.then Still.body)))))) zB Cells.nil (by decide) (Quiet.c (Q.eq rfl rfl)) ?_
            refine VA.tk 5 rfl (Still.then (Still.block (Still.then (Still.then (Still.block (Still.then Still.body)))))) zB Cells.nil (Quiet.c (Q.pick_true rfl rfl)) ?_
            refine VA.tk 6 rfl (Still.then (Still.block (Still.then (Still.then (Still.block (Still.then Still.body)))))) zB Cells.nil (Quiet.c (Q.move rfl)) ?_
            refine VA.takeY 7 rfl rfl rfl (by kernel_rfl) (by kernel_rfl) (by kernel_rfl) (Still.then (Still.block (Still.then (Still.then (Still.block (Still.then Still.body)))))) zB Cells.nil (by decide) (Quiet.c (Q.move rfl)) ?_
            refine VA.takeY 8 rfl rfl rfl (by kernel_rfl) (by kernel_rfl) (by kernel_rfl) (Still.then (Still.block (Still.then (Still.then (Still.block (Still.then Still.body)))))) zB Cells.nil (by decide) (Quiet.c (Q.eq rfl rfl)) ?_
            refine VA.tk 9 rfl (Still.then (Still.block (Still.then (Still.then (Still.block (Still.then Still.body)))))) zB Cells.nil (Quiet.c (Q.pick_true rfl rfl)) ?_
            refine VA.tk 10 rfl (Still.then (Still.block (Still.then (Still.then (Still.block (Still.then Still.body)))))) zB Cells.nil (Quiet.c (Q.move rfl)) ?_
            refine VA.takeY 11 rfl rfl rfl (by kernel_rfl) (by kernel_rfl) (by kernel_rfl) (Still.then (Still.block (Still.then (Still.then (Still.block (Still.then Still.body)))))) zB Cells.nil (by decide) (Quiet.c (Q.fieldAddr fa156_5 rfl)) ?_
            refine VA.takeY 12 rfl rfl rfl (by kernel_rfl) (by kernel_rfl) (by kernel_rfl) (Still.then (Still.block (Still.then (Still.then (Still.block (Still.then Still.body)))))) zB Cells.nil (by decide) (Quiet.c (Q.loadA ty44 rfl zM zS)) ?_
            refine VA.takeY 13 rfl rfl rfl (by kernel_rfl) (by kernel_rfl) (by kernel_rfl) (Still.then (Still.block (Still.then (Still.then (Still.block (Still.then Still.body)))))) zB Cells.nil (by decide) (Quiet.c (Q.loadA ty44 rfl zM zS)) ?_
            refine VA.takeY 14 rfl rfl rfl (by kernel_rfl) (by kernel_rfl) (by kernel_rfl) (Still.then (Still.block (Still.then (Still.then (Still.block (Still.then Still.body)))))) zB Cells.nil (by decide) (Quiet.c (Q.eqS flt44 (by decide) ty44 eg44 rfl rfl rfl rfl)) ?_
            refine VA.tk 15 rfl (Still.then (Still.block (Still.then (Still.then (Still.block (Still.then Still.body)))))) zB Cells.nil (Quiet.c (Q.pick_true rfl rfl)) ?_
            refine VA.tk 16 rfl (Still.then (Still.block (Still.then (Still.then (Still.block (Still.then Still.body)))))) zB Cells.nil (Quiet.c (Q.move rfl)) ?_
            refine VA.takeY 17 rfl rfl rfl (by kernel_rfl) (by kernel_rfl) (by kernel_rfl) (Still.then (Still.block (Still.then (Still.then (Still.block (Still.then Still.body)))))) zB Cells.nil (by decide) (Quiet.c (Q.fieldAddr fa156_4 rfl)) ?_
            refine VA.takeY 18 rfl rfl rfl (by kernel_rfl) (by kernel_rfl) (by kernel_rfl) (Still.then (Still.block (Still.then (Still.then (Still.block (Still.then Still.body)))))) zB Cells.nil (by decide) (Quiet.c (Q.loadA ty44 rfl zM zS)) ?_
            refine VA.takeY 19 rfl rfl rfl (by kernel_rfl) (by kernel_rfl) (by kernel_rfl) (Still.then (Still.block (Still.then (Still.then (Still.block (Still.then Still.body)))))) zB Cells.nil (by decide) (Quiet.c (Q.move rfl)) ?_
            refine VA.all (rs := [20]) (by kernel_rfl) (by simp) ?_
            refine VA.forall1 ?_
            ·
             refine VA.effY rfl rfl rfl ?_
             refine id (O.call0 ok35 rfl rfl (by decide) (nodeOf_c i (by omega)) (fun _ _ _ => trivial) ?_)
             intro x189 y189
             refine VA.next zB Cells.nil ?_
             refine VA.takeY 21 rfl rfl rfl (by kernel_rfl) (by kernel_rfl) (by kernel_rfl) (Still.then (Still.block (Still.then (Still.then (Still.block (Still.then Still.body)))))) zB Cells.nil (by decide) (Quiet.c (Quiet.to (v' := .bool true) (Q.eqS flt44 (by decide) ty44 eg44 rfl rfl rfl rfl) (congrArg Value.bool ((node_eq i i).trans (decide_eq_true rfl))))) ?_
             refine VA.tk 22 rfl (Still.then (Still.block (Still.then (Still.then (Still.block (Still.then Still.body)))))) zB Cells.nil (Quiet.c (Q.pick_true rfl rfl)) ?_
             refine VA.tk 23 rfl (Still.then (Still.block (Still.then (Still.then (Still.block (Still.then Still.body)))))) zB Cells.nil (Quiet.c (Q.move rfl)) ?_
             refine VA.takeY 24 rfl rfl rfl (by kernel_rfl) (by kernel_rfl) (by kernel_rfl) (Still.then (Still.block (Still.then (Still.then (Still.block (Still.then Still.body)))))) zB Cells.nil (by decide) (Quiet.c (Q.fieldAddr fa156_8 rfl)) ?_
             refine VA.takeY 25 rfl rfl rfl (by kernel_rfl) (by kernel_rfl) (by kernel_rfl) (Still.then (Still.block (Still.then (Still.then (Still.block (Still.then Still.body)))))) zB Cells.nil (by decide) (Quiet.c (Q.load1 ty23 rfl zM rfl)) ?_
             refine VA.takeY 26 rfl rfl rfl (by kernel_rfl) (by kernel_rfl) (by kernel_rfl) (Still.then (Still.block (Still.then (Still.then (Still.block (Still.then Still.body)))))) zB Cells.nil (by decide) (Quiet.c (Q.convStrP sl23 ti5 ust rfl hl (fun _ _ hw => Rd.row hw zM))) ?_
             refine VA.takeY 27 rfl rfl rfl (by kernel_rfl) (by kernel_rfl) (by kernel_rfl) (Still.then (Still.block (Still.then (Still.then (Still.block (Still.then Still.body)))))) zB Cells.nil (by decide) (Quiet.c (Q.move rfl)) ?_
             refine VA.takeY 28 rfl rfl rfl (by kernel_rfl) (by kernel_rfl) (by kernel_rfl) (Still.then (Still.block (Still.then (Still.then (Still.block (Still.then Still.body)))))) zB Cells.nil (by decide) (Quiet.c (Q.convStrP sl23 ti5 ust rfl hl (fun _ ho _ => hro.only ho hdis))) ?_
             refine VA.takeY 29 rfl rfl rfl (by kernel_rfl) (by kernel_rfl) (by kernel_rfl) (Still.then (Still.block (Still.then (Still.then (Still.block (Still.then Still.body)))))) zB Cells.nil (by decide) (Quiet.c (Q.eqStr rfl rfl)) ?_
             refine VA.tk 30 rfl (Still.then (Still.block (Still.then (Still.then (Still.block (Still.then Still.body)))))) zB Cells.nil (Quiet.c (Q.pick_true rfl rfl)) ?_
             refine VA.tk 31 rfl (Still.then (Still.block (Still.then (Still.then (Still.block (Still.then Still.body)))))) zB Cells.nil (Quiet.c (Q.assign rfl)) ?_
             refine VA.done (by kernel_rfl) ?_
             refine VE.seq ?_
             refine VC.ret ?_
             refine VE.block_ret ?_
             refine VE.then_ret ?_
             refine VE.then_ret ?_
             refine VE.block_ret ?_
             refine VE.then_ret ?_
             refine VK.picks (Lin := mBlk g M (visF (setF M F r 6) i (upd x.vis x.a true)) ((updY x.Y x.a q1 q2)) :: mRow ((updY x.Y x.a q1 q2)) :: sRow q1 ((visF (setF M F r 6) i x.vis).seen x.a ++ [(i, (F.fseq i))]) :: nRow q2 (setN M F r 6 x.a) :: x.R) zM2 ?_
             exact VE.ret rfl (.tmp rfl .nil) ((visF (setF M F r 6) i (upd x.vis x.a true)), ((updY x.Y x.a q1 q2), sRow q1 ((visF (setF M F r 6) i x.vis).seen x.a ++ [(i, (F.fseq i))]) :: nRow q2 (setN M F r 6 x.a) :: x.R)) ⟨hFy, hH3⟩ rfl (List.Sublist.refl _)
           ·
            exact absurd (List.mem_append_right _ (List.mem_singleton.2 rfl)) (y164).1
           ·
            exact absurd (List.mem_append_right _ (List.mem_singleton.2 rfl)) (y164).1
         ·
          obtain ⟨_, hra, hv, hq1, hqd⟩ := hz
          have har : x.a ≠ r := fun e => hra e.symm
          rw [setN_six hF hr ha6] at hv
          obtain ⟨t1, ht1, hvv⟩ := Option.map_eq_some_iff.1 hv
          have hw2 := hw.next hI hr har ht1
          rw [hvv] at hw2
          have hH3 : Held M (visF (setF M F r 6) i (upd x.vis x.a true)) ((updY x.Y x.a q1 q2)) (sRow q1 ((visF (setF M F r 6) i x.vis).seen x.a ++ [(i, (F.fseq i))]) :: nRow q2 (setN M F r 6 x.a) :: x.R) := by
           have hs : (visF (setF M F r 6) i (upd x.vis x.a true)).seen x.a = (visF (setF M F r 6) i x.vis).seen x.a ++ [(i, (F.fseq i))] := visF_seen hnew
           have := held_fwd hHx (F' := (visF (setF M F r 6) i (upd x.vis x.a true))) (k := x.a) (fun j hj => visF_other hj) (fun _ _ => rfl) q1 q2 (by rw [hs]; exact hq1)
           rw [hs] at this
           exact this
          refine VC.seq ?_
          refine VC.seq ?_
          refine VC.region ?_
          refine VL.q (Q.move rfl) ?_
          refine VL.quietE (v' := .bool false) (by decide) (Q.ne rfl rfl) (by rfl) ?_
          refine VL.nil ?_
          refine VE.seq ?_
          refine VC.condF rfl ?_
          refine VC.skip ?_
          refine VE.seq ?_
          refine VC.seq ?_
          refine VA.start (Ls := [.blk g27 [.int .u8 2, .int .u8 0, .int .u8 0, .int .u8 0, .int .u8 2, .int .u8 (x.a : Int), .int .i64 (((visF (setF M F r 6) i x.vis).fseq x.a) : Int), .slice q1.1 ((visF (setF M F r 6) i x.vis).seen x.a ++ [(i, (F.fseq i))]).length q1.2, .slice q2.1 (lst (setN M F r 6 x.a)).length q2.2] 55]) (Cs := []) mixed ?_
          refine VA.tk 0 rfl (Still.then (Still.block (Still.then (Still.then (Still.block (Still.then Still.body)))))) (List.singleton_sublist.2 zM) Cells.nil (Quiet.c (Q.move rfl)) ?_
          refine VA.tk 1 rfl (Still.then (Still.block (Still.then (Still.then (Still.block (Still.then Still.body)))))) (List.singleton_sublist.2 zM) Cells.nil (Quiet.c (Q.move rfl)) ?_
          refine VA.tk 2 rfl (Still.then (Still.block (Still.then (Still.then (Still.block (Still.then Still.body)))))) (List.singleton_sublist.2 zM) Cells.nil (Quiet.c (Q.loadA ty55 rfl zM zS)) ?_
          refine VA.tk 3 rfl (Still.then (Still.block (Still.then (Still.then (Still.block (Still.then Still.body)))))) (List.singleton_sublist.2 zM) Cells.nil (Quiet.c (Q.nilCheck rfl)) ?_
          refine VA.tk 4 rfl (Still.then (Still.block (Still.then (Still.then (Still.block (Still.then Still.body)))))) (List.singleton_sublist.2 zM) Cells.nil (Quiet.c (Q.fieldAddr fa59_2 rfl)) ?_
          refine VA.tk 5 rfl (Still.then (Still.block (Still.then (Still.then (Still.block (Still.then Still.body)))))) (List.singleton_sublist.2 zM) Cells.nil (Quiet.c (Q.indexAddrA ar56 (j := x.a) rfl rfl rfl ha6)) ?_
          refine VA.all (rs := [6]) (by kernel_rfl) (by simp) ?_
          refine VA.forall1 ?_
          ·
           refine VA.eff rfl ?_
           refine id (O.store (xs := [.int .u8 2, .int .u8 0, .int .u8 0, .int .u8 0, .int .u8 2, .int .u8 (x.a : Int), .int .i64 (((visF (setF M F r 6) i x.vis).fseq x.a) : Int), .slice q1.1 ((visF (setF M F r 6) i x.vis).seen x.a ++ [(i, (F.fseq i))]).length q1.2, .slice q2.1 (lst (setN M F r 6 x.a)).length q2.2]) (C := meshC M (visF (setF M F r 6) i x.vis) x.Y) (C' := meshC M (visF (setF M F r 6) i (upd x.vis x.a true)) (updY x.Y x.a q1 q2)) ty55 rfl rfl rfl rfl zU (mesh_put_fwd (M := M) (F := (visF (setF M F r 6) i x.vis)) (F' := (visF (setF M F r 6) i (upd x.vis x.a true))) (Y := x.Y) (Y' := (updY x.Y x.a q1 q2)) ha6 rfl rfl (fun j hj => fwdC_else hj rfl (visF_other hj) rfl) (put_cells (A := fwdC (visF (setF M F r 6) i x.vis) x.Y x.a) (B := fwdC (visF (setF M F r 6) i (upd x.vis x.a true)) (updY x.Y x.a q1 q2) x.a) (cells := [.int .u8 2, .int .u8 0, .int .u8 0, .int .u8 0, .int .u8 2, .int .u8 (x.a : Int), .int .i64 (((visF (setF M F r 6) i x.vis).fseq x.a) : Int), .slice q1.1 ((visF (setF M F r 6) i x.vis).seen x.a ++ [(i, (F.fseq i))]).length q1.2, .slice q2.1 (lst (setN M F r 6 x.a)).length q2.2]) ((fwdC_at _ _ _ _ _).trans (by rw [visF_seen hnew]; rfl)) rfl)) ?_)
           refine VA.next (List.singleton_sublist.2 zM) Cells.nil ?_
           refine VA.done (by kernel_rfl) ?_
           refine VE.seq ?_
           refine VC.seq ?_
           refine VC.seq ?_
           refine VC.region ?_
           refine VL.q (Q.move rfl) ?_
           refine VL.q (Q.move rfl) ?_
           refine VL.quietE (v' := .bool true) (by decide) (Q.ne rfl rfl) (congrArg Value.bool (by simp; omega)) ?_
           refine VL.nil ?_
           refine VE.seq ?_
           refine VC.condT rfl ?_
           refine VC.seq ?_
           refine VC.seq ?_
           refine VC.region ?_
           refine VL.q (Q.move rfl) ?_
           refine VL.quietE (v' := .bool false) (by decide) (Q.ne rfl rfl) (by rfl) ?_
           refine VL.nil ?_
           refine VE.seq ?_
           refine VC.condF rfl ?_
           refine VC.skip ?_
           refine VE.seq ?_
           refine VC.seq ?_
           refine VC.region ?_
           refine VL.q (Q.loadA ty156 rfl zM zS) ?_
           refine VL.eff (O.store ty156 rfl rfl rfl rfl zU zP ?_)
           refine VL.nil ?_
           refine VE.seq ?_
           refine VC.exit ?_
           refine VE.then_exit ?_
           refine VE.block_here ?_
           refine VE.seq ?_
           refine VC.region ?_
           refine VL.q (Q.move rfl) ?_
           refine VL.q ((by first | exact Q.addI rfl rfl (by omega) (by omega) | exact Q.add rfl rfl)) ?_
           refine VL.q (Q.assign rfl) ?_
           refine VL.nil ?_
           refine VE.then_normal ?_
           refine VK.picks (Lin := .blk g19 [.int .u8 2, .int .u8 0, .int .u8 0, .int .u8 0, .int .u8 2, .int .u8 (x.a : Int), .int .u8 2, .int .u8 0, .int .u8 0, .int .u8 0, .int .u8 2, .int .u8 (v : Int), .int .u8 2, .int .u8 0, .int .u8 0, .int .u8 0, .int .u8 2, .int .u8 (i : Int), .int .u8 2, .int .u8 0, .int .u8 0, .int .u8 0, .int .u8 2, .int .u8 (r : Int), .int .u8 2, .int .u8 0, .int .u8 0, .int .u8 0, .int .u8 2, .int .u8 (i : Int), .int .u8 2, .int .u8 9, .int .u8 9, .int .u8 9, .int .u8 9, .int .u8 9, .int .i64 ((F.fseq i) : Int), .int .i64 ((31 - x.st - 1 : Nat) : Int), .slice qd.1 m qd.2] 156 :: .row (.slice qd.1 m qd.2) 5 1 m (bs l) :: .blk g8 [.int .u8 2, .int .u8 9, .int .u8 9, .int .u8 9, .int .u8 9, .int .u8 9] 44 :: mBlk g M (visF (setF M F r 6) i (upd x.vis x.a true)) ((updY x.Y x.a q1 q2)) :: mRow ((updY x.Y x.a q1 q2)) :: sRow q1 ((visF (setF M F r 6) i x.vis).seen x.a ++ [(i, (F.fseq i))]) :: nRow q2 (setN M F r 6 x.a) :: x.R) zM2 ?_
           skip
           exact VE.round ⟨x.st + 1, x.a, v, upd x.vis x.a true, (updY x.Y x.a q1 q2), sRow q1 ((visF (setF M F r 6) i x.vis).seen x.a ++ [(i, (F.fseq i))]) :: nRow q2 (setN M F r 6 x.a) :: x.R, qd.1, qd.2⟩ ⟨hw2, hH3, hqd⟩ (by show 6 - (x.st + 1) < 6 - x.st; omega) zE (List.Sublist.refl _)
        ·
         intro h108
         exfalso
         have := of_decide_eq_false h108
         omega

end Go.Proofs.YtencghlmckbmlaaGreat
