/- The contract of looking a tree up in the mesh. Conditions: those that it bears. -/
import Derived.Test.YtencghlmckbmlaaGreatRows
import Derived.Test.YtencghlmckbmlaaGreatZMesh
namespace Go.Proofs.YtencghlmckbmlaaGreat
open Go Go.RowKit Go.Sx
set_option maxRecDepth 100000

theorem ar51 : tyArr Tryz.prog 51 = some (6, 50, 11) := by kernel_rfl
theorem fa59_1 : tyField Tryz.prog 59 1 = some 36 := by kernel_rfl

open Go.Mesh
theorem inv_tsok {k : Nat} {M : Core} (h : Inv k M) (hk : k ≤ 1000) {i : Nat} (hi : i < 6) : TsOk i (lst (M.tree i)) where
  own := hi
  len := lst_len _
  el := fun p hp => by
    obtain ⟨hr, ht⟩ := mem_lst.1 hp
    have ho := h.tree i hi p.1 hr p.2 ht
    have hc := h.cost_lt hi hr ht
    have hrs := h.rs p.1
    have hq := ho.seqr
    have e : 5 * CM = 5000000000 := rfl
    refine ⟨hr, fun e => ho.ne e.symm, ho.par, fun e => ?_, ho.seq1, by omega, ho.hops1, by omega, hc.2.1, by omega, ho.till⟩
    have he := ho.edge
    rw [e, h.cdiag] at he
    omega
  srt := lst_srt _

theorem mtree_c (g : Nat) (M : Core) (F : Fwd) (Y : Lay) (R : List Rs) (hH : Held M F Y R) (i r : Nat) (hi : i < 6) (hr : r < 2) :
  Does Tryz.prog 45 [.pointer (some ⟨g, 0, none⟩), .int .i64 (i : Int), .int .i64 (r : Int)] [] (fun W => Own W (mBlk g M F Y :: mRow Y :: R)) (X := Option TreeV) (fun x => M.tree i r = x) (fun x => match x with | none => .tuple #[.agg #[.int .u8 0, .int .u8 0, .int .u8 0, .int .u8 0, .int .u8 0, .int .u8 0, .int .u8 0, .int .u8 0, .int .u8 0, .int .u8 0, .int .u8 0, .int .u8 0, .int .i64 0, .int .i64 0, .int .i64 0, .bool false, .int .i64 0], .bool false] | some t => .tuple #[.agg #[.int .u8 2, .int .u8 0, .int .u8 0, .int .u8 0, .int .u8 2, .int .u8 (r : Int), .int .u8 2, .int .u8 0, .int .u8 0, .int .u8 0, .int .u8 2, .int .u8 (t.parent : Int), .int .i64 (t.seq : Int), .int .i64 (t.hops : Int), .int .i64 (t.cost : Int), .bool (decide (r = 0)), .int .i64 (t.till : Int)], .bool true]) (fun _ => []) := by
 refine Does.enter Tryz.func45 rfl (m := 46) rfl (by simp) ?_
 intro W0 hro
 have hT := (own_cell hro (.head _) (36 + i * 11 + 9)).trans ((mesh_root M F Y hi).spec.2 9 _ rfl)
 have hrd : Rd W0 (Y.tv i).1 ((lst (M.tree i)).flatMap treeC) := Rd.row hro (.tail _ (.tail _ (hH.tr i hi)))
 have hlen := lst_len (M.tree i)
 generalize (Y.tv i).1 = p at hT hrd
 generalize (Y.tv i).2 = c at hT
 generalize hl : lst (M.tree i) = l at hT hrd hlen
 refine VC.seq ?_
 refine VC.region ?_
 refine VL.eff (O.alloc zo151 (by decide) ?_)
 intro g6
 refine VL.q (Q.assign rfl) ?_
 refine VL.nil ?_
 refine VE.seq ?_
 refine VC.seq ?_
 refine VC.seq ?_
 refine VC.region ?_
 refine VL.q (Q.assign rfl) ?_
 refine VL.nil ?_
 refine VE.seq ?_
 refine VC.block ?_
 refine VC.loop (X := Nat) (fun k => [(0, .pointer (some ⟨g, 0, none⟩)), (1, .int .i64 (i : Int)), (2, .int .i64 (r : Int)), (6, .pointer (some ⟨g6, 0, none⟩)), (8, .int .i64 (k : Int))]) (fun k => [.blk g6 [.int .u8 0, .int .u8 0, .int .u8 0, .int .u8 0, .int .u8 0, .int .u8 0, .int .u8 0, .int .u8 0, .int .u8 0, .int .u8 0, .int .u8 0, .int .u8 0, .int .i64 0, .int .i64 0, .int .i64 0, .bool false, .int .i64 0] 151]) (fun k => IXB l (fun q => decide (q.1 = r)) k) (fun k => l.length - k) 0 IXB.zero ?_ ?_
 ·
  exact VS.mk zE (List.Sublist.refl _)
 ·
  intro k hk
  have hkl := hk.1
  refine VC.seq ?_
  refine VC.seq ?_
  refine VC.region ?_
  refine VL.q (Q.move rfl) ?_
  refine VL.q (Q.move rfl) ?_
  refine VL.q (Q.move rfl) ?_
  refine VL.q (Q.nilCheck rfl) ?_
  refine VL.q (Q.fieldAddr fa59_1 rfl) ?_
  refine VL.q (Q.indexAddrA ar51 (j := i) rfl rfl rfl hi) ?_
  refine VL.q (Q.fieldAddr fa50_4 rfl) ?_
  refine VL.q (Q.load0 ty47 rfl hT (by simp)) ?_
  refine VL.q (Q.len sl47 rfl) ?_
  refine VL.q (Q.lt rfl rfl) ?_
  refine VL.nil ?_
  refine VE.seq ?_
  refine VC.cond rfl ?_ ?_
  ·
   intro h18
   have hlt : k < l.length := by have := of_decide_eq_true h18; omega
   obtain ⟨b0, o0, rfl⟩ := hrd.pos (by rw [fm_length treeC_len]; omega)
   refine VC.skip ?_
   refine VE.seq ?_
   refine VC.seq ?_
   refine VC.block ?_
   refine VC.seq ?_
   refine VA.start (Ls := []) (Cs := []) mixed ?_
   refine VA.tk 0 rfl (Still.then (Still.block (Still.then (Still.then (Still.block (Still.then Still.body)))))) (List.nil_sublist _) Cells.nil (Quiet.c (Q.move rfl)) ?_
   refine VA.tk 1 rfl (Still.then (Still.block (Still.then (Still.then (Still.block (Still.then Still.body)))))) (List.nil_sublist _) Cells.nil (Quiet.c (Q.move rfl)) ?_
   refine VA.tk 2 rfl (Still.then (Still.block (Still.then (Still.then (Still.block (Still.then Still.body)))))) (List.nil_sublist _) Cells.nil (Quiet.c (Q.nilCheck rfl)) ?_
   refine VA.tk 3 rfl (Still.then (Still.block (Still.then (Still.then (Still.block (Still.then Still.body)))))) (List.nil_sublist _) Cells.nil (Quiet.c (Q.fieldAddr fa59_1 rfl)) ?_
   refine VA.tk 4 rfl (Still.then (Still.block (Still.then (Still.then (Still.block (Still.then Still.body)))))) (List.nil_sublist _) Cells.nil (Quiet.c (Q.indexAddrA ar51 (j := i) rfl rfl rfl hi)) ?_
   refine VA.tk 5 rfl (Still.then (Still.block (Still.then (Still.then (Still.block (Still.then Still.body)))))) (List.nil_sublist _) Cells.nil (Quiet.c (Q.fieldAddr fa50_4 rfl)) ?_
   refine VA.tk 6 rfl (Still.then (Still.block (Still.then (Still.then (Still.block (Still.then Still.body)))))) (List.nil_sublist _) Cells.nil (Quiet.c (Q.load0 ty47 rfl hT (by simp))) ?_
   refine VA.tk 7 rfl (Still.then (Still.block (Still.then (Still.then (Still.block (Still.then Still.body)))))) (List.nil_sublist _) Cells.nil (Quiet.c (Q.move rfl)) ?_
   refine VA.tk 8 rfl (Still.then (Still.block (Still.then (Still.then (Still.block (Still.then Still.body)))))) (List.nil_sublist _) Cells.nil (Quiet.c (Q.indexAddr sl47 (j := k) rfl rfl rfl hlt)) ?_
   refine VA.tk 9 rfl (Still.then (Still.block (Still.then (Still.then (Still.block (Still.then Still.body)))))) (List.nil_sublist _) Cells.nil (Quiet.c (Q.fieldAddr fa151_0 rfl)) ?_
   refine VA.tk 10 rfl (Still.then (Still.block (Still.then (Still.then (Still.block (Still.then Still.body)))))) (List.nil_sublist _) Cells.nil (Quiet.c (Q.load0A (xs := nodeC l[k].1) ty44 rfl (Rd.sg2 hrd (fm_sub treeC_len l k hlt (o := 0) (ys := nodeC l[k].1) zS)) (by simp))) ?_
   refine VA.tk 11 rfl (Still.then (Still.block (Still.then (Still.then (Still.block (Still.then Still.body)))))) (List.nil_sublist _) Cells.nil (Quiet.c (Q.move rfl)) ?_
   refine VA.all (rs := [12]) (by kernel_rfl) (by simp) ?_
   refine VA.forall1 ?_
   ·
    refine VA.eff rfl ?_
    refine id (O.call0 ok35 rfl rfl (by decide) (nodeOf_c r (by omega)) (fun _ _ _ => trivial) ?_)
    intro x33 y33
    refine VA.next (List.nil_sublist _) Cells.nil ?_
    refine VA.tk 13 rfl (Still.then (Still.block (Still.then (Still.then (Still.block (Still.then Still.body)))))) (List.nil_sublist _) Cells.nil (Quiet.c (Q.eqS flt44 (by decide) ty44 eg44 rfl rfl rfl rfl)) ?_
    refine VA.done (by kernel_rfl) ?_
    refine VE.seq ?_
    refine VC.cond rfl ?_ ?_
    ·
     intro h34
     have hkr : l[k].1 = r := of_decide_eq_true ((node_eq _ _).symm.trans h34)
     refine VC.seq ?_
     refine VC.region ?_
     refine VL.q (Q.move rfl) ?_
     refine VL.q (Q.move rfl) ?_
     refine VL.q (Q.nilCheck rfl) ?_
     refine VL.q (Q.fieldAddr fa59_1 rfl) ?_
     refine VL.q (Q.indexAddrA ar51 (j := _) rfl rfl rfl (by omega)) ?_
     refine VL.q (Q.fieldAddr fa50_4 rfl) ?_
     refine VL.q (Q.load0 ty47 rfl hT (by simp)) ?_
     refine VL.q (Q.move rfl) ?_
     refine VL.q (Q.indexAddr sl47 (j := k) rfl rfl rfl hlt) ?_
     refine VL.q (Q.load0A (xs := treeC l[k]) ty151 rfl (Rd.sg hrd (fm_seg treeC_len l k hlt)) (by simp)) ?_
     refine VL.eff (O.store ty151 rfl rfl rfl rfl zU zP ?_)
     refine VL.q (Q.assign rfl) ?_
     refine VL.nil ?_
     refine VE.seq ?_
     refine VC.ret ?_
     refine VE.block_ret ?_
     refine VE.then_ret ?_
     refine VE.then_ret ?_
     refine VE.block_ret ?_
     refine VE.then_ret ?_
     have hf : M.tree i l[k].1 = some l[k].2 := by
      have hm : l[k] ∈ lst (M.tree i) := by rw [hl]; exact List.getElem_mem hlt
      exact (mem_lst.1 hm).2
     subst hkr
     exact VE.ret rfl (.cell ty151 rfl zM rfl (.tmp rfl .nil)) (some l[k].2) hf rfl zB
    ·
     intro h34
     have hkr : l[k].1 ≠ r := of_decide_eq_false ((node_eq _ _).symm.trans h34)
     refine VC.skip ?_
     refine VE.block_normal ?_
     refine VE.seq ?_
     refine VC.region ?_
     refine VL.q (Q.move rfl) ?_
     refine VL.q ((by first | exact Q.addI rfl rfl (by omega) (by omega) | exact Q.add rfl rfl)) ?_
     refine VL.q (Q.assign rfl) ?_
     refine VL.nil ?_
     refine VE.then_normal ?_
     exact VE.round (k + 1) (hk.next hlt (decide_eq_false hkr)) (by omega) zE (List.Sublist.refl _)
  ·
   intro h18
   have hlt : ¬ k < l.length := by have := of_decide_eq_false h18; omega
   refine VC.exit ?_
   refine VE.then_exit ?_
   refine VE.then_exit ?_
   refine VE.block_here ?_
   refine VE.seq ?_
   refine VC.seq ?_
   refine VC.region ?_
   refine VL.q (Q.build lay151 zF) ?_
   refine VL.eff (O.store ty151 rfl rfl rfl rfl zU zP ?_)
   refine VL.q (Q.assign rfl) ?_
   refine VL.nil ?_
   refine VE.seq ?_
   refine VC.ret ?_
   have hf : M.tree i r = none := by
    cases hc : M.tree i r with
    | none => rfl
    | some t =>
     exfalso
     have hm : (r, t) ∈ l := by rw [← hl]; exact mem_lst.2 ⟨hr, hc⟩
     obtain ⟨j, hj, e⟩ := List.mem_iff_getElem.1 hm
     exact of_decide_eq_false (hk.2 j hj (by omega)) (by rw [e])
   exact VE.ret rfl (.cell ty151 rfl zM rfl (.tmp rfl .nil)) none hf rfl zB

end Go.Proofs.YtencghlmckbmlaaGreat
