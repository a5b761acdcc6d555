/- The contracts of spreading announcements in the mesh. Conditions: those that each bears. -/
import Derived.Test.YtencghlmckbmlaaGreatRows
import Derived.Test.YtencghlmckbmlaaGreatZTree
namespace Go.Proofs.YtencghlmckbmlaaGreat
open Go Go.RowKit Go.Sx
set_option maxRecDepth 100000

theorem ar45 : tyArr Tryz.prog 45 = some (6, 3, 1) := by kernel_rfl
theorem ar46 : tyArr Tryz.prog 46 = some (6, 45, 6) := by kernel_rfl
theorem fa59_0 : tyField Tryz.prog 59 0 = some 0 := by kernel_rfl
theorem fa59_3 : tyField Tryz.prog 59 3 = some 156 := by kernel_rfl
theorem lay137 : laysOf Tryz.prog 137 = some ([.int .i64 0, .int .i64 0, .int .u8 0, .int .u8 0, .bool false, .bool false, .bool false, .bool false, .bool false, .bool false, .bool false, .int .i64 0, .int .u8 0, .int .u8 0, .int .u8 0, .int .u8 0, .int .u8 0, .int .u8 0, .int .u8 0, .int .u8 0, .int .u8 0, .int .u8 0, .int .u8 0, .int .u8 0, .int .u8 0, .int .u8 0, .int .u8 0, .int .u8 0, .int .u8 0, .int .u8 0, .int .u8 0, .int .u8 0, .int .u8 0, .int .u8 0, .int .u8 0, .int .u8 0, .int .i64 0, .int .i64 0, .int .i64 0, .int .u8 0, .bool false, .bool false, .slice none 0 0], [(0, 1), (1, 1), (2, 41)]) := by kernel_rfl
theorem ok103 : okFunc Tryz.prog 103 = true := by kernel_rfl
theorem ok104 : okFunc Tryz.prog 104 = true := by kernel_rfl
theorem sl57 : tySlice Tryz.prog 57 = some (137, 43, 120) := by kernel_rfl
theorem ty57 : tySz Tryz.prog 57 = some (false, 1) := by kernel_rfl
theorem ze137 : (Tryz.prog.info? 137).bind (·.zero) = some (.agg #[.int .i64 0, .int .i64 0, .int .u8 0, .int .u8 0, .bool false, .bool false, .bool false, .bool false, .bool false, .bool false, .bool false, .int .i64 0, .int .u8 0, .int .u8 0, .int .u8 0, .int .u8 0, .int .u8 0, .int .u8 0, .int .u8 0, .int .u8 0, .int .u8 0, .int .u8 0, .int .u8 0, .int .u8 0, .int .u8 0, .int .u8 0, .int .u8 0, .int .u8 0, .int .u8 0, .int .u8 0, .int .u8 0, .int .u8 0, .int .u8 0, .int .u8 0, .int .u8 0, .int .u8 0, .int .i64 0, .int .i64 0, .int .i64 0, .int .u8 0, .bool false, .bool false, .slice none 0 0]) := by kernel_rfl

open Go.Mesh
def spL (M : Core) (w : Word) (b : Option Addr × Nat) (k : Nat) : List (Word × (Option Addr × Nat)) := ((List.range k).filter fun j => decide (0 < M.cost w.src j)).map fun j => (⟨w.src, j, w.root, w.seq, w.hops, w.cost⟩, b)
def spY (M : Core) (w : Word) (b : Option Addr × Nat) (Y : Lay) (k : Nat) (mv : Option Addr × Nat) : Lay := { Y with mv := mv, mail := Y.mail ++ spL M w b k }
theorem spL_yes {M : Core} {w : Word} {b : Option Addr × Nat} {k : Nat} (h : 0 < M.cost w.src k) : spL M w b (k + 1) = spL M w b k ++ [(⟨w.src, k, w.root, w.seq, w.hops, w.cost⟩, b)] := by
  unfold spL
  rw [List.range_succ, List.filter_append]
  simp [h]
theorem spL_no {M : Core} {w : Word} {b : Option Addr × Nat} {k : Nat} (h : ¬ 0 < M.cost w.src k) : spL M w b (k + 1) = spL M w b k := by
  unfold spL
  rw [List.range_succ, List.filter_append]
  simp [h]
theorem spY_no {M : Core} {w : Word} {b : Option Addr × Nat} {Y : Lay} {k : Nat} {mv : Option Addr × Nat} (h : ¬ 0 < M.cost w.src k) : spY M w b Y (k + 1) mv = spY M w b Y k mv := by
  unfold spY
  rw [spL_no h]
theorem spY_zero (M : Core) (w : Word) (b : Option Addr × Nat) (Y : Lay) : spY M w b Y 0 Y.mv = Y := by
  unfold spY spL
  simp
theorem spY_yes {M : Core} {w : Word} {b : Option Addr × Nat} {Y : Lay} {k : Nat} {mv mv' : Option Addr × Nat} (h : 0 < M.cost w.src k) : (spY M w b Y (k + 1) mv').mail = (spY M w b Y k mv).mail ++ [(⟨w.src, k, w.root, w.seq, w.hops, w.cost⟩, b)] := by
  unfold spY
  rw [spL_yes h, List.append_assoc]
theorem spL_len (M : Core) (w : Word) (b : Option Addr × Nat) (k : Nat) : (spL M w b k).length ≤ k := by
  unfold spL
  rw [List.length_map]
  exact Nat.le_trans (List.length_filter_le _ _) (by simp)
theorem spY_len (M : Core) (w : Word) (b : Option Addr × Nat) (Y : Lay) (k : Nat) (mv : Option Addr × Nat) : (spY M w b Y k mv).mail.length ≤ Y.mail.length + k := by
  have := spL_len M w b k
  unfold spY
  rw [List.length_append]
  omega
theorem spL_words (M : Core) (w : Word) (b : Option Addr × Nat) : (spL M w b 6).map (·.1) = spreadW M w.src w.root w.seq w.hops w.cost := by
  unfold spL spreadW
  rw [List.map_map]
  rfl
theorem mem_spL {M : Core} {w : Word} {b : Option Addr × Nat} {k : Nat} {x : Word × (Option Addr × Nat)} (h : x ∈ spL M w b k) : x.2 = b ∧ x.1.root = w.root ∧ x.1.seq = w.seq ∧ x.1.hops = w.hops ∧ x.1.cost = w.cost := by
  unfold spL at h
  obtain ⟨j, _, rfl⟩ := List.mem_map.1 h
  exact ⟨rfl, rfl, rfl, rfl, rfl⟩
theorem room_row {m : Nat} (h : m ≤ 1000006) : (m + 1) * 120 ≤ 140737488355328 := by omega

theorem spread_c (g : Nat) (M : Core) (F : Fwd) (Y : Lay) (R : List Rs) (i r s h co : Nat) (hi : i < 6) (hr : r < 2) (hs : 1 ≤ s ∧ s ≤ 2147483647) (hh : h ≤ 15) (hco : co ≤ 1099511627776) (hml : Y.mail.length ≤ 1000000) :
  Does Tryz.prog 39 [.pointer (some ⟨g, 0, none⟩), .int .i64 (i : Int), .agg #[.int .u8 2, .int .u8 0, .int .u8 0, .int .u8 0, .int .u8 2, .int .u8 (r : Int), .int .i64 (s : Int), .int .i64 (h : Int), .int .i64 (co : Int), .bool (decide (r = 0))]] (mBlk g M F Y :: mRow Y :: R) (fun _ => True) (X := (Option Addr × Nat) × (Option Addr × Nat)) (fun _ => True) (fun _ => .bool true) (fun x => mBlk g M F (spY M (⟨i, 0, r, s, h, co⟩ : Word) x.1 Y 6 x.2) :: mRow (spY M (⟨i, 0, r, s, h, co⟩ : Word) x.1 Y 6 x.2) :: .row (.slice x.1.1 23 x.1.2) 5 1 23 (bs (actB (wordB r s h co))) :: R) := by
 refine Does.enter Tryz.func39 rfl (m := 63) rfl (by simp) ?_
 intro W0 hro
 refine VC.seq ?_
 refine VC.region ?_
 refine VL.eff (O.box rfl rfl (by decide) ?_)
 intro g5
 refine VL.q (Q.assign rfl) ?_
 refine VL.nil ?_
 refine VE.seq ?_
 refine VC.seq ?_
 refine VC.region ?_
 refine VL.q (Q.loadA ty132 rfl zM zS) ?_
 refine VL.eff (O.call0 ok103 rfl rfl (by decide) (rencode_c r s h co hr hs hh hco) (fun _ _ _ => trivial) ?_)
 intro x14 y14
 obtain ⟨pw, cw⟩ := x14
 refine VL.q (Q.move rfl) ?_
 refine VL.q (Q.extract rfl rfl) ?_
 refine VL.q (Q.extract rfl rfl) ?_
 refine VL.q (Q.assign rfl) ?_
 refine VL.q (Q.assign rfl) ?_
 refine VL.nil ?_
 refine VE.seq ?_
 refine VC.seq ?_
 refine VC.region ?_
 refine VL.q (Q.move rfl) ?_
 refine VL.q (Q.build lay141 zF) ?_
 refine VL.eff (O.call0 ok104 rfl rfl (by decide) (encact_c pw 20 cw (wordB r s h co) rfl (by decide) (by decide)) (fun _ _ hw => Rd.row hw zM) ?_)
 intro x20 y20
 obtain ⟨pb, cb⟩ := x20
 refine VK.picks (Lin := mBlk g M F Y :: mRow Y :: .row (.slice pb 23 cb) 5 1 23 (bs (actB (wordB r s h co))) :: R) zM2 ?_
 refine VL.q (Q.move rfl) ?_
 refine VL.q (Q.extract rfl rfl) ?_
 refine VL.q (Q.extract rfl rfl) ?_
 refine VL.q (Q.assign rfl) ?_
 refine VL.q (Q.assign rfl) ?_
 refine VL.nil ?_
 refine VE.seq ?_
 refine VC.seq ?_
 refine VC.seq ?_
 refine VC.region ?_
 refine VL.q (Q.move rfl) ?_
 refine VL.quietE (v' := .bool false) (by decide) (Q.ne rfl rfl) (by rfl) ?_
 refine VL.q (Q.move rfl) ?_
 refine VL.yes rfl rfl ?_
 refine VL.q (Q.move rfl) ?_
 refine VL.yes rfl rfl ?_
 refine VL.quietE (v' := .bool false) (by decide) (Q.ne rfl rfl) (by rfl) ?_
 refine VL.quietE (v' := .bool false) (by decide) (Q.pick_false rfl rfl) (by rfl) ?_
 refine VL.nil ?_
 refine VE.seq ?_
 refine VC.condF rfl ?_
 refine VC.skip ?_
 refine VE.seq ?_
 refine VC.seq ?_
 refine VC.seq ?_
 refine VC.region ?_
 refine VL.q (Q.assign rfl) ?_
 refine VL.nil ?_
 refine VE.seq ?_
 refine VC.block ?_
 refine VC.loop (X := Nat × (Option Addr × Nat)) (fun x => [(0, .pointer (some ⟨g, 0, none⟩)), (1, .int .i64 (i : Int)), (9, .slice pb 23 cb), (11, .int .i64 (x.1 : Int))]) (fun x => (mBlk g M F (spY M (⟨i, 0, r, s, h, co⟩ : Word) (pb, cb) Y x.1 x.2) :: mRow (spY M (⟨i, 0, r, s, h, co⟩ : Word) (pb, cb) Y x.1 x.2) :: .row (.slice pb 23 cb) 5 1 23 (bs (actB (wordB r s h co))) :: R)) (fun x => x.1 ≤ 6) (fun x => 6 - x.1) (0, Y.mv) (Nat.zero_le _) ?_ ?_
 ·
  exact VS.mk zE (by simp only [spY_zero]; exact List.Sublist.refl _)
 ·
  intro x hk
  have hlk := spY_len M (⟨i, 0, r, s, h, co⟩ : Word) (pb, cb) Y x.1 x.2
  refine VC.seq ?_
  refine VC.seq ?_
  refine VC.region ?_
  refine VL.q (Q.move rfl) ?_
  refine VL.q (Q.lt rfl rfl) ?_
  refine VL.nil ?_
  refine VE.seq ?_
  refine VC.cond rfl ?_ ?_
  ·
   intro h30
   have hlt : x.1 < 6 := by have := of_decide_eq_true h30; omega
   refine VC.skip ?_
   refine VE.seq ?_
   refine VC.seq ?_
   refine VC.block ?_
   refine VC.seq ?_
   refine VC.region ?_
   refine VL.q (Q.move rfl) ?_
   refine VL.q (Q.move rfl) ?_
   refine VL.q (Q.move rfl) ?_
   refine VL.q (Q.nilCheck rfl) ?_
   refine VL.q (Q.fieldAddr fa59_0 rfl) ?_
   refine VL.q (Q.indexAddrA ar46 (j := i) rfl rfl rfl hi) ?_
   refine VL.q (Q.indexAddrA ar45 (j := x.1) rfl rfl rfl hlt) ?_
   refine VL.q (Q.load1 ty3 rfl zM (by rw [Nat.mul_one]; exact mesh_cost M F _ hi hlt)) ?_
   refine VL.q (Q.gt rfl rfl) ?_
   refine VL.nil ?_
   refine VE.seq ?_
   refine VC.cond rfl ?_ ?_
   ·
    intro h41
    have hc0 : 0 < M.cost i x.1 := by have := of_decide_eq_true h41; omega
    refine VA.start (Ls := []) (Cs := []) mixed ?_
    refine VA.tk 0 rfl (Still.block (Still.then (Still.then (Still.block (Still.then Still.body))))) (List.nil_sublist _) Cells.nil (Quiet.c (Q.move rfl)) ?_
    refine VA.tk 1 rfl (Still.block (Still.then (Still.then (Still.block (Still.then Still.body))))) (List.nil_sublist _) Cells.nil (Quiet.c (Q.move rfl)) ?_
    refine VA.tk 2 rfl (Still.block (Still.then (Still.then (Still.block (Still.then Still.body))))) (List.nil_sublist _) Cells.nil (Quiet.c (Q.nilCheck rfl)) ?_
    refine VA.tk 3 rfl (Still.block (Still.then (Still.then (Still.block (Still.then Still.body))))) (List.nil_sublist _) Cells.nil (Quiet.c (Q.fieldAddr fa59_3 rfl)) ?_
    refine VA.tk 5 rfl (Still.block (Still.then (Still.then (Still.block (Still.then Still.body))))) (List.nil_sublist _) Cells.nil (Quiet.c (Q.move rfl)) ?_
    refine VA.tk 6 rfl (Still.block (Still.then (Still.then (Still.block (Still.then Still.body))))) (List.nil_sublist _) Cells.nil (Quiet.c (Q.move rfl)) ?_
    refine VA.tk 7 rfl (Still.block (Still.then (Still.then (Still.block (Still.then Still.body))))) (List.nil_sublist _) Cells.nil (Quiet.c (Q.move rfl)) ?_
    refine VA.tk 9 rfl (Still.block (Still.then (Still.then (Still.block (Still.then Still.body))))) (List.nil_sublist _) Cells.nil (Quiet.c (Q.move rfl)) ?_
    refine VA.tk 11 rfl (Still.block (Still.then (Still.then (Still.block (Still.then Still.body))))) (List.nil_sublist _) Cells.nil (Quiet.c (Q.move rfl)) ?_
    refine VA.tk 14 rfl (Still.block (Still.then (Still.then (Still.block (Still.then Still.body))))) (List.nil_sublist _) Cells.nil (Quiet.c (Q.move rfl)) ?_
    refine VA.all (rs := [4, 8]) (by kernel_rfl) (by simp) ?_
    refine VA.forall2 ?_ ?_
    ·
     refine VA.eff rfl ?_
     refine O.quiet (by decide) (Q.load1 ty57 rfl zM (mesh_mail M F _)) ?_
     refine VA.next (List.nil_sublist _) Cells.nil ?_
     refine VA.all (rs := [8]) (by kernel_rfl) (by simp) ?_
     refine VA.forall1 ?_
     ·
      refine VA.eff rfl ?_
      refine id (O.call0 ok35 rfl rfl (by decide) (nodeOf_c x.1 (by omega)) (fun _ _ _ => trivial) ?_)
      intro x50 y50
      refine VA.next (List.nil_sublist _) Cells.nil ?_
      refine VA.all (rs := [10]) (by kernel_rfl) (by simp) ?_
      refine VA.forall1 ?_
      ·
       refine VA.eff rfl ?_
       refine id (O.call0 ok35 rfl rfl (by decide) (nodeOf_c i (by omega)) (fun _ _ _ => trivial) ?_)
       intro x52 y52
       refine VA.next (List.nil_sublist _) Cells.nil ?_
       refine VA.all (rs := [12]) (by kernel_rfl) (by simp) ?_
       refine VA.forall1 ?_
       ·
        refine VA.eff rfl ?_
        refine id (O.call0 ok35 rfl rfl (by decide) (nodeOf_c i (by omega)) (fun _ _ _ => trivial) ?_)
        intro x54 y54
        refine VA.next (List.nil_sublist _) Cells.nil ?_
        refine VA.tk 13 rfl (Still.block (Still.then (Still.then (Still.block (Still.then Still.body))))) (List.nil_sublist _) Cells.nil (Quiet.c (Q.build lay103 zF)) ?_
        refine VA.tk 15 rfl (Still.block (Still.then (Still.then (Still.block (Still.then Still.body))))) (List.nil_sublist _) Cells.nil (Quiet.c (Q.build lay105 zF)) ?_
        refine VA.tk 16 rfl (Still.block (Still.then (Still.then (Still.block (Still.then Still.body))))) (List.nil_sublist _) Cells.nil (Quiet.c (Q.build lay137 zF)) ?_
        refine VA.all (rs := [17]) (by kernel_rfl) (by simp) ?_
        refine VA.forall1 ?_
        ·
         refine VA.eff rfl ?_
         refine id (O.buildSlice sl57 ze137 (by decide) zF (by decide) ?_)
         intro g59
         refine VA.next (List.nil_sublist _) Cells.nil ?_
         refine VA.all (rs := [18]) (by kernel_rfl) (by simp) ?_
         refine VA.forall1 ?_
         ·
          refine VA.eff rfl ?_
          refine id (O.append sl57 ze137 rfl (by decide) rfl rfl rfl rfl (by decide) (by unfold maxLen; omega) (room_row (by omega)) zA (fun _ _ hw => Rd.seg (k := 43) hw zM zS) ?_)
          intro pm cm hcm
          have hyl : (spY M (⟨i, 0, r, s, h, co⟩ : Word) (pb, cb) Y x.1 x.2).mail.length + 1 = (spY M (⟨i, 0, r, s, h, co⟩ : Word) (pb, cb) Y (x.1 + 1) (pm, cm)).mail.length := by rw [spY_yes hc0, List.length_append]; rfl
          have hyc : (spY M (⟨i, 0, r, s, h, co⟩ : Word) (pb, cb) Y x.1 x.2).mail.flatMap wordC ++ wordC (⟨i, x.1, r, s, h, co⟩, (pb, cb)) = (spY M (⟨i, 0, r, s, h, co⟩ : Word) (pb, cb) Y (x.1 + 1) (pm, cm)).mail.flatMap wordC := by rw [spY_yes (mv := x.2) hc0, fm_snoc]
          rw [hyl]
          refine VA.next (List.nil_sublist _) Cells.nil ?_
          refine VA.tk 19 rfl (Still.block (Still.then (Still.then (Still.block (Still.then Still.body))))) (List.nil_sublist _) Cells.nil (Quiet.c (Q.nilCheck rfl)) ?_
          refine VA.tk 20 rfl (Still.block (Still.then (Still.then (Still.block (Still.then Still.body))))) (List.nil_sublist _) Cells.nil (Quiet.c (Q.fieldAddr fa59_3 rfl)) ?_
          refine VA.all (rs := [21]) (by kernel_rfl) (by simp) ?_
          refine VA.forall1 ?_
          ·
           refine VA.eff rfl ?_
           refine id (O.store (v := mailS (spY M (⟨i, 0, r, s, h, co⟩ : Word) (pb, cb) Y (x.1 + 1) (pm, cm))) (xs := [mailS (spY M (⟨i, 0, r, s, h, co⟩ : Word) (pb, cb) Y (x.1 + 1) (pm, cm))]) (C := meshC M F (spY M (⟨i, 0, r, s, h, co⟩ : Word) (pb, cb) Y x.1 x.2)) (C' := meshC M F (spY M (⟨i, 0, r, s, h, co⟩ : Word) (pb, cb) Y (x.1 + 1) (pm, cm))) ty57 rfl rfl rfl rfl (.there .here) (mesh_put_mail rfl rfl rfl) ?_)
           refine VA.next (List.nil_sublist _) Cells.nil ?_
           refine VA.done (by kernel_rfl) ?_
           refine VE.block_normal ?_
           refine VE.seq ?_
           refine VC.region ?_
           refine VL.q (Q.move rfl) ?_
           refine VL.q ((by first | exact Q.addI rfl rfl (by omega) (by omega) | exact Q.add rfl rfl)) ?_
           refine VL.q (Q.assign rfl) ?_
           refine VL.nil ?_
           refine VE.then_normal ?_
           refine VK.picks (Lin := mBlk g M F (spY M (⟨i, 0, r, s, h, co⟩ : Word) (pb, cb) Y (x.1 + 1) (pm, cm)) :: .row (mailS (spY M (⟨i, 0, r, s, h, co⟩ : Word) (pb, cb) Y (x.1 + 1) (pm, cm))) 137 43 (spY M (⟨i, 0, r, s, h, co⟩ : Word) (pb, cb) Y (x.1 + 1) (pm, cm)).mail.length ((spY M (⟨i, 0, r, s, h, co⟩ : Word) (pb, cb) Y x.1 x.2).mail.flatMap wordC ++ wordC (⟨i, x.1, r, s, h, co⟩, (pb, cb))) :: .row (.slice pb 23 cb) 5 1 23 (bs (actB (wordB r s h co))) :: R) zM2 ?_
           rw [hyc]
           exact VE.round (x.1 + 1, (pm, cm)) (by omega) (by omega) zE (List.Sublist.refl _)
    ·
     refine VA.eff rfl ?_
     refine id (O.call0 ok35 rfl rfl (by decide) (nodeOf_c x.1 (by omega)) (fun _ _ _ => trivial) ?_)
     intro x50_1 y50_1
     refine VA.next (List.nil_sublist _) Cells.nil ?_
     refine VA.all (rs := [4, 10]) (by kernel_rfl) (by simp) ?_
     refine VA.forall2 ?_ ?_
     ·
      refine VA.eff rfl ?_
      refine O.quiet (by decide) (Q.load1 ty57 rfl zM (mesh_mail M F _)) ?_
      refine VA.next (List.nil_sublist _) Cells.nil ?_
      refine VA.all (rs := [10]) (by kernel_rfl) (by simp) ?_
      refine VA.forall1 ?_
      ·
       refine VA.eff rfl ?_
       refine id (O.call0 ok35 rfl rfl (by decide) (nodeOf_c i (by omega)) (fun _ _ _ => trivial) ?_)
       intro x52_1 y52_1
       refine VA.next (List.nil_sublist _) Cells.nil ?_
       refine VA.all (rs := [12]) (by kernel_rfl) (by simp) ?_
       refine VA.forall1 ?_
       ·
        refine VA.eff rfl ?_
        refine id (O.call0 ok35 rfl rfl (by decide) (nodeOf_c i (by omega)) (fun _ _ _ => trivial) ?_)
        intro x54_1 y54_1
        refine VA.next (List.nil_sublist _) Cells.nil ?_
        refine VA.tk 13 rfl (Still.block (Still.then (Still.then (Still.block (Still.then Still.body))))) (List.nil_sublist _) Cells.nil (Quiet.c (Q.build lay103 zF)) ?_
        refine VA.tk 15 rfl (Still.block (Still.then (Still.then (Still.block (Still.then Still.body))))) (List.nil_sublist _) Cells.nil (Quiet.c (Q.build lay105 zF)) ?_
        refine VA.tk 16 rfl (Still.block (Still.then (Still.then (Still.block (Still.then Still.body))))) (List.nil_sublist _) Cells.nil (Quiet.c (Q.build lay137 zF)) ?_
        refine VA.all (rs := [17]) (by kernel_rfl) (by simp) ?_
        refine VA.forall1 ?_
        ·
         refine VA.eff rfl ?_
         refine id (O.buildSlice sl57 ze137 (by decide) zF (by decide) ?_)
         intro g59_1
         refine VA.next (List.nil_sublist _) Cells.nil ?_
         refine VA.all (rs := [18]) (by kernel_rfl) (by simp) ?_
         refine VA.forall1 ?_
         ·
          refine VA.eff rfl ?_
          refine id (O.append sl57 ze137 rfl (by decide) rfl rfl rfl rfl (by decide) (by unfold maxLen; omega) (room_row (by omega)) zA (fun _ _ hw => Rd.seg (k := 43) hw zM zS) ?_)
          intro pm cm hcm
          have hyl : (spY M (⟨i, 0, r, s, h, co⟩ : Word) (pb, cb) Y x.1 x.2).mail.length + 1 = (spY M (⟨i, 0, r, s, h, co⟩ : Word) (pb, cb) Y (x.1 + 1) (pm, cm)).mail.length := by rw [spY_yes hc0, List.length_append]; rfl
          have hyc : (spY M (⟨i, 0, r, s, h, co⟩ : Word) (pb, cb) Y x.1 x.2).mail.flatMap wordC ++ wordC (⟨i, x.1, r, s, h, co⟩, (pb, cb)) = (spY M (⟨i, 0, r, s, h, co⟩ : Word) (pb, cb) Y (x.1 + 1) (pm, cm)).mail.flatMap wordC := by rw [spY_yes (mv := x.2) hc0, fm_snoc]
          rw [hyl]
          refine VA.next (List.nil_sublist _) Cells.nil ?_
          refine VA.tk 19 rfl (Still.block (Still.then (Still.then (Still.block (Still.then Still.body))))) (List.nil_sublist _) Cells.nil (Quiet.c (Q.nilCheck rfl)) ?_
          refine VA.tk 20 rfl (Still.block (Still.then (Still.then (Still.block (Still.then Still.body))))) (List.nil_sublist _) Cells.nil (Quiet.c (Q.fieldAddr fa59_3 rfl)) ?_
          refine VA.all (rs := [21]) (by kernel_rfl) (by simp) ?_
          refine VA.forall1 ?_
          ·
           refine VA.eff rfl ?_
           refine id (O.store (v := mailS (spY M (⟨i, 0, r, s, h, co⟩ : Word) (pb, cb) Y (x.1 + 1) (pm, cm))) (xs := [mailS (spY M (⟨i, 0, r, s, h, co⟩ : Word) (pb, cb) Y (x.1 + 1) (pm, cm))]) (C := meshC M F (spY M (⟨i, 0, r, s, h, co⟩ : Word) (pb, cb) Y x.1 x.2)) (C' := meshC M F (spY M (⟨i, 0, r, s, h, co⟩ : Word) (pb, cb) Y (x.1 + 1) (pm, cm))) ty57 rfl rfl rfl rfl (.there .here) (mesh_put_mail rfl rfl rfl) ?_)
           refine VA.next (List.nil_sublist _) Cells.nil ?_
           refine VA.done (by kernel_rfl) ?_
           refine VE.block_normal ?_
           refine VE.seq ?_
           refine VC.region ?_
           refine VL.q (Q.move rfl) ?_
           refine VL.q ((by first | exact Q.addI rfl rfl (by omega) (by omega) | exact Q.add rfl rfl)) ?_
           refine VL.q (Q.assign rfl) ?_
           refine VL.nil ?_
           refine VE.then_normal ?_
           refine VK.picks (Lin := mBlk g M F (spY M (⟨i, 0, r, s, h, co⟩ : Word) (pb, cb) Y (x.1 + 1) (pm, cm)) :: .row (mailS (spY M (⟨i, 0, r, s, h, co⟩ : Word) (pb, cb) Y (x.1 + 1) (pm, cm))) 137 43 (spY M (⟨i, 0, r, s, h, co⟩ : Word) (pb, cb) Y (x.1 + 1) (pm, cm)).mail.length ((spY M (⟨i, 0, r, s, h, co⟩ : Word) (pb, cb) Y x.1 x.2).mail.flatMap wordC ++ wordC (⟨i, x.1, r, s, h, co⟩, (pb, cb))) :: .row (.slice pb 23 cb) 5 1 23 (bs (actB (wordB r s h co))) :: R) zM2 ?_
           rw [hyc]
           exact VE.round (x.1 + 1, (pm, cm)) (by omega) (by omega) zE (List.Sublist.refl _)
     ·
      refine VA.eff rfl ?_
      refine id (O.call0 ok35 rfl rfl (by decide) (nodeOf_c i (by omega)) (fun _ _ _ => trivial) ?_)
      intro x52_2 y52_2
      refine VA.next (List.nil_sublist _) Cells.nil ?_
      refine VA.all (rs := [4, 12]) (by kernel_rfl) (by simp) ?_
      refine VA.forall2 ?_ ?_
      ·
       refine VA.eff rfl ?_
       refine O.quiet (by decide) (Q.load1 ty57 rfl zM (mesh_mail M F _)) ?_
       refine VA.next (List.nil_sublist _) Cells.nil ?_
       refine VA.all (rs := [12]) (by kernel_rfl) (by simp) ?_
       refine VA.forall1 ?_
       ·
        refine VA.eff rfl ?_
        refine id (O.call0 ok35 rfl rfl (by decide) (nodeOf_c i (by omega)) (fun _ _ _ => trivial) ?_)
        intro x54_2 y54_2
        refine VA.next (List.nil_sublist _) Cells.nil ?_
        refine VA.tk 13 rfl (Still.block (Still.then (Still.then (Still.block (Still.then Still.body))))) (List.nil_sublist _) Cells.nil (Quiet.c (Q.build lay103 zF)) ?_
        refine VA.tk 15 rfl (Still.block (Still.then (Still.then (Still.block (Still.then Still.body))))) (List.nil_sublist _) Cells.nil (Quiet.c (Q.build lay105 zF)) ?_
        refine VA.tk 16 rfl (Still.block (Still.then (Still.then (Still.block (Still.then Still.body))))) (List.nil_sublist _) Cells.nil (Quiet.c (Q.build lay137 zF)) ?_
        refine VA.all (rs := [17]) (by kernel_rfl) (by simp) ?_
        refine VA.forall1 ?_
        ·
         refine VA.eff rfl ?_
         refine id (O.buildSlice sl57 ze137 (by decide) zF (by decide) ?_)
         intro g59_2
         refine VA.next (List.nil_sublist _) Cells.nil ?_
         refine VA.all (rs := [18]) (by kernel_rfl) (by simp) ?_
         refine VA.forall1 ?_
         ·
          refine VA.eff rfl ?_
          refine id (O.append sl57 ze137 rfl (by decide) rfl rfl rfl rfl (by decide) (by unfold maxLen; omega) (room_row (by omega)) zA (fun _ _ hw => Rd.seg (k := 43) hw zM zS) ?_)
          intro pm cm hcm
          have hyl : (spY M (⟨i, 0, r, s, h, co⟩ : Word) (pb, cb) Y x.1 x.2).mail.length + 1 = (spY M (⟨i, 0, r, s, h, co⟩ : Word) (pb, cb) Y (x.1 + 1) (pm, cm)).mail.length := by rw [spY_yes hc0, List.length_append]; rfl
          have hyc : (spY M (⟨i, 0, r, s, h, co⟩ : Word) (pb, cb) Y x.1 x.2).mail.flatMap wordC ++ wordC (⟨i, x.1, r, s, h, co⟩, (pb, cb)) = (spY M (⟨i, 0, r, s, h, co⟩ : Word) (pb, cb) Y (x.1 + 1) (pm, cm)).mail.flatMap wordC := by rw [spY_yes (mv := x.2) hc0, fm_snoc]
          rw [hyl]
          refine VA.next (List.nil_sublist _) Cells.nil ?_
          refine VA.tk 19 rfl (Still.block (Still.then (Still.then (Still.block (Still.then Still.body))))) (List.nil_sublist _) Cells.nil (Quiet.c (Q.nilCheck rfl)) ?_
          refine VA.tk 20 rfl (Still.block (Still.then (Still.then (Still.block (Still.then Still.body))))) (List.nil_sublist _) Cells.nil (Quiet.c (Q.fieldAddr fa59_3 rfl)) ?_
          refine VA.all (rs := [21]) (by kernel_rfl) (by simp) ?_
          refine VA.forall1 ?_
          ·
           refine VA.eff rfl ?_
           refine id (O.store (v := mailS (spY M (⟨i, 0, r, s, h, co⟩ : Word) (pb, cb) Y (x.1 + 1) (pm, cm))) (xs := [mailS (spY M (⟨i, 0, r, s, h, co⟩ : Word) (pb, cb) Y (x.1 + 1) (pm, cm))]) (C := meshC M F (spY M (⟨i, 0, r, s, h, co⟩ : Word) (pb, cb) Y x.1 x.2)) (C' := meshC M F (spY M (⟨i, 0, r, s, h, co⟩ : Word) (pb, cb) Y (x.1 + 1) (pm, cm))) ty57 rfl rfl rfl rfl (.there .here) (mesh_put_mail rfl rfl rfl) ?_)
           refine VA.next (List.nil_sublist _) Cells.nil ?_
           refine VA.done (by kernel_rfl) ?_
           refine VE.block_normal ?_
           refine VE.seq ?_
           refine VC.region ?_
           refine VL.q (Q.move rfl) ?_
           refine VL.q ((by first | exact Q.addI rfl rfl (by omega) (by omega) | exact Q.add rfl rfl)) ?_
           refine VL.q (Q.assign rfl) ?_
           refine VL.nil ?_
           refine VE.then_normal ?_
           refine VK.picks (Lin := mBlk g M F (spY M (⟨i, 0, r, s, h, co⟩ : Word) (pb, cb) Y (x.1 + 1) (pm, cm)) :: .row (mailS (spY M (⟨i, 0, r, s, h, co⟩ : Word) (pb, cb) Y (x.1 + 1) (pm, cm))) 137 43 (spY M (⟨i, 0, r, s, h, co⟩ : Word) (pb, cb) Y (x.1 + 1) (pm, cm)).mail.length ((spY M (⟨i, 0, r, s, h, co⟩ : Word) (pb, cb) Y x.1 x.2).mail.flatMap wordC ++ wordC (⟨i, x.1, r, s, h, co⟩, (pb, cb))) :: .row (.slice pb 23 cb) 5 1 23 (bs (actB (wordB r s h co))) :: R) zM2 ?_
           rw [hyc]
           exact VE.round (x.1 + 1, (pm, cm)) (by omega) (by omega) zE (List.Sublist.refl _)
      ·
       refine VA.eff rfl ?_
       refine id (O.call0 ok35 rfl rfl (by decide) (nodeOf_c i (by omega)) (fun _ _ _ => trivial) ?_)
       intro x54_3 y54_3
       refine VA.next (List.nil_sublist _) Cells.nil ?_
       refine VA.tk 13 rfl (Still.block (Still.then (Still.then (Still.block (Still.then Still.body))))) (List.nil_sublist _) Cells.nil (Quiet.c (Q.build lay103 zF)) ?_
       refine VA.tk 15 rfl (Still.block (Still.then (Still.then (Still.block (Still.then Still.body))))) (List.nil_sublist _) Cells.nil (Quiet.c (Q.build lay105 zF)) ?_
       refine VA.tk 16 rfl (Still.block (Still.then (Still.then (Still.block (Still.then Still.body))))) (List.nil_sublist _) Cells.nil (Quiet.c (Q.build lay137 zF)) ?_
       refine VA.all (rs := [4, 17]) (by kernel_rfl) (by simp) ?_
       refine VA.forall2 ?_ ?_
       ·
        refine VA.eff rfl ?_
        refine O.quiet (by decide) (Q.load1 ty57 rfl zM (mesh_mail M F _)) ?_
        refine VA.next (List.nil_sublist _) Cells.nil ?_
        refine VA.all (rs := [17]) (by kernel_rfl) (by simp) ?_
        refine VA.forall1 ?_
        ·
         refine VA.eff rfl ?_
         refine id (O.buildSlice sl57 ze137 (by decide) zF (by decide) ?_)
         intro g59_3
         refine VA.next (List.nil_sublist _) Cells.nil ?_
         refine VA.all (rs := [18]) (by kernel_rfl) (by simp) ?_
         refine VA.forall1 ?_
         ·
          refine VA.eff rfl ?_
          refine id (O.append sl57 ze137 rfl (by decide) rfl rfl rfl rfl (by decide) (by unfold maxLen; omega) (room_row (by omega)) zA (fun _ _ hw => Rd.seg (k := 43) hw zM zS) ?_)
          intro pm cm hcm
          have hyl : (spY M (⟨i, 0, r, s, h, co⟩ : Word) (pb, cb) Y x.1 x.2).mail.length + 1 = (spY M (⟨i, 0, r, s, h, co⟩ : Word) (pb, cb) Y (x.1 + 1) (pm, cm)).mail.length := by rw [spY_yes hc0, List.length_append]; rfl
          have hyc : (spY M (⟨i, 0, r, s, h, co⟩ : Word) (pb, cb) Y x.1 x.2).mail.flatMap wordC ++ wordC (⟨i, x.1, r, s, h, co⟩, (pb, cb)) = (spY M (⟨i, 0, r, s, h, co⟩ : Word) (pb, cb) Y (x.1 + 1) (pm, cm)).mail.flatMap wordC := by rw [spY_yes (mv := x.2) hc0, fm_snoc]
          rw [hyl]
          refine VA.next (List.nil_sublist _) Cells.nil ?_
          refine VA.tk 19 rfl (Still.block (Still.then (Still.then (Still.block (Still.then Still.body))))) (List.nil_sublist _) Cells.nil (Quiet.c (Q.nilCheck rfl)) ?_
          refine VA.tk 20 rfl (Still.block (Still.then (Still.then (Still.block (Still.then Still.body))))) (List.nil_sublist _) Cells.nil (Quiet.c (Q.fieldAddr fa59_3 rfl)) ?_
          refine VA.all (rs := [21]) (by kernel_rfl) (by simp) ?_
          refine VA.forall1 ?_
          ·
           refine VA.eff rfl ?_
           refine id (O.store (v := mailS (spY M (⟨i, 0, r, s, h, co⟩ : Word) (pb, cb) Y (x.1 + 1) (pm, cm))) (xs := [mailS (spY M (⟨i, 0, r, s, h, co⟩ : Word) (pb, cb) Y (x.1 + 1) (pm, cm))]) (C := meshC M F (spY M (⟨i, 0, r, s, h, co⟩ : Word) (pb, cb) Y x.1 x.2)) (C' := meshC M F (spY M (⟨i, 0, r, s, h, co⟩ : Word) (pb, cb) Y (x.1 + 1) (pm, cm))) ty57 rfl rfl rfl rfl (.there .here) (mesh_put_mail rfl rfl rfl) ?_)
           refine VA.next (List.nil_sublist _) Cells.nil ?_
           refine VA.done (by kernel_rfl) ?_
           refine VE.block_normal ?_
           refine VE.seq ?_
           refine VC.region ?_
           refine VL.q (Q.move rfl) ?_
           refine VL.q ((by first | exact Q.addI rfl rfl (by omega) (by omega) | exact Q.add rfl rfl)) ?_
           refine VL.q (Q.assign rfl) ?_
           refine VL.nil ?_
           refine VE.then_normal ?_
           refine VK.picks (Lin := mBlk g M F (spY M (⟨i, 0, r, s, h, co⟩ : Word) (pb, cb) Y (x.1 + 1) (pm, cm)) :: .row (mailS (spY M (⟨i, 0, r, s, h, co⟩ : Word) (pb, cb) Y (x.1 + 1) (pm, cm))) 137 43 (spY M (⟨i, 0, r, s, h, co⟩ : Word) (pb, cb) Y (x.1 + 1) (pm, cm)).mail.length ((spY M (⟨i, 0, r, s, h, co⟩ : Word) (pb, cb) Y x.1 x.2).mail.flatMap wordC ++ wordC (⟨i, x.1, r, s, h, co⟩, (pb, cb))) :: .row (.slice pb 23 cb) 5 1 23 (bs (actB (wordB r s h co))) :: R) zM2 ?_
           rw [hyc]
           exact VE.round (x.1 + 1, (pm, cm)) (by omega) (by omega) zE (List.Sublist.refl _)
       ·
        refine VA.eff rfl ?_
        refine id (O.buildSlice sl57 ze137 (by decide) zF (by decide) ?_)
        intro g59_4
        refine VA.next (List.nil_sublist _) Cells.nil ?_
        refine VA.all (rs := [4]) (by kernel_rfl) (by simp) ?_
        refine VA.forall1 ?_
        ·
         refine VA.eff rfl ?_
         refine O.quiet (by decide) (Q.load1 ty57 rfl zM (mesh_mail M F _)) ?_
         refine VA.next (List.nil_sublist _) Cells.nil ?_
         refine VA.all (rs := [18]) (by kernel_rfl) (by simp) ?_
         refine VA.forall1 ?_
         ·
          refine VA.eff rfl ?_
          refine id (O.append sl57 ze137 rfl (by decide) rfl rfl rfl rfl (by decide) (by unfold maxLen; omega) (room_row (by omega)) zA (fun _ _ hw => Rd.seg (k := 43) hw zM zS) ?_)
          intro pm cm hcm
          have hyl : (spY M (⟨i, 0, r, s, h, co⟩ : Word) (pb, cb) Y x.1 x.2).mail.length + 1 = (spY M (⟨i, 0, r, s, h, co⟩ : Word) (pb, cb) Y (x.1 + 1) (pm, cm)).mail.length := by rw [spY_yes hc0, List.length_append]; rfl
          have hyc : (spY M (⟨i, 0, r, s, h, co⟩ : Word) (pb, cb) Y x.1 x.2).mail.flatMap wordC ++ wordC (⟨i, x.1, r, s, h, co⟩, (pb, cb)) = (spY M (⟨i, 0, r, s, h, co⟩ : Word) (pb, cb) Y (x.1 + 1) (pm, cm)).mail.flatMap wordC := by rw [spY_yes (mv := x.2) hc0, fm_snoc]
          rw [hyl]
          refine VA.next (List.nil_sublist _) Cells.nil ?_
          refine VA.tk 19 rfl (Still.block (Still.then (Still.then (Still.block (Still.then Still.body))))) (List.nil_sublist _) Cells.nil (Quiet.c (Q.nilCheck rfl)) ?_
          refine VA.tk 20 rfl (Still.block (Still.then (Still.then (Still.block (Still.then Still.body))))) (List.nil_sublist _) Cells.nil (Quiet.c (Q.fieldAddr fa59_3 rfl)) ?_
          refine VA.all (rs := [21]) (by kernel_rfl) (by simp) ?_
          refine VA.forall1 ?_
          ·
           refine VA.eff rfl ?_
           refine id (O.store (v := mailS (spY M (⟨i, 0, r, s, h, co⟩ : Word) (pb, cb) Y (x.1 + 1) (pm, cm))) (xs := [mailS (spY M (⟨i, 0, r, s, h, co⟩ : Word) (pb, cb) Y (x.1 + 1) (pm, cm))]) (C := meshC M F (spY M (⟨i, 0, r, s, h, co⟩ : Word) (pb, cb) Y x.1 x.2)) (C' := meshC M F (spY M (⟨i, 0, r, s, h, co⟩ : Word) (pb, cb) Y (x.1 + 1) (pm, cm))) ty57 rfl rfl rfl rfl (.there .here) (mesh_put_mail rfl rfl rfl) ?_)
           refine VA.next (List.nil_sublist _) Cells.nil ?_
           refine VA.done (by kernel_rfl) ?_
           refine VE.block_normal ?_
           refine VE.seq ?_
           refine VC.region ?_
           refine VL.q (Q.move rfl) ?_
           refine VL.q ((by first | exact Q.addI rfl rfl (by omega) (by omega) | exact Q.add rfl rfl)) ?_
           refine VL.q (Q.assign rfl) ?_
           refine VL.nil ?_
           refine VE.then_normal ?_
           refine VK.picks (Lin := mBlk g M F (spY M (⟨i, 0, r, s, h, co⟩ : Word) (pb, cb) Y (x.1 + 1) (pm, cm)) :: .row (mailS (spY M (⟨i, 0, r, s, h, co⟩ : Word) (pb, cb) Y (x.1 + 1) (pm, cm))) 137 43 (spY M (⟨i, 0, r, s, h, co⟩ : Word) (pb, cb) Y (x.1 + 1) (pm, cm)).mail.length ((spY M (⟨i, 0, r, s, h, co⟩ : Word) (pb, cb) Y x.1 x.2).mail.flatMap wordC ++ wordC (⟨i, x.1, r, s, h, co⟩, (pb, cb))) :: .row (.slice pb 23 cb) 5 1 23 (bs (actB (wordB r s h co))) :: R) zM2 ?_
           rw [hyc]
           exact VE.round (x.1 + 1, (pm, cm)) (by omega) (by omega) zE (List.Sublist.refl _)
   ·
    intro h41
    have hc0 : ¬ 0 < M.cost i x.1 := by have := of_decide_eq_false h41; omega
    refine VC.skip ?_
    refine VE.block_normal ?_
    refine VE.seq ?_
    refine VC.region ?_
    refine VL.q (Q.move rfl) ?_
    refine VL.q ((by first | exact Q.addI rfl rfl (by omega) (by omega) | exact Q.add rfl rfl)) ?_
    refine VL.q (Q.assign rfl) ?_
    refine VL.nil ?_
    refine VE.then_normal ?_
    rw [← spY_no (M := M) (w := (⟨i, 0, r, s, h, co⟩ : Word)) (b := (pb, cb)) (Y := Y) (k := x.1) (mv := x.2) hc0]
    exact VE.round (x.1 + 1, x.2) (by omega) (by omega) zE (List.Sublist.refl _)
  ·
   intro h30
   have he6 : x.1 = 6 := by have := of_decide_eq_false h30; omega
   refine VC.exit ?_
   refine VE.then_exit ?_
   refine VE.then_exit ?_
   refine VE.block_here ?_
   refine VE.seq ?_
   refine VC.seq ?_
   refine VC.region ?_
   refine VL.q (Q.assign rfl) ?_
   refine VL.nil ?_
   refine VE.seq ?_
   refine VC.ret ?_
   rw [he6]
   exact VE.ret rfl (.tmp rfl .nil) ((pb, cb), x.2) trivial rfl (List.Sublist.refl _)

end Go.Proofs.YtencghlmckbmlaaGreat
