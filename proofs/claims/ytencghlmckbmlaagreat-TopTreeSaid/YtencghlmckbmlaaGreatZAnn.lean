/- The contracts of announcing in the mesh. Conditions: those that each bears. -/
import Derived.Test.YtencghlmckbmlaaGreatRows
import Derived.Test.YtencghlmckbmlaaGreatZSpread
namespace Go.Proofs.YtencghlmckbmlaaGreat
open Go Go.RowKit Go.Sx
set_option maxRecDepth 100000

theorem ok38 : okFunc Tryz.prog 38 = true := by kernel_rfl
theorem ok39 : okFunc Tryz.prog 39 = true := by kernel_rfl

open Go.Mesh
theorem put_cells {A B cells : List Value} (h : B = cells) (hl : A.length = cells.length) : Put A 0 cells B := by
  subst h
  have := put_over (A := A) (B := []) (ys := B) hl
  simpa using this
/-- what announce leaves -/
def annY (M : Core) (Y : Lay) (r : Nat) (q b mv : Option Addr × Nat) : Lay := spY M ⟨r, 0, r, M.rseq r + 1, 0, 0⟩ b { Y with tv := upd Y.tv r q } 6 mv
theorem ann_root (M : Core) (Y : Lay) (r : Nat) (q : Option Addr × Nat) : rootC { M with rseq := upd M.rseq r (M.rseq r + 1) } { Y with tv := upd Y.tv r q } r = [.int .u8 2, .int .u8 0, .int .u8 0, .int .u8 0, .int .u8 2, .int .u8 (r : Int), .bool (decide (r < 2)), .bool (decide (r = 0)), .int .i64 ((M.rseq r + 1 : Nat) : Int), .slice q.1 (lst (M.tree r)).length q.2, .slice none 0 0] := by simp [rootC, upd]
theorem held_ann {M : Core} {F : Fwd} {Y : Lay} {R : List Rs} (h : Held M F Y R) {r : Nat} (q b mv : Option Addr × Nat) :
    Held (ann M r) F (annY M Y r q b mv) (.row (.slice b.1 23 b.2) 5 1 23 (bs (actB (wordB r (M.rseq r + 1) 0 0))) :: tRow q (M.tree r) :: R) where
  tr := fun i hi => by
    show tRow (upd Y.tv r q i) (M.tree i) ∈ _
    unfold upd
    split
    · rename_i e; subst e; exact .tail _ (.head _)
    · exact .tail _ (.tail _ (h.tr i hi))
  sn := fun i hi => .tail _ (.tail _ (h.sn i hi))
  sc := fun i hi => h.sc i hi
  nx := fun i hi => .tail _ (.tail _ (h.nx i hi))
  bd := fun x hx => by
    rcases List.mem_append.1 hx with hx | hx
    · exact .tail _ (.tail _ (h.bd x hx))
    · obtain ⟨e1, e2, e3, e4, e5⟩ := mem_spL hx
      unfold bRow
      rw [e1, e2, e3, e4, e5]
      exact .head _
  ml := by
    show M.mail ++ spreadW M r r (M.rseq r + 1) 0 0 = (Y.mail ++ spL M ⟨r, 0, r, M.rseq r + 1, 0, 0⟩ b 6).map (·.1)
    rw [List.map_append, ← h.ml, spL_words]

theorem mannounce_c (g : Nat) (M : Core) (F : Fwd) (Y : Lay) (R : List Rs) (k : Nat) (hI : Inv k M) (hk : k ≤ 1000) (hH : Held M F Y R) (hml : Y.mail.length ≤ 1000000) (r : Nat) (hr : r < 2) :
  Does Tryz.prog 9 [.pointer (some ⟨g, 0, none⟩), .int .i64 (r : Int)] (mBlk g M F Y :: mRow Y :: R) (fun _ => True) (X := (Option Addr × Nat) × ((Option Addr × Nat) × (Option Addr × Nat))) (fun _ => True) (fun _ => .bool true) (fun x => mBlk g (ann M r) F (annY M Y r x.1 x.2.1 x.2.2) :: mRow (annY M Y r x.1 x.2.1 x.2.2) :: .row (.slice x.2.1.1 23 x.2.1.2) 5 1 23 (bs (actB (wordB r (M.rseq r + 1) 0 0))) :: tRow x.1 (M.tree r) :: R) := by
 have hr6 : r < 6 := by omega
 have hrs := hI.rs r
 refine Does.enter Tryz.func9 rfl (m := 31) rfl (by simp) ?_
 intro W0 hro
 refine VC.seq ?_
 refine VC.region ?_
 refine VL.q (Q.assign rfl) ?_
 refine VL.nil ?_
 refine VE.seq ?_
 refine VC.seq ?_
 refine VC.region ?_
 refine VL.q (Q.move rfl) ?_
 refine VL.q (Q.move rfl) ?_
 refine VL.q (Q.nilCheck rfl) ?_
 refine VL.q (Q.fieldAddr fa59_1 rfl) ?_
 refine VL.q (Q.indexAddrA ar51 (j := r) rfl rfl rfl hr6) ?_
 refine VL.q (Q.loadA (xs := rootC M Y r) ty50 rfl zM (mesh_root M F Y hr6)) ?_
 refine VL.eff (O.call0 ok38 rfl rfl (by decide) (announce_c r (M.rseq r) (Y.tv r).1 (lst (M.tree r)).length (Y.tv r).2 (lst (M.tree r)) rfl (inv_tsok hI hk hr6) hr (by omega)) (fun _ _ hw => Rd.row hw (by repeat (first | exact (hH.tr r hr6) | apply List.Mem.tail))) ?_)
 intro x15 y15
 obtain ⟨q1, q2⟩ := x15
 refine VL.q (Q.move rfl) ?_
 refine VL.q (Q.extract rfl rfl) ?_
 refine VL.q (Q.extract rfl rfl) ?_
 refine VL.q (Q.extract rfl rfl) ?_
 refine VL.eff (O.alloc zo132 (by decide) ?_)
 intro g5
 refine VL.eff (O.alloc zo50 (by decide) ?_)
 intro g6
 refine VL.eff (O.store ty132 rfl rfl rfl rfl zU zP ?_)
 refine VL.eff (O.store ty50 rfl rfl rfl rfl zU zP ?_)
 refine VL.q (Q.assign rfl) ?_
 refine VL.nil ?_
 refine VE.seq ?_
 refine VC.seq ?_
 refine VC.seq ?_
 refine VC.region ?_
 refine VL.q (Q.move rfl) ?_
 refine VL.quietE (v' := .bool false) (by decide) (Q.ne rfl rfl) (by rfl) ?_
 refine VL.nil ?_
 refine VE.seq ?_
 refine VC.condF rfl ?_
 refine VC.skip ?_
 refine VE.seq ?_
 refine VC.seq ?_
 refine VA.start (Ls := [.blk g6 [.int .u8 2, .int .u8 0, .int .u8 0, .int .u8 0, .int .u8 2, .int .u8 (r : Int), .bool (decide (r < 2)), .bool (decide (r = 0)), .int .i64 ((M.rseq r + 1 : Nat) : Int), .slice q1 (lst (M.tree r)).length q2, .slice none 0 0] 50]) (Cs := []) mixed ?_
 refine VA.tk 0 rfl (Still.then Still.body) (List.singleton_sublist.2 zM) Cells.nil (Quiet.c (Q.move rfl)) ?_
 refine VA.tk 1 rfl (Still.then Still.body) (List.singleton_sublist.2 zM) Cells.nil (Quiet.c (Q.move rfl)) ?_
 refine VA.tk 2 rfl (Still.then Still.body) (List.singleton_sublist.2 zM) Cells.nil (Quiet.c (Q.loadA ty50 rfl zM zS)) ?_
 refine VA.tk 3 rfl (Still.then Still.body) (List.singleton_sublist.2 zM) Cells.nil (Quiet.c (Q.nilCheck rfl)) ?_
 refine VA.tk 4 rfl (Still.then Still.body) (List.singleton_sublist.2 zM) Cells.nil (Quiet.c (Q.fieldAddr fa59_1 rfl)) ?_
 refine VA.tk 5 rfl (Still.then Still.body) (List.singleton_sublist.2 zM) Cells.nil (Quiet.c (Q.indexAddrA ar51 (j := r) rfl rfl rfl hr6)) ?_
 refine VA.all (rs := [6]) (by kernel_rfl) (by simp) ?_
 refine VA.forall1 ?_
 ·
  refine VA.eff rfl ?_
  refine id (O.store (xs := [.int .u8 2, .int .u8 0, .int .u8 0, .int .u8 0, .int .u8 2, .int .u8 (r : Int), .bool (decide (r < 2)), .bool (decide (r = 0)), .int .i64 ((M.rseq r + 1 : Nat) : Int), .slice q1 (lst (M.tree r)).length q2, .slice none 0 0]) (C := meshC M F Y) (C' := meshC { M with rseq := upd M.rseq r (M.rseq r + 1) } F { Y with tv := upd Y.tv r (q1, q2) }) ty50 rfl rfl rfl rfl zU (mesh_put_root (M := M) (M' := { M with rseq := upd M.rseq r (M.rseq r + 1) }) (F := F) (Y := Y) (Y' := { Y with tv := upd Y.tv r (q1, q2) }) hr6 rfl rfl rfl rfl rfl (fun j hj => by simp [rootC, upd, hj]) (put_cells (ann_root M Y r (q1, q2)) rfl)) ?_)
  refine VA.next (List.singleton_sublist.2 zM) Cells.nil ?_
  refine VA.done (by kernel_rfl) ?_
  refine VE.seq ?_
  refine VC.seq ?_
  refine VC.region ?_
  refine VL.q (Q.move rfl) ?_
  refine VL.q (Q.move rfl) ?_
  refine VL.q (Q.loadA ty132 rfl zM zS) ?_
  refine VK.picks (Lin := mBlk g { M with rseq := upd M.rseq r (M.rseq r + 1) } F { Y with tv := upd Y.tv r (q1, q2) } :: mRow { Y with tv := upd Y.tv r (q1, q2) } :: .row (.slice q1 (lst (M.tree r)).length q2) 151 17 (lst (M.tree r)).length ((lst (M.tree r)).flatMap treeC) :: R) zM2 ?_
  refine VL.eff (O.callF ok39 rfl rfl (by decide) (spread_c g { M with rseq := upd M.rseq r (M.rseq r + 1) } F { Y with tv := upd Y.tv r (q1, q2) } (.row (.slice q1 (lst (M.tree r)).length q2) 151 17 (lst (M.tree r)).length ((lst (M.tree r)).flatMap treeC) :: R) r r (M.rseq r + 1) 0 0 hr6 hr (by omega) (by omega) (by omega) hml) zM2 (fun _ _ _ => trivial) ?_)
  intro x30 y30
  obtain ⟨b, mv⟩ := x30
  refine VL.q (Q.assign rfl) ?_
  refine VL.nil ?_
  refine VE.seq ?_
  refine VC.ret ?_
  exact VE.ret rfl (.tmp rfl .nil) ((q1, q2), (b, mv)) trivial rfl (List.Sublist.refl _)

end Go.Proofs.YtencghlmckbmlaaGreat
