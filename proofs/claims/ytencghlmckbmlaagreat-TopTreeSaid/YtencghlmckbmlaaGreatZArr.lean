/- The contract of an announcement that arrives in the mesh. Conditions: those that it bears. -/
import Derived.Test.YtencghlmckbmlaaGreatRows
import Derived.Test.YtencghlmckbmlaaGreatZAnn
namespace Go.Proofs.YtencghlmckbmlaaGreat
open Go Go.RowKit Go.Sx
set_option maxRecDepth 100000

theorem fa137_0 : tyField Tryz.prog 137 0 = some 0 := by kernel_rfl
theorem fa137_1 : tyField Tryz.prog 137 1 = some 1 := by kernel_rfl
theorem fa137_2 : tyField Tryz.prog 137 2 = some 2 := by kernel_rfl
theorem fa59_4 : tyField Tryz.prog 59 4 = some 157 := by kernel_rfl
theorem ok40 : okFunc Tryz.prog 40 = true := by kernel_rfl
theorem ok41 : okFunc Tryz.prog 41 = true := by kernel_rfl
theorem ok42 : okFunc Tryz.prog 42 = true := by kernel_rfl
theorem ok43 : okFunc Tryz.prog 43 = true := by kernel_rfl
theorem ok44 : okFunc Tryz.prog 44 = true := by kernel_rfl
theorem ty137 : tySz Tryz.prog 137 = some (true, 43) := by kernel_rfl
theorem zo137 : tyZero Tryz.prog 137 = some [.int .i64 0, .int .i64 0, .int .u8 0, .int .u8 0, .bool false, .bool false, .bool false, .bool false, .bool false, .bool false, .bool false, .int .i64 0, .int .u8 0, .int .u8 0, .int .u8 0, .int .u8 0, .int .u8 0, .int .u8 0, .int .u8 0, .int .u8 0, .int .u8 0, .int .u8 0, .int .u8 0, .int .u8 0, .int .u8 0, .int .u8 0, .int .u8 0, .int .u8 0, .int .u8 0, .int .u8 0, .int .u8 0, .int .u8 0, .int .u8 0, .int .u8 0, .int .u8 0, .int .u8 0, .int .i64 0, .int .i64 0, .int .i64 0, .int .u8 0, .bool false, .bool false, .slice none 0 0] := by kernel_rfl

open Go.Mesh
theorem newL_len {α : Type} (l : List (Nat × α)) (i : Nat) (kn : Bool) (x : Nat × α) (h : i ≤ l.length) : (newL l i kn x).length = bif kn then l.length else l.length + 1 := by
  cases kn with
  | true => simp [newL]
  | false =>
    simp [newL]
    omega
theorem handle2_c (o sq : Nat) (p : Option Addr) (c : Nat) (ft : Nat → Option TreeV) (hok : TsOk o (lst ft)) (hsq : sq ≤ 2147483647) (r s h co f e nw : Nat) (hr : r < 2) (hs : 1 ≤ s ∧ s ≤ 2147483647) (hh : h ≤ 14) (hf : f < 6) (hfo : f ≠ o) (he : 1 ≤ e) (hce : co + e ≤ 1099511627776) (hnw : nw ≤ 1099511627776) :
    Does Tryz.prog 44 [.agg #[.int .u8 2, .int .u8 0, .int .u8 0, .int .u8 0, .int .u8 2, .int .u8 (o : Int), .bool (decide (o < 2)), .bool (decide (o = 0)), .int .i64 (sq : Int), .slice p (lst ft).length c, .slice none 0 0], .agg #[.int .u8 2, .int .u8 0, .int .u8 0, .int .u8 0, .int .u8 2, .int .u8 (r : Int), .int .i64 (s : Int), .int .i64 (h : Int), .int .i64 (co : Int), .bool (decide (r = 0))], .agg #[.int .u8 2, .int .u8 0, .int .u8 0, .int .u8 0, .int .u8 2, .int .u8 (f : Int)], .int .i64 (e : Int), .int .i64 (nw : Int)] [] (fun W => Rd W p ((lst ft).flatMap treeC)) (X := Option ((Option Addr × Nat) × Nat)) (fun x => x.isNone = ((o == r) || match ft r with | some t => good t s (co + e) | none => false))
      (fun x => match x with | none => .tuple #[.agg #[.int .u8 0, .int .u8 0, .int .u8 0, .int .u8 0, .int .u8 0, .int .u8 0, .bool false, .bool false, .int .i64 0, .slice none 0 0, .slice none 0 0], .slice none 0 0, .int .i64 21] | some y => .tuple #[.agg #[.int .u8 2, .int .u8 0, .int .u8 0, .int .u8 0, .int .u8 2, .int .u8 (o : Int), .bool (decide (o < 2)), .bool (decide (o = 0)), .int .i64 (sq : Int), .slice y.1.1 (lst (upd ft r (some (⟨f, s, h + 1, co + e, nw + 5000000⟩ : TreeV)))).length y.1.2, .slice none 0 0], .slice (some ⟨y.2, 0, none⟩) 1 1, .int .i64 0])
      (fun x => match x with | none => [] | some y => [.blk y.2 [.int .u8 2, .int .u8 0, .int .u8 0, .int .u8 0, .int .u8 2, .int .u8 (r : Int), .int .i64 (s : Int), .int .i64 ((h + 1 : Nat) : Int), .int .i64 ((co + e : Nat) : Int), .bool (decide (r = 0))] 132, tRow y.1 (upd ft r (some (⟨f, s, h + 1, co + e, nw + 5000000⟩ : TreeV)))]) := by
  refine (handle_c o sq p (lst ft).length c (lst ft) rfl hok hsq r s h co f e nw hr hs hh hf hfo he hce hnw).mono (fun _ h => h) ?_
  rintro ⟨i, kn, st, p', c', g'⟩ ⟨hb, hst⟩
  dsimp only at hb hst
  obtain ⟨hkn, hki⟩ := lst_known hr hb
  have hlen : i ≤ (lst ft).length := hb.len
  have hiff : st = ((o == r) || match ft r with | some t => good t s (co + e) | none => false) := by
    rw [Bool.eq_iff_iff, hst]
    simp only [Bool.or_eq_true, beq_iff_eq]
    constructor
    · rintro (h1 | ⟨h1, h2, h3⟩)
      · exact .inl h1.symm
      · obtain ⟨_, h4⟩ := hki h1
        rw [h4]
        exact .inr h3
    · rintro (h1 | h1)
      · exact .inl h1.symm
      · cases hft : ft r with
        | none => rw [hft] at h1; cases h1
        | some t =>
          rw [hft] at h1 hkn
          obtain ⟨h2, h3⟩ := hki hkn
          rw [hft] at h3
          cases h3
          exact .inr ⟨hkn, h2, h1⟩
  cases st with
  | true => exact ⟨none, hiff, rfl, List.Sublist.refl _⟩
  | false =>
    refine ⟨some ((p', c'), g'), hiff, ?_, ?_⟩
    · have hl := newL_len (lst ft) i kn (r, (⟨f, s, h + 1, co + e, nw + 5000000⟩ : TreeV)) hlen
      rw [lst_new hr hb] at hl
      dsimp only [cond_false]
      rw [← hl]
    · have hl := newL_len (lst ft) i kn (r, (⟨f, s, h + 1, co + e, nw + 5000000⟩ : TreeV)) hlen
      rw [lst_new hr hb] at hl
      dsimp only [cond_false]
      rw [← hl, lst_new hr hb]
      exact List.Sublist.refl _

def accY (M : Core) (Y : Lay) (w : Word) (q b mv : Option Addr × Nat) : Lay := spY M ⟨w.dst, 0, w.root, w.seq, w.hops + 1, wc M w⟩ b { Y with tv := upd Y.tv w.dst q } 6 mv
def accM (M : Core) (w : Word) : Core := { M with tree := upd2 M.tree w.dst w.root (some (newT M w)) }
theorem acc_tree (M : Core) (w : Word) : (accM M w).tree w.dst = upd (M.tree w.dst) w.root (some (newT M w)) := by
  funext r
  simp [accM, upd2, upd]
theorem acc_other (M : Core) (w : Word) {j : Nat} (h : j ≠ w.dst) : (accM M w).tree j = M.tree j := by
  funext r
  simp [accM, upd2, h]
theorem acc_root (M : Core) (Y : Lay) (w : Word) (q : Option Addr × Nat) : rootC (accM M w) { Y with tv := upd Y.tv w.dst q } w.dst = [.int .u8 2, .int .u8 0, .int .u8 0, .int .u8 0, .int .u8 2, .int .u8 (w.dst : Int), .bool (decide (w.dst < 2)), .bool (decide (w.dst = 0)), .int .i64 (M.rseq w.dst : Int), .slice q.1 (lst (upd (M.tree w.dst) w.root (some (newT M w)))).length q.2, .slice none 0 0] := by
  unfold rootC
  rw [acc_tree]
  simp [accM, upd]
theorem held_acc {M : Core} {F : Fwd} {Y : Lay} {R : List Rs} (h : Held M F Y R) (w : Word) (q b mv : Option Addr × Nat) :
    Held (acc M w) F (accY M Y w q b mv) (.row (.slice b.1 23 b.2) 5 1 23 (bs (actB (wordB w.root w.seq (w.hops + 1) (wc M w)))) :: tRow q (upd (M.tree w.dst) w.root (some (newT M w))) :: R) where
  tr := fun i hi => by
    show tRow (upd Y.tv w.dst q i) ((accM M w).tree i) ∈ _
    by_cases e : i = w.dst
    · subst e
      rw [acc_tree]
      simp [upd]
    · rw [acc_other M w e]
      simp only [upd, if_neg e]
      exact .tail _ (.tail _ (h.tr i hi))
  sn := fun i hi => .tail _ (.tail _ (h.sn i hi))
  sc := fun i hi => h.sc i hi
  nx := fun i hi => .tail _ (.tail _ (h.nx i hi))
  bd := fun x hx => by
    rcases List.mem_append.1 hx with hx | hx
    · exact .tail _ (.tail _ (h.bd x hx))
    · obtain ⟨e1, e2, e3, e4, e5⟩ := mem_spL hx
      unfold bRow
      rw [e1, e2, e3, e4, e5]
      exact .head _
  ml := by
    show M.mail ++ spreadW M w.dst w.root w.seq (w.hops + 1) (wc M w) = (Y.mail ++ spL M ⟨w.dst, 0, w.root, w.seq, w.hops + 1, wc M w⟩ b 6).map (·.1)
    rw [List.map_append, ← h.ml, spL_words]

theorem marrive_c (g : Nat) (M : Core) (F : Fwd) (Y : Lay) (R : List Rs) (k : Nat) (hI : Inv k M) (hk : k ≤ 1000) (hH : Held M F Y R) (hml : Y.mail.length ≤ 1000000) (q : Nat) (x : Word × (Option Addr × Nat)) (hq : q < Y.mail.length) (hx : Y.mail[q] = x) :
  Does Tryz.prog 10 [.pointer (some ⟨g, 0, none⟩), .int .i64 (q : Int)] (mBlk g M F Y :: mRow Y :: R) (fun _ => True) (X := Option ((Option Addr × Nat) × ((Option Addr × Nat) × (Option Addr × Nat)))) (fun z => z.isNone = stale M x.1) (fun _ => .bool true) (fun z => match z with | none => (mBlk g M F Y :: mRow Y :: R) | some y => mBlk g (accM M x.1) F (accY M Y x.1 y.1 y.2.1 y.2.2) :: mRow (accY M Y x.1 y.1 y.2.1 y.2.2) :: .row (.slice y.2.1.1 23 y.2.1.2) 5 1 23 (bs (actB (wordB x.1.root x.1.seq (x.1.hops + 1) (wc M x.1)))) :: tRow y.1 (upd (M.tree x.1.dst) x.1.root (some (newT M x.1))) :: R) := by
 have hmem : x ∈ Y.mail := hx ▸ List.getElem_mem hq
 have hwm : x.1 ∈ M.mail := by rw [hH.ml]; exact List.mem_map.2 ⟨x, hmem, rfl⟩
 have hw := hI.mail x.1 hwm
 have hs6 := hw.src
 have hd6 := hw.dst
 have hed := hw.edge
 have hr2 := hw.root
 have hsq1 := hw.seq1
 have hsq2 := hw.seqr
 have hrs := hI.rs x.1.root
 have hrsd := hI.rs x.1.dst
 have hho := hw.hops
 have hcn := cnt_le M x.1.root x.1.seq x.1.cost
 have hco := hw.cost
 have hcb : x.1.hops * CM ≤ 5 * CM := Nat.mul_le_mul_right _ (by omega)
 have hcm5 : 5 * CM = 5000000000 := rfl
 have hcm := hI.cmax x.1.src x.1.dst
 have hcm1 : CM = 1000000000 := rfl
 have hnow := hI.now
 have hne : x.1.src ≠ x.1.dst := fun e => by rw [e, hI.cdiag] at hed; omega
 refine Does.enter Tryz.func10 rfl (m := 118) rfl (by simp) ?_
 intro W0 hro
 refine VK.rowHead (p := Y.mv.1) (m := Y.mail.length) (c := Y.mv.2) (e := 137) (s := 43) (xs := Y.mail.flatMap wordC) zM (by omega) ?_
 intro gm hgm _ _
 have hme : mRow Y = .row (.slice (some ⟨gm, 0, none⟩) Y.mail.length Y.mv.2) 137 43 Y.mail.length (Y.mail.flatMap wordC) := by unfold mRow mailS; rw [hgm]
 refine VC.seq ?_
 refine VC.region ?_
 refine VL.q (Q.assign rfl) ?_
 refine VL.nil ?_
 refine VE.seq ?_
 refine VC.seq ?_
 refine VC.region ?_
 refine VL.q (Q.move rfl) ?_
 refine VL.q (Q.nilCheck rfl) ?_
 refine VL.q (Q.fieldAddr fa59_3 rfl) ?_
 refine VL.quietE (v' := .slice (some ⟨gm, 0, none⟩) Y.mail.length Y.mv.2) (by decide) (Q.load1 ty57 rfl zM (mesh_mail M F Y)) (by unfold mailS; rw [hgm]) ?_
 refine VL.q (Q.move rfl) ?_
 refine VL.q (Q.indexAddr sl57 (j := q) rfl rfl rfl hq) ?_
 refine VL.q (Q.loadRowA (xs := Y.mail.flatMap wordC) (ys := wordC x) ty137 rfl (by rw [← hme]; repeat (first | exact List.Mem.head _ | apply List.Mem.tail)) (by rw [Nat.zero_add, ← hx]; exact fm_seg wordC_len Y.mail q hq)) ?_
 refine VL.eff (O.alloc zo137 (by decide) ?_)
 intro g5
 refine VL.eff (O.store ty137 rfl rfl rfl rfl zU zP ?_)
 refine VL.nil ?_
 refine VE.seq ?_
 refine VC.seq ?_
 refine VC.region ?_
 refine VL.q (Q.fieldAddr fa137_2 rfl) ?_
 refine VL.q (Q.loadA ty105 rfl zM zS) ?_
 refine VL.q (Q.move rfl) ?_
 refine VL.eff (O.call0 ok40 rfl rfl (by decide) (vaneair_c x.1.dst x.1.src (by omega) (by omega) x.2.1 23 x.2.2 (actB (wordB x.1.root x.1.seq x.1.hops x.1.cost)) rfl (by decide) (by decide) q) (fun _ _ hw => Rd.row hw (by repeat (first | exact (hH.bd x hmem) | apply List.Mem.tail))) ?_)
 intro x27 y27
 obtain ⟨px, cx⟩ := x27
 have hcx : 23 ≤ cx := y27
 refine VL.q (Q.move rfl) ?_
 refine VL.q (Q.extract rfl rfl) ?_
 refine VL.q (Q.extract rfl rfl) ?_
 refine VL.eff (O.alloc zo105 (by decide) ?_)
 intro g6
 refine VL.eff (O.store ty105 rfl rfl rfl rfl zU zP ?_)
 refine VL.q (Q.assign rfl) ?_
 refine VL.nil ?_
 refine VE.seq ?_
 refine VC.seq ?_
 refine VC.region ?_
 refine VL.q (Q.fieldAddr fa105_1 rfl) ?_
 refine VL.q (Q.load1 ty23 rfl zM rfl) ?_
 refine VL.eff (O.call0 ok41 rfl rfl (by decide) (decact_c px 20 cx (wordB x.1.root x.1.seq x.1.hops x.1.cost) rfl (by decide) (by decide) hcx) (fun _ _ hw => Rd.row hw zM) ?_)
 intro x33 y33
 obtain ⟨pd, cd⟩ := x33
 have hcd : 20 ≤ cd := y33
 refine VL.q (Q.move rfl) ?_
 refine VL.q (Q.extract rfl rfl) ?_
 refine VL.q (Q.extract rfl rfl) ?_
 refine VL.eff (O.alloc zo141 (by decide) ?_)
 intro g8
 refine VL.eff (O.store ty141 rfl rfl rfl rfl zU zP ?_)
 refine VL.q (Q.assign rfl) ?_
 refine VL.nil ?_
 refine VE.seq ?_
 refine VC.seq ?_
 refine VC.region ?_
 refine VL.q (Q.fieldAddr fa141_3 rfl) ?_
 refine VL.q (Q.load1 ty23 rfl zM rfl) ?_
 refine VL.eff (O.call0 ok42 rfl rfl (by decide) (rdecode_c pd cd hcd x.1.root x.1.seq x.1.hops x.1.cost hr2 (by omega) (by omega) (by omega)) (fun _ _ hw => Rd.row hw zM) ?_)
 intro x39 y39
 refine VL.q (Q.move rfl) ?_
 refine VL.q (Q.extract rfl rfl) ?_
 refine VL.q (Q.extract rfl rfl) ?_
 refine VL.eff (O.alloc zo132 (by decide) ?_)
 intro g10
 refine VL.eff (O.store ty132 rfl rfl rfl rfl zU zP ?_)
 refine VL.q (Q.assign rfl) ?_
 refine VL.nil ?_
 refine VE.seq ?_
 refine VC.seq ?_
 refine VC.region ?_
 refine VL.q (Q.fieldAddr fa105_0 rfl) ?_
 refine VL.q (Q.fieldAddr fa103_11 rfl) ?_
 refine VL.q (Q.loadA ty44 rfl zM zS) ?_
 refine VL.eff (O.call0 ok43 rfl rfl (by decide) (vaneNode_c x.1.src hs6) (fun _ _ _ => trivial) ?_)
 intro x45 y45
 refine VL.q (Q.assign rfl) ?_
 refine VL.nil ?_
 refine VE.seq ?_
 refine VC.seq ?_
 refine VC.seq ?_
 refine VK.keep (by exact .cons (i := 0) rfl (.cons (i := 4) rfl (.cons (i := 5) rfl (.cons (i := 6) rfl (.cons (i := 7) rfl (.cons (i := 9) rfl (.cons (i := 10) rfl (.cons (i := 11) rfl (.cons (i := 12) rfl ( .nil)))))))))) ?_
 refine VC.region ?_
 refine VL.q (Q.move rfl) ?_
 refine VL.quietE (v' := .bool false) (by decide) (Q.not rfl) (by rfl) ?_
 refine VL.q (Q.move rfl) ?_
 refine VL.yes rfl rfl ?_
 refine VL.q (Q.move rfl) ?_
 refine VL.yes rfl rfl ?_
 refine VL.quietE (v' := .bool false) (by decide) (Q.ne rfl rfl) (by rfl) ?_
 refine VL.quietE (v' := .bool false) (by decide) (Q.pick_false rfl rfl) (by rfl) ?_
 refine VL.q (Q.move rfl) ?_
 refine VL.yes rfl rfl ?_
 refine VL.q (Q.move rfl) ?_
 refine VL.yes rfl rfl ?_
 refine VL.quietE (v' := .bool false) (by decide) (Q.ne rfl rfl) (by rfl) ?_
 refine VL.quietE (v' := .bool false) (by decide) (Q.pick_false rfl rfl) (by rfl) ?_
 refine VL.q (Q.move rfl) ?_
 refine VL.yes rfl rfl ?_
 refine VL.q (Q.move rfl) ?_
 refine VL.yes rfl rfl ?_
 refine VL.q (Q.fieldAddr fa137_0 rfl) ?_
 refine VL.yes rfl rfl ?_
 refine VL.q (Q.load1 ty3 rfl zM rfl) ?_
 refine VL.yes rfl rfl ?_
 refine VL.quietE (v' := .bool false) (by decide) (Q.ne rfl rfl) (neF rfl) ?_
 refine VL.quietE (v' := .bool false) (by decide) (Q.pick_false rfl rfl) (by rfl) ?_
 refine VL.nil ?_
 refine VE.seq ?_
 refine VC.condF rfl ?_
 refine VC.skip ?_
 refine VE.seq ?_
 refine VC.seq ?_
 refine VA.start (Ls := [.blk g10 [.int .u8 2, .int .u8 0, .int .u8 0, .int .u8 0, .int .u8 2, .int .u8 (x.1.root : Int), .int .i64 (x.1.seq : Int), .int .i64 (x.1.hops : Int), .int .i64 (x.1.cost : Int), .bool (decide (x.1.root = 0))] 132, .blk g6 [.int .u8 0, .int .u8 13, .bool false, .bool false, .bool false, .bool false, .bool false, .bool false, .bool false, .int .i64 0, .int .u8 2, .int .u8 0, .int .u8 0, .int .u8 0, .int .u8 2, .int .u8 (x.1.dst : Int), .int .u8 2, .int .u8 0, .int .u8 0, .int .u8 0, .int .u8 2, .int .u8 (x.1.src : Int), .int .u8 2, .int .u8 0, .int .u8 0, .int .u8 0, .int .u8 2, .int .u8 (x.1.src : Int), .int .u8 0, .int .u8 0, .int .u8 0, .int .u8 0, .int .u8 0, .int .u8 0, .int .i64 0, .int .i64 0, .int .i64 0, .int .u8 0, .bool false, .bool false, .slice px 23 cx] 105, .blk g5 (wordC x) 137, mBlk g M F Y]) (Cs := []) mixed ?_
 refine VA.tk 0 rfl (Still.then Still.body) zB Cells.nil (Quiet.c (Q.move rfl)) ?_
 refine VA.tk 1 rfl (Still.then Still.body) zB Cells.nil (Quiet.c (Q.fieldAddr fa137_1 rfl)) ?_
 refine VA.tk 2 rfl (Still.then Still.body) zB Cells.nil (Quiet.c (Q.load1 ty3 rfl zM rfl)) ?_
 refine VA.tk 3 rfl (Still.then Still.body) zB Cells.nil (Quiet.c (Q.nilCheck rfl)) ?_
 refine VA.tk 4 rfl (Still.then Still.body) zB Cells.nil (Quiet.c (Q.fieldAddr fa59_1 rfl)) ?_
 refine VA.tk 5 rfl (Still.then Still.body) zB Cells.nil (Quiet.c (Q.indexAddrA ar51 (j := x.1.dst) rfl rfl rfl hd6)) ?_
 refine VA.tk 6 rfl (Still.then Still.body) zB Cells.nil (Quiet.c (Q.loadA (xs := rootC M Y x.1.dst) ty50 rfl zM (mesh_root M F Y hd6))) ?_
 refine VA.tk 7 rfl (Still.then Still.body) zB Cells.nil (Quiet.c (Q.loadA ty132 rfl zM zS)) ?_
 refine VA.tk 8 rfl (Still.then Still.body) zB Cells.nil (Quiet.c (Q.fieldAddr fa105_0 rfl)) ?_
 refine VA.tk 9 rfl (Still.then Still.body) zB Cells.nil (Quiet.c (Q.fieldAddr fa103_11 rfl)) ?_
 refine VA.tk 10 rfl (Still.then Still.body) zB Cells.nil (Quiet.c (Q.loadA ty44 rfl zM zS)) ?_
 refine VA.tk 11 rfl (Still.then Still.body) zB Cells.nil (Quiet.c (Q.move rfl)) ?_
 refine VA.tk 12 rfl (Still.then Still.body) zB Cells.nil (Quiet.c (Q.fieldAddr fa137_0 rfl)) ?_
 refine VA.tk 13 rfl (Still.then Still.body) zB Cells.nil (Quiet.c (Q.load1 ty3 rfl zM rfl)) ?_
 refine VA.tk 14 rfl (Still.then Still.body) zB Cells.nil (Quiet.c (Q.fieldAddr fa137_1 rfl)) ?_
 refine VA.tk 15 rfl (Still.then Still.body) zB Cells.nil (Quiet.c (Q.load1 ty3 rfl zM rfl)) ?_
 refine VA.tk 16 rfl (Still.then Still.body) zB Cells.nil (Quiet.c (Q.nilCheck rfl)) ?_
 refine VA.tk 17 rfl (Still.then Still.body) zB Cells.nil (Quiet.c (Q.fieldAddr fa59_0 rfl)) ?_
 refine VA.tk 18 rfl (Still.then Still.body) zB Cells.nil (Quiet.c (Q.indexAddrA ar46 (j := x.1.src) rfl rfl rfl hs6)) ?_
 refine VA.tk 19 rfl (Still.then Still.body) zB Cells.nil (Quiet.c (Q.indexAddrA ar45 (j := x.1.dst) rfl rfl rfl hd6)) ?_
 refine VA.tk 20 rfl (Still.then Still.body) zB Cells.nil (Quiet.c (Q.load1 ty3 rfl zM (by rw [Nat.mul_one]; exact mesh_cost M F Y hs6 hd6))) ?_
 refine VA.tk 21 rfl (Still.then Still.body) zB Cells.nil (Quiet.c (Q.move rfl)) ?_
 refine VA.tk 22 rfl (Still.then Still.body) zB Cells.nil (Quiet.c (Q.nilCheck rfl)) ?_
 refine VA.tk 23 rfl (Still.then Still.body) zB Cells.nil (Quiet.c (Q.fieldAddr fa59_4 rfl)) ?_
 refine VA.tk 24 rfl (Still.then Still.body) zB Cells.nil (Quiet.c (Q.load1 ty3 rfl zM (mesh_now M F Y))) ?_
 refine VA.all (rs := [25, 30]) (by kernel_rfl) (by simp) ?_
 refine VA.forall2 ?_ ?_
 ·
  refine VA.eff rfl ?_
  refine id (O.call0 ok44 rfl rfl (by decide) (handle2_c x.1.dst (M.rseq x.1.dst) (Y.tv x.1.dst).1 (Y.tv x.1.dst).2 (M.tree x.1.dst) (inv_tsok hI hk hd6) (by omega) x.1.root x.1.seq x.1.hops x.1.cost x.1.src (M.cost x.1.src x.1.dst) M.now hr2 (by omega) (by omega) hs6 hne (by omega) (by omega) (by omega)) (fun _ _ hw => Rd.row hw (by repeat (first | exact (hH.tr x.1.dst hd6) | apply List.Mem.tail))) ?_)
  intro x88 y88
  rcases x88 with _ | ⟨q1, gw⟩
  ·
   have hst : (none : Option ((Option Addr × Nat) × ((Option Addr × Nat) × (Option Addr × Nat)))).isNone = stale M x.1 := y88
   refine VA.next zB Cells.nil ?_
   refine VA.tk 26 rfl (Still.then Still.body) zB Cells.nil (Quiet.c (Q.move rfl)) ?_
   refine VA.tk 27 rfl (Still.then Still.body) zB Cells.nil (Quiet.c (Q.extract rfl rfl)) ?_
   refine VA.tk 28 rfl (Still.then Still.body) zB Cells.nil (Quiet.c (Q.extract rfl rfl)) ?_
   refine VA.tk 29 rfl (Still.then Still.body) zB Cells.nil (Quiet.c (Q.extract rfl rfl)) ?_
   refine VA.all (rs := [30]) (by kernel_rfl) (by simp) ?_
   refine VA.forall1 ?_
   ·
    refine VA.eff rfl ?_
    refine id (O.alloc zo50 (by decide) ?_)
    intro g13
    refine VA.next zB Cells.nil ?_
    refine VA.all (rs := [31]) (by kernel_rfl) (by simp) ?_
    refine VA.forall1 ?_
    ·
     refine VA.eff rfl ?_
     refine id (O.store ty50 rfl rfl rfl rfl zU zP ?_)
     refine VA.next zB Cells.nil ?_
     refine VA.tk 32 rfl (Still.then Still.body) zB Cells.nil (Quiet.c (Q.assign rfl)) ?_
     refine VA.tk 33 rfl (Still.then Still.body) zB Cells.nil (Quiet.c (Q.assign rfl)) ?_
     refine VA.done (by kernel_rfl) ?_
     refine VE.seq ?_
     refine VC.seq ?_
     refine VC.seq ?_
     refine VK.keep (by exact .cons (i := 0) rfl (.cons (i := 4) rfl (.cons (i := 5) rfl (.cons (i := 9) rfl (.cons (i := 13) rfl (.cons (i := 14) rfl ( .nil))))))) ?_
     refine VC.region ?_
     refine VL.q (Q.move rfl) ?_
     refine VL.quietE (v' := .bool true) (by decide) (Q.ne rfl rfl) (by rfl) ?_
     refine VL.nil ?_
     refine VE.seq ?_
     refine VC.condT rfl ?_
     refine VC.seq ?_
     refine VC.region ?_
     refine VL.q (Q.move rfl) ?_
     refine VL.quietE (v' := .bool true) (by decide) (Q.eq rfl rfl) (by rfl) ?_
     refine VL.q (Q.assign rfl) ?_
     refine VL.nil ?_
     refine VE.seq ?_
     refine VC.ret ?_
     refine VE.then_ret ?_
     refine VK.picks (Lin := mBlk g M F Y :: mRow Y :: R) zM2 ?_
     exact VE.ret rfl (.tmp rfl .nil) none hst rfl (List.Sublist.refl _)
  ·
   have hst : ∀ b mv, (some (q1, b, mv) : Option ((Option Addr × Nat) × ((Option Addr × Nat) × (Option Addr × Nat)))).isNone = stale M x.1 := fun _ _ => y88
   refine VA.next zB Cells.nil ?_
   refine VA.tk 26 rfl (Still.then Still.body) zB Cells.nil (Quiet.c (Q.move rfl)) ?_
   refine VA.tk 27 rfl (Still.then Still.body) zB Cells.nil (Quiet.c (Q.extract rfl rfl)) ?_
   refine VA.tk 28 rfl (Still.then Still.body) zB Cells.nil (Quiet.c (Q.extract rfl rfl)) ?_
   refine VA.tk 29 rfl (Still.then Still.body) zB Cells.nil (Quiet.c (Q.extract rfl rfl)) ?_
   refine VA.all (rs := [30]) (by kernel_rfl) (by simp) ?_
   refine VA.forall1 ?_
   ·
    refine VA.eff rfl ?_
    refine id (O.alloc zo50 (by decide) ?_)
    intro g13
    refine VA.next zB Cells.nil ?_
    refine VA.all (rs := [31]) (by kernel_rfl) (by simp) ?_
    refine VA.forall1 ?_
    ·
     refine VA.eff rfl ?_
     refine id (O.store ty50 rfl rfl rfl rfl zU zP ?_)
     refine VA.next zB Cells.nil ?_
     refine VA.tk 32 rfl (Still.then Still.body) zB Cells.nil (Quiet.c (Q.assign rfl)) ?_
     refine VA.tk 33 rfl (Still.then Still.body) zB Cells.nil (Quiet.c (Q.assign rfl)) ?_
     refine VA.done (by kernel_rfl) ?_
     refine VE.seq ?_
     refine VC.seq ?_
     refine VC.seq ?_
     refine VK.keep (by exact .cons (i := 0) rfl (.cons (i := 4) rfl (.cons (i := 5) rfl (.cons (i := 9) rfl (.cons (i := 13) rfl (.cons (i := 14) rfl ( .nil))))))) ?_
     refine VC.region ?_
     refine VL.q (Q.move rfl) ?_
     refine VL.quietE (v' := .bool false) (by decide) (Q.ne rfl rfl) (by rfl) ?_
     refine VL.nil ?_
     refine VE.seq ?_
     refine VC.condF rfl ?_
     refine VC.skip ?_
     refine VE.seq ?_
     refine VC.seq ?_
     refine VA.start (Ls := [.blk g13 [.int .u8 2, .int .u8 0, .int .u8 0, .int .u8 0, .int .u8 2, .int .u8 (x.1.dst : Int), .bool (decide (x.1.dst < 2)), .bool (decide (x.1.dst = 0)), .int .i64 (M.rseq x.1.dst : Int), .slice q1.1 (lst (upd (M.tree x.1.dst) x.1.root (some (newT M x.1)))).length q1.2, .slice none 0 0] 50, .blk g5 (wordC x) 137]) (Cs := []) mixed ?_
     refine VA.tk 0 rfl (Still.then Still.body) zB Cells.nil (Quiet.c (Q.move rfl)) ?_
     refine VA.tk 1 rfl (Still.then Still.body) zB Cells.nil (Quiet.c (Q.fieldAddr fa137_1 rfl)) ?_
     refine VA.tk 2 rfl (Still.then Still.body) zB Cells.nil (Quiet.c (Q.load1 ty3 rfl zM rfl)) ?_
     refine VA.tk 3 rfl (Still.then Still.body) zB Cells.nil (Quiet.c (Q.loadA ty50 rfl zM zS)) ?_
     refine VA.tk 4 rfl (Still.then Still.body) zB Cells.nil (Quiet.c (Q.nilCheck rfl)) ?_
     refine VA.tk 5 rfl (Still.then Still.body) zB Cells.nil (Quiet.c (Q.fieldAddr fa59_1 rfl)) ?_
     refine VA.tk 6 rfl (Still.then Still.body) zB Cells.nil (Quiet.c (Q.indexAddrA ar51 (j := x.1.dst) rfl rfl rfl hd6)) ?_
     refine VA.all (rs := [7]) (by kernel_rfl) (by simp) ?_
     refine VA.forall1 ?_
     ·
      refine VA.eff rfl ?_
      refine id (O.store (xs := [.int .u8 2, .int .u8 0, .int .u8 0, .int .u8 0, .int .u8 2, .int .u8 (x.1.dst : Int), .bool (decide (x.1.dst < 2)), .bool (decide (x.1.dst = 0)), .int .i64 (M.rseq x.1.dst : Int), .slice q1.1 (lst (upd (M.tree x.1.dst) x.1.root (some (newT M x.1)))).length q1.2, .slice none 0 0]) (C := meshC M F Y) (C' := meshC (accM M x.1) F { Y with tv := upd Y.tv x.1.dst q1 }) ty50 rfl rfl rfl rfl zU (mesh_put_root (M := M) (M' := (accM M x.1)) (F := F) (Y := Y) (Y' := { Y with tv := upd Y.tv x.1.dst q1 }) hd6 rfl rfl rfl rfl rfl (fun j hj => by unfold rootC; rw [acc_other M x.1 hj]; simp [accM, upd, hj]) (put_cells (acc_root M Y x.1 q1) rfl)) ?_)
      refine VA.next zB Cells.nil ?_
      refine VA.done (by kernel_rfl) ?_
      refine VE.seq ?_
      refine VC.seq ?_
      refine VC.seq ?_
      refine VC.region ?_
      refine VL.q (Q.assign rfl) ?_
      refine VL.nil ?_
      refine VE.seq ?_
      refine VC.block ?_
      refine VC.rounds 40 ?_
      refine VC.rnd (m := 39) ?_
      refine VC.seq ?_
      refine VC.seq ?_
      refine VC.region ?_
      refine VL.q (Q.move rfl) ?_
      refine VL.q (Q.move rfl) ?_
      refine VL.q (Q.len sl147 rfl) ?_
      refine VL.quietE (v' := .bool true) (by decide) (Q.lt rfl rfl) (by rfl) ?_
      refine VL.nil ?_
      refine VE.seq ?_
      refine VC.condT rfl ?_
      refine VC.skip ?_
      refine VE.seq ?_
      refine VC.seq ?_
      refine VC.block ?_
      refine VC.seq ?_
      refine VA.start (Ls := [.blk gw [.int .u8 2, .int .u8 0, .int .u8 0, .int .u8 0, .int .u8 2, .int .u8 (x.1.root : Int), .int .i64 (x.1.seq : Int), .int .i64 ((x.1.hops + 1 : Nat) : Int), .int .i64 ((wc M x.1 : Nat) : Int), .bool (decide (x.1.root = 0))] 132, .blk g5 (wordC x) 137]) (Cs := []) mixed ?_
      refine VA.tk 0 rfl (Still.then (Still.block (Still.then (Still.then (Still.block (Still.then Still.body)))))) zB Cells.nil (Quiet.c (Q.move rfl)) ?_
      refine VA.tk 1 rfl (Still.then (Still.block (Still.then (Still.then (Still.block (Still.then Still.body)))))) zB Cells.nil (Quiet.c (Q.fieldAddr fa137_1 rfl)) ?_
      refine VA.tk 2 rfl (Still.then (Still.block (Still.then (Still.then (Still.block (Still.then Still.body)))))) zB Cells.nil (Quiet.c (Q.load1 ty3 rfl zM rfl)) ?_
      refine VA.tk 3 rfl (Still.then (Still.block (Still.then (Still.then (Still.block (Still.then Still.body)))))) zB Cells.nil (Quiet.c (Q.move rfl)) ?_
      refine VA.tk 4 rfl (Still.then (Still.block (Still.then (Still.then (Still.block (Still.then Still.body)))))) zB Cells.nil (Quiet.c (Q.move rfl)) ?_
      refine VA.tk 5 rfl (Still.then (Still.block (Still.then (Still.then (Still.block (Still.then Still.body)))))) zB Cells.nil (Quiet.c (Q.indexAddr sl147 (j := 0) rfl rfl rfl (by omega))) ?_
      refine VA.tk 6 rfl (Still.then (Still.block (Still.then (Still.then (Still.block (Still.then Still.body)))))) zB Cells.nil (Quiet.c (Q.loadA ty132 rfl zM zS)) ?_
      refine VA.all (rs := [7]) (by kernel_rfl) (by simp) ?_
      refine VA.forall1 ?_
      ·
       refine VA.eff rfl ?_
       refine id (O.callF ok39 rfl rfl (by decide) (spread_c g (accM M x.1) F { Y with tv := upd Y.tv x.1.dst q1 } (tRow q1 (upd (M.tree x.1.dst) x.1.root (some (newT M x.1))) :: R) x.1.dst x.1.root x.1.seq (x.1.hops + 1) (wc M x.1) hd6 hr2 (by omega) (by omega) (by unfold wc; omega) hml) zM2 (fun _ _ _ => trivial) ?_)
       intro x116 y116
       obtain ⟨b, mv⟩ := x116
       have hst := hst b mv
       refine VA.next zB Cells.nil ?_
       refine VA.tk 8 rfl (Still.then (Still.block (Still.then (Still.then (Still.block (Still.then Still.body)))))) zB Cells.nil (Quiet.c (Q.not rfl)) ?_
       refine VA.done (by kernel_rfl) ?_
       refine VE.seq ?_
       refine VC.condF rfl ?_
       refine VC.skip ?_
       refine VE.block_normal ?_
       refine VE.seq ?_
       refine VC.region ?_
       refine VL.q (Q.move rfl) ?_
       refine VL.quietE (v' := .int .i64 1) (by decide) ((by first | exact Q.addI rfl rfl (by omega) (by omega) | exact Q.add rfl rfl)) (by rfl) ?_
       refine VL.q (Q.assign rfl) ?_
       refine VL.nil ?_
       refine VE.then_normal ?_
       refine VC.rnd (m := 38) ?_
       refine VC.seq ?_
       refine VC.seq ?_
       refine VC.region ?_
       refine VL.q (Q.move rfl) ?_
       refine VL.q (Q.move rfl) ?_
       refine VL.q (Q.len sl147 rfl) ?_
       refine VL.quietE (v' := .bool false) (by decide) (Q.lt rfl rfl) (by rfl) ?_
       refine VL.nil ?_
       refine VE.seq ?_
       refine VC.condF rfl ?_
       refine VC.exit ?_
       refine VE.then_exit ?_
       refine VE.then_exit ?_
       refine VE.block_here ?_
       refine VE.seq ?_
       refine VC.seq ?_
       refine VC.region ?_
       refine VL.q (Q.assign rfl) ?_
       refine VL.nil ?_
       refine VE.seq ?_
       refine VC.ret ?_
       refine VK.picks (Lin := mBlk g (accM M x.1) F (accY M Y x.1 q1 b mv) :: mRow (accY M Y x.1 q1 b mv) :: .row (.slice b.1 23 b.2) 5 1 23 (bs (actB (wordB x.1.root x.1.seq (x.1.hops + 1) (wc M x.1)))) :: tRow q1 (upd (M.tree x.1.dst) x.1.root (some (newT M x.1))) :: R) zM2 ?_
       exact VE.ret rfl (.tmp rfl .nil) (some (q1, b, mv)) hst rfl (List.Sublist.refl _)
 ·
  refine VA.eff rfl ?_
  refine id (O.alloc zo50 (by decide) ?_)
  intro g13
  refine VA.next zB Cells.nil ?_
  refine VA.all (rs := [25]) (by kernel_rfl) (by simp) ?_
  refine VA.forall1 ?_
  ·
   refine VA.eff rfl ?_
   refine id (O.call0 ok44 rfl rfl (by decide) (handle2_c x.1.dst (M.rseq x.1.dst) (Y.tv x.1.dst).1 (Y.tv x.1.dst).2 (M.tree x.1.dst) (inv_tsok hI hk hd6) (by omega) x.1.root x.1.seq x.1.hops x.1.cost x.1.src (M.cost x.1.src x.1.dst) M.now hr2 (by omega) (by omega) hs6 hne (by omega) (by omega) (by omega)) (fun _ _ hw => Rd.row hw (by repeat (first | exact (hH.tr x.1.dst hd6) | apply List.Mem.tail))) ?_)
   intro x88_1 y88_1
   rcases x88_1 with _ | ⟨q1, gw⟩
   ·
    have hst : (none : Option ((Option Addr × Nat) × ((Option Addr × Nat) × (Option Addr × Nat)))).isNone = stale M x.1 := y88_1
    refine VA.next zB Cells.nil ?_
    refine VA.tk 26 rfl (Still.then Still.body) zB Cells.nil (Quiet.c (Q.move rfl)) ?_
    refine VA.tk 27 rfl (Still.then Still.body) zB Cells.nil (Quiet.c (Q.extract rfl rfl)) ?_
    refine VA.tk 28 rfl (Still.then Still.body) zB Cells.nil (Quiet.c (Q.extract rfl rfl)) ?_
    refine VA.tk 29 rfl (Still.then Still.body) zB Cells.nil (Quiet.c (Q.extract rfl rfl)) ?_
    refine VA.all (rs := [31]) (by kernel_rfl) (by simp) ?_
    refine VA.forall1 ?_
    ·
     refine VA.eff rfl ?_
     refine id (O.store ty50 rfl rfl rfl rfl zU zP ?_)
     refine VA.next zB Cells.nil ?_
     refine VA.tk 32 rfl (Still.then Still.body) zB Cells.nil (Quiet.c (Q.assign rfl)) ?_
     refine VA.tk 33 rfl (Still.then Still.body) zB Cells.nil (Quiet.c (Q.assign rfl)) ?_
     refine VA.done (by kernel_rfl) ?_
     refine VE.seq ?_
     refine VC.seq ?_
     refine VC.seq ?_
     refine VK.keep (by exact .cons (i := 0) rfl (.cons (i := 4) rfl (.cons (i := 5) rfl (.cons (i := 9) rfl (.cons (i := 13) rfl (.cons (i := 14) rfl ( .nil))))))) ?_
     refine VC.region ?_
     refine VL.q (Q.move rfl) ?_
     refine VL.quietE (v' := .bool true) (by decide) (Q.ne rfl rfl) (by rfl) ?_
     refine VL.nil ?_
     refine VE.seq ?_
     refine VC.condT rfl ?_
     refine VC.seq ?_
     refine VC.region ?_
     refine VL.q (Q.move rfl) ?_
     refine VL.quietE (v' := .bool true) (by decide) (Q.eq rfl rfl) (by rfl) ?_
     refine VL.q (Q.assign rfl) ?_
     refine VL.nil ?_
     refine VE.seq ?_
     refine VC.ret ?_
     refine VE.then_ret ?_
     refine VK.picks (Lin := mBlk g M F Y :: mRow Y :: R) zM2 ?_
     exact VE.ret rfl (.tmp rfl .nil) none hst rfl (List.Sublist.refl _)
   ·
    have hst : ∀ b mv, (some (q1, b, mv) : Option ((Option Addr × Nat) × ((Option Addr × Nat) × (Option Addr × Nat)))).isNone = stale M x.1 := fun _ _ => y88_1
    refine VA.next zB Cells.nil ?_
    refine VA.tk 26 rfl (Still.then Still.body) zB Cells.nil (Quiet.c (Q.move rfl)) ?_
    refine VA.tk 27 rfl (Still.then Still.body) zB Cells.nil (Quiet.c (Q.extract rfl rfl)) ?_
    refine VA.tk 28 rfl (Still.then Still.body) zB Cells.nil (Quiet.c (Q.extract rfl rfl)) ?_
    refine VA.tk 29 rfl (Still.then Still.body) zB Cells.nil (Quiet.c (Q.extract rfl rfl)) ?_
    refine VA.all (rs := [31]) (by kernel_rfl) (by simp) ?_
    refine VA.forall1 ?_
    ·
     refine VA.eff rfl ?_
     refine id (O.store ty50 rfl rfl rfl rfl zU zP ?_)
     refine VA.next zB Cells.nil ?_
     refine VA.tk 32 rfl (Still.then Still.body) zB Cells.nil (Quiet.c (Q.assign rfl)) ?_
     refine VA.tk 33 rfl (Still.then Still.body) zB Cells.nil (Quiet.c (Q.assign rfl)) ?_
     refine VA.done (by kernel_rfl) ?_
     refine VE.seq ?_
     refine VC.seq ?_
     refine VC.seq ?_
     refine VK.keep (by exact .cons (i := 0) rfl (.cons (i := 4) rfl (.cons (i := 5) rfl (.cons (i := 9) rfl (.cons (i := 13) rfl (.cons (i := 14) rfl ( .nil))))))) ?_
     refine VC.region ?_
     refine VL.q (Q.move rfl) ?_
     refine VL.quietE (v' := .bool false) (by decide) (Q.ne rfl rfl) (by rfl) ?_
     refine VL.nil ?_
     refine VE.seq ?_
     refine VC.condF rfl ?_
     refine VC.skip ?_
     refine VE.seq ?_
     refine VC.seq ?_
     refine VA.start (Ls := [.blk g13 [.int .u8 2, .int .u8 0, .int .u8 0, .int .u8 0, .int .u8 2, .int .u8 (x.1.dst : Int), .bool (decide (x.1.dst < 2)), .bool (decide (x.1.dst = 0)), .int .i64 (M.rseq x.1.dst : Int), .slice q1.1 (lst (upd (M.tree x.1.dst) x.1.root (some (newT M x.1)))).length q1.2, .slice none 0 0] 50, .blk g5 (wordC x) 137]) (Cs := []) mixed ?_
     refine VA.tk 0 rfl (Still.then Still.body) zB Cells.nil (Quiet.c (Q.move rfl)) ?_
     refine VA.tk 1 rfl (Still.then Still.body) zB Cells.nil (Quiet.c (Q.fieldAddr fa137_1 rfl)) ?_
     refine VA.tk 2 rfl (Still.then Still.body) zB Cells.nil (Quiet.c (Q.load1 ty3 rfl zM rfl)) ?_
     refine VA.tk 3 rfl (Still.then Still.body) zB Cells.nil (Quiet.c (Q.loadA ty50 rfl zM zS)) ?_
     refine VA.tk 4 rfl (Still.then Still.body) zB Cells.nil (Quiet.c (Q.nilCheck rfl)) ?_
     refine VA.tk 5 rfl (Still.then Still.body) zB Cells.nil (Quiet.c (Q.fieldAddr fa59_1 rfl)) ?_
     refine VA.tk 6 rfl (Still.then Still.body) zB Cells.nil (Quiet.c (Q.indexAddrA ar51 (j := x.1.dst) rfl rfl rfl hd6)) ?_
     refine VA.all (rs := [7]) (by kernel_rfl) (by simp) ?_
     refine VA.forall1 ?_
     ·
      refine VA.eff rfl ?_
      refine id (O.store (xs := [.int .u8 2, .int .u8 0, .int .u8 0, .int .u8 0, .int .u8 2, .int .u8 (x.1.dst : Int), .bool (decide (x.1.dst < 2)), .bool (decide (x.1.dst = 0)), .int .i64 (M.rseq x.1.dst : Int), .slice q1.1 (lst (upd (M.tree x.1.dst) x.1.root (some (newT M x.1)))).length q1.2, .slice none 0 0]) (C := meshC M F Y) (C' := meshC (accM M x.1) F { Y with tv := upd Y.tv x.1.dst q1 }) ty50 rfl rfl rfl rfl zU (mesh_put_root (M := M) (M' := (accM M x.1)) (F := F) (Y := Y) (Y' := { Y with tv := upd Y.tv x.1.dst q1 }) hd6 rfl rfl rfl rfl rfl (fun j hj => by unfold rootC; rw [acc_other M x.1 hj]; simp [accM, upd, hj]) (put_cells (acc_root M Y x.1 q1) rfl)) ?_)
      refine VA.next zB Cells.nil ?_
      refine VA.done (by kernel_rfl) ?_
      refine VE.seq ?_
      refine VC.seq ?_
      refine VC.seq ?_
      refine VC.region ?_
      refine VL.q (Q.assign rfl) ?_
      refine VL.nil ?_
      refine VE.seq ?_
      refine VC.block ?_
      refine VC.rounds 40 ?_
      refine VC.rnd (m := 39) ?_
      refine VC.seq ?_
      refine VC.seq ?_
      refine VC.region ?_
      refine VL.q (Q.move rfl) ?_
      refine VL.q (Q.move rfl) ?_
      refine VL.q (Q.len sl147 rfl) ?_
      refine VL.quietE (v' := .bool true) (by decide) (Q.lt rfl rfl) (by rfl) ?_
      refine VL.nil ?_
      refine VE.seq ?_
      refine VC.condT rfl ?_
      refine VC.skip ?_
      refine VE.seq ?_
      refine VC.seq ?_
      refine VC.block ?_
      refine VC.seq ?_
      refine VA.start (Ls := [.blk gw [.int .u8 2, .int .u8 0, .int .u8 0, .int .u8 0, .int .u8 2, .int .u8 (x.1.root : Int), .int .i64 (x.1.seq : Int), .int .i64 ((x.1.hops + 1 : Nat) : Int), .int .i64 ((wc M x.1 : Nat) : Int), .bool (decide (x.1.root = 0))] 132, .blk g5 (wordC x) 137]) (Cs := []) mixed ?_
      refine VA.tk 0 rfl (Still.then (Still.block (Still.then (Still.then (Still.block (Still.then Still.body)))))) zB Cells.nil (Quiet.c (Q.move rfl)) ?_
      refine VA.tk 1 rfl (Still.then (Still.block (Still.then (Still.then (Still.block (Still.then Still.body)))))) zB Cells.nil (Quiet.c (Q.fieldAddr fa137_1 rfl)) ?_
      refine VA.tk 2 rfl (Still.then (Still.block (Still.then (Still.then (Still.block (Still.then Still.body)))))) zB Cells.nil (Quiet.c (Q.load1 ty3 rfl zM rfl)) ?_
      refine VA.tk 3 rfl (Still.then (Still.block (Still.then (Still.then (Still.block (Still.then Still.body)))))) zB Cells.nil (Quiet.c (Q.move rfl)) ?_
      refine VA.tk 4 rfl (Still.then (Still.block (Still.then (Still.then (Still.block (Still.then Still.body)))))) zB Cells.nil (Quiet.c (Q.move rfl)) ?_
      refine VA.tk 5 rfl (Still.then (Still.block (Still.then (Still.then (Still.block (Still.then Still.body)))))) zB Cells.nil (Quiet.c (Q.indexAddr sl147 (j := 0) rfl rfl rfl (by omega))) ?_
      refine VA.tk 6 rfl (Still.then (Still.block (Still.then (Still.then (Still.block (Still.then Still.body)))))) zB Cells.nil (Quiet.c (Q.loadA ty132 rfl zM zS)) ?_
      refine VA.all (rs := [7]) (by kernel_rfl) (by simp) ?_
      refine VA.forall1 ?_
      ·
       refine VA.eff rfl ?_
       refine id (O.callF ok39 rfl rfl (by decide) (spread_c g (accM M x.1) F { Y with tv := upd Y.tv x.1.dst q1 } (tRow q1 (upd (M.tree x.1.dst) x.1.root (some (newT M x.1))) :: R) x.1.dst x.1.root x.1.seq (x.1.hops + 1) (wc M x.1) hd6 hr2 (by omega) (by omega) (by unfold wc; omega) hml) zM2 (fun _ _ _ => trivial) ?_)
       intro x116 y116
       obtain ⟨b, mv⟩ := x116
       have hst := hst b mv
       refine VA.next zB Cells.nil ?_
       refine VA.tk 8 rfl (Still.then (Still.block (Still.then (Still.then (Still.block (Still.then Still.body)))))) zB Cells.nil (Quiet.c (Q.not rfl)) ?_
       refine VA.done (by kernel_rfl) ?_
       refine VE.seq ?_
       refine VC.condF rfl ?_
       refine VC.skip ?_
       refine VE.block_normal ?_
       refine VE.seq ?_
       refine VC.region ?_
       refine VL.q (Q.move rfl) ?_
       refine VL.quietE (v' := .int .i64 1) (by decide) ((by first | exact Q.addI rfl rfl (by omega) (by omega) | exact Q.add rfl rfl)) (by rfl) ?_
       refine VL.q (Q.assign rfl) ?_
       refine VL.nil ?_
       refine VE.then_normal ?_
       refine VC.rnd (m := 38) ?_
       refine VC.seq ?_
       refine VC.seq ?_
       refine VC.region ?_
       refine VL.q (Q.move rfl) ?_
       refine VL.q (Q.move rfl) ?_
       refine VL.q (Q.len sl147 rfl) ?_
       refine VL.quietE (v' := .bool false) (by decide) (Q.lt rfl rfl) (by rfl) ?_
       refine VL.nil ?_
       refine VE.seq ?_
       refine VC.condF rfl ?_
       refine VC.exit ?_
       refine VE.then_exit ?_
       refine VE.then_exit ?_
       refine VE.block_here ?_
       refine VE.seq ?_
       refine VC.seq ?_
       refine VC.region ?_
       refine VL.q (Q.assign rfl) ?_
       refine VL.nil ?_
       refine VE.seq ?_
       refine VC.ret ?_
       refine VK.picks (Lin := mBlk g (accM M x.1) F (accY M Y x.1 q1 b mv) :: mRow (accY M Y x.1 q1 b mv) :: .row (.slice b.1 23 b.2) 5 1 23 (bs (actB (wordB x.1.root x.1.seq (x.1.hops + 1) (wc M x.1)))) :: tRow q1 (upd (M.tree x.1.dst) x.1.root (some (newT M x.1))) :: R) zM2 ?_
       exact VE.ret rfl (.tmp rfl .nil) (some (q1, b, mv)) hst rfl (List.Sublist.refl _)

end Go.Proofs.YtencghlmckbmlaaGreat
