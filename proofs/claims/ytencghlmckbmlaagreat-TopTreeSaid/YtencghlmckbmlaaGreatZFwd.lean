/- The contracts of package forward. Conditions: those that each bears. -/
import Derived.Test.YtencghlmckbmlaaGreatRows
import Derived.Test.YtencghlmckbmlaaGreatZFind
namespace Go.Proofs.YtencghlmckbmlaaGreat
open Go Go.RowKit Go.Sx
set_option maxRecDepth 100000

theorem fa252_1 : tyField Tryz.prog 252 1 = some 6 := by kernel_rfl
theorem fa258_1 : tyField Tryz.prog 258 1 = some 6 := by kernel_rfl
theorem fa55_0 : tyField Tryz.prog 55 0 = some 0 := by kernel_rfl
theorem fa55_1 : tyField Tryz.prog 55 1 = some 6 := by kernel_rfl
theorem fa55_2 : tyField Tryz.prog 55 2 = some 7 := by kernel_rfl
theorem fa55_3 : tyField Tryz.prog 55 3 = some 8 := by kernel_rfl
theorem ok119 : okFunc Tryz.prog 119 = true := by kernel_rfl
theorem ok125 : okFunc Tryz.prog 125 = true := by kernel_rfl
theorem ok129 : okFunc Tryz.prog 129 = true := by kernel_rfl
theorem ok180 : okFunc Tryz.prog 180 = true := by kernel_rfl
theorem ok181 : okFunc Tryz.prog 181 = true := by kernel_rfl
theorem ok183 : okFunc Tryz.prog 183 = true := by kernel_rfl
theorem ok186 : okFunc Tryz.prog 186 = true := by kernel_rfl
theorem ok99 : okFunc Tryz.prog 99 = true := by kernel_rfl
theorem ty52 : tySz Tryz.prog 52 = some (false, 1) := by kernel_rfl
theorem ty53 : tySz Tryz.prog 53 = some (false, 1) := by kernel_rfl
theorem ty55 : tySz Tryz.prog 55 = some (true, 9) := by kernel_rfl
theorem zo252 : tyZero Tryz.prog 252 = some [.int .u8 0, .int .u8 0, .int .u8 0, .int .u8 0, .int .u8 0, .int .u8 0, .int .u8 0, .int .u8 0, .int .u8 0, .int .u8 0, .int .u8 0, .int .u8 0] := by kernel_rfl
theorem zo258 : tyZero Tryz.prog 258 = some [.int .u8 0, .int .u8 0, .int .u8 0, .int .u8 0, .int .u8 0, .int .u8 0, .int .i64 0] := by kernel_rfl
theorem zo55 : tyZero Tryz.prog 55 = some [.int .u8 0, .int .u8 0, .int .u8 0, .int .u8 0, .int .u8 0, .int .u8 0, .int .i64 0, .slice none 0 0, .slice none 0 0] := by kernel_rfl

open Go.Mesh
structure FOk (o sq : Nat) (ms hs : List (Nat × Nat)) : Prop where
  own : o < 6
  sq : sq < 65536
  ml : ms.length ≤ 126
  md : ms.Nodup
  mv : ∀ m ∈ ms, m.2 < 65536
  hl : hs.length ≤ 2
  srt : Srt hs
  hv : ∀ h ∈ hs, h.1 ≤ 255 ∧ h.2 ≤ 255 ∧ h.1 ≠ o ∧ h.2 ≠ o
  h2 : ∀ h ∈ hs, h.1 < 2
theorem rd_take {W : World} {p : Option Addr} {α : Type} {f : α → List Value} {l : List α} (h : Rd W p (l.flatMap f)) (k : Nat) : Rd W p ((l.take k).flatMap f) := by
  have e : l.flatMap f = (l.take k).flatMap f ++ (l.drop k).flatMap f := by rw [← List.flatMap_append, List.take_append_drop]
  rw [e] at h
  exact h.sub fun j u hj => by
    have hlt := (List.getElem?_eq_some_iff.1 hj).1
    rw [List.getElem?_append_left hlt]
    exact hj
theorem nodup_take {l : List (Nat × Nat)} (h : l.Nodup) (k : Nat) (hk : k < l.length) : l[k] ∉ l.take k := fun hm => by
  obtain ⟨j, hj, e⟩ := List.mem_iff_getElem.1 hm
  rw [List.length_take] at hj
  rw [List.getElem_take] at e
  exact List.pairwise_iff_getElem.1 h j k (by omega) hk (by omega) e

theorem validseq_c (n : Int) (h : 0 ≤ n ∧ n < 65536) :
  Does Tryz.prog 180 [.int .i64 n] [] (fun _ => True) (X := Unit) (fun _ => True) (fun _ => .bool true) (fun _ => []) := by
 refine Does.enter Tryz.func180 rfl (m := 9) rfl (by simp) ?_
 intro W0 hro
 refine VC.seq ?_
 refine VC.region ?_
 refine VL.q (Q.assign rfl) ?_
 refine VL.nil ?_
 refine VE.seq ?_
 refine VC.seq ?_
 refine VC.region ?_
 refine VL.q (Q.move rfl) ?_
 refine VL.quietE (v' := .bool true) (by decide) (Q.ge rfl rfl) (congrArg Value.bool (decide_eq_true (by omega))) ?_
 refine VL.q (Q.move rfl) ?_
 refine VL.yes rfl rfl ?_
 refine VL.q (Q.move rfl) ?_
 refine VL.yes rfl rfl ?_
 refine VL.quietE (v' := .bool true) (by decide) (Q.lt rfl rfl) (congrArg Value.bool (decide_eq_true (by omega))) ?_
 refine VL.quietE (v' := .bool true) (by decide) (Q.pick_true rfl rfl) (by rfl) ?_
 refine VL.q (Q.assign rfl) ?_
 refine VL.nil ?_
 refine VE.seq ?_
 refine VC.ret ?_
 refine VE.ret rfl (.tmp rfl .nil) () ?_ ?_ (List.nil_sublist _)
 ·
  trivial
 ·
  first | rfl | (exfalso; simp at *; omega)

theorem odd_c (o sq a : Nat) (s1 s2 : Value) (hne : a ≠ o) :
  Does Tryz.prog 119 [.agg #[.int .u8 2, .int .u8 0, .int .u8 0, .int .u8 0, .int .u8 2, .int .u8 (o : Int), .int .i64 (sq : Int), s1, s2], .agg #[.int .u8 2, .int .u8 0, .int .u8 0, .int .u8 0, .int .u8 2, .int .u8 (a : Int)]] [] (fun _ => True) (X := Unit) (fun _ => True) (fun _ => .bool false) (fun _ => []) := by
 refine Does.enter Tryz.func119 rfl (m := 13) rfl (by simp) ?_
 intro W0 hro
 refine VC.seq ?_
 refine VC.region ?_
 refine VL.eff (O.box rfl rfl (by decide) ?_)
 intro g2
 refine VL.eff (O.box rfl rfl (by decide) ?_)
 intro g3
 refine VL.q (Q.assign rfl) ?_
 refine VL.nil ?_
 refine VE.seq ?_
 refine VC.seq ?_
 refine VC.region ?_
 refine VL.q (Q.loadA ty44 rfl zM zS) ?_
 refine VL.q (Q.fieldAddr fa55_0 rfl) ?_
 refine VL.q (Q.loadA ty44 rfl zM zS) ?_
 refine VL.quietE (v' := .bool false) (by decide) (Q.eqS flt44 (by decide) ty44 eg44 rfl rfl rfl rfl) (congrArg Value.bool ((node_eq a o).trans (decide_eq_false hne))) ?_
 refine VL.q (Q.move rfl) ?_
 refine VL.yes rfl rfl ?_
 refine VL.q (Q.loadA ty44 rfl zM zS) ?_
 refine VL.yes rfl rfl ?_
 refine VL.eff (O.call0 ok99 rfl rfl (by decide) (fgroup_c a) (fun _ _ _ => trivial) ?_)
 intro x11 y11
 refine VL.quietE (v' := .bool false) (by decide) (Q.pick_false rfl rfl) (by rfl) ?_
 refine VL.q (Q.assign rfl) ?_
 refine VL.nil ?_
 refine VE.seq ?_
 refine VC.ret ?_
 refine VE.ret rfl (.tmp rfl .nil) () ?_ ?_ (List.nil_sublist _)
 ·
  trivial
 ·
  first | rfl | (exfalso; simp at *; omega)

theorem fcheck_c (o sq : Nat) (p1 : Option Addr) (c1 : Nat) (ms : List (Nat × Nat)) (p2 : Option Addr) (c2 : Nat) (hs : List (Nat × Nat)) (hok : FOk o sq ms hs) (hc1 : ms.length ≤ c1) :
  Does Tryz.prog 117 [.agg #[.int .u8 2, .int .u8 0, .int .u8 0, .int .u8 0, .int .u8 2, .int .u8 (o : Int), .int .i64 (sq : Int), .slice p1 ms.length c1, .slice p2 hs.length c2]] [] (fun W => Rd W p1 (ms.flatMap markC) ∧ Rd W p2 (hs.flatMap hopC)) (X := Unit) (fun _ => True) (fun _ => .int .i64 0) (fun _ => []) := by
 have hml := hok.ml
 have hhl := hok.hl
 have hsq := hok.sq
 refine Does.enter Tryz.func117 rfl (m := 85) rfl (by simp) ?_
 intro W0 hro
 refine VC.seq ?_
 refine VC.region ?_
 refine VL.eff (O.box rfl rfl (by decide) ?_)
 intro g1
 refine VL.q (Q.assign rfl) ?_
 refine VL.nil ?_
 refine VE.seq ?_
 refine VC.seq ?_
 refine VC.seq ?_
 refine VC.region ?_
 refine VL.q (Q.fieldAddr fa55_0 rfl) ?_
 refine VL.q (Q.loadA ty44 rfl zM zS) ?_
 refine VL.eff (O.call0 ok99 rfl rfl (by decide) (fgroup_c o) (fun _ _ _ => trivial) ?_)
 intro x9 y9
 refine VL.q (Q.move rfl) ?_
 refine VL.yes rfl rfl ?_
 refine VL.q (Q.fieldAddr fa55_1 rfl) ?_
 refine VL.yes rfl rfl ?_
 refine VL.q (Q.load1 ty3 rfl zM rfl) ?_
 refine VL.yes rfl rfl ?_
 refine VL.eff (O.call0 ok180 rfl rfl (by decide) (validseq_c _ (by omega)) (fun _ _ _ => trivial) ?_)
 intro x13 y13
 refine VL.yes rfl rfl ?_
 refine VL.quietE (v' := .bool false) (by decide) (Q.not rfl) (by rfl) ?_
 refine VL.quietE (v' := .bool false) (by decide) (Q.pick_false rfl rfl) (by rfl) ?_
 refine VL.q (Q.move rfl) ?_
 refine VL.yes rfl rfl ?_
 refine VL.q (Q.fieldAddr fa55_2 rfl) ?_
 refine VL.yes rfl rfl ?_
 refine VL.q (Q.load1 ty52 rfl zM rfl) ?_
 refine VL.yes rfl rfl ?_
 refine VL.q (Q.len sl52 rfl) ?_
 refine VL.yes rfl rfl ?_
 refine VL.quietE (v' := .bool false) (by decide) (Q.gt rfl rfl) (congrArg Value.bool (decide_eq_false (by omega))) ?_
 refine VL.quietE (v' := .bool false) (by decide) (Q.pick_false rfl rfl) (by rfl) ?_
 refine VL.q (Q.move rfl) ?_
 refine VL.yes rfl rfl ?_
 refine VL.q (Q.fieldAddr fa55_3 rfl) ?_
 refine VL.yes rfl rfl ?_
 refine VL.q (Q.load1 ty53 rfl zM rfl) ?_
 refine VL.yes rfl rfl ?_
 refine VL.q (Q.len sl53 rfl) ?_
 refine VL.yes rfl rfl ?_
 refine VL.quietE (v' := .bool false) (by decide) (Q.gt rfl rfl) (congrArg Value.bool (decide_eq_false (by omega))) ?_
 refine VL.quietE (v' := .bool false) (by decide) (Q.pick_false rfl rfl) (by rfl) ?_
 refine VL.nil ?_
 refine VE.seq ?_
 refine VC.condF rfl ?_
 refine VC.skip ?_
 refine VE.seq ?_
 refine VC.seq ?_
 refine VC.seq ?_
 refine VC.region ?_
 refine VL.q (Q.fieldAddr fa55_2 rfl) ?_
 refine VL.q (Q.load1 ty52 rfl zM rfl) ?_
 refine VL.q (Q.len sl52 rfl) ?_
 refine VL.q (Q.move rfl) ?_
 refine VL.nil ?_
 refine VE.seq ?_
 refine VC.block ?_
 refine VC.loop (X := Nat) (fun k => [(1, .pointer (some ⟨g1, 0, none⟩)), (2, .int .i64 0), (29, .slice p1 ms.length c1), (30, .int .i64 (ms.length : Int)), (31, .int .i64 (k : Int))]) (fun k => [.blk g1 [.int .u8 2, .int .u8 0, .int .u8 0, .int .u8 0, .int .u8 2, .int .u8 (o : Int), .int .i64 (sq : Int), .slice p1 ms.length c1, .slice p2 hs.length c2] 55]) (fun k => k ≤ ms.length) (fun k => ms.length - k) 0 (Nat.zero_le _) ?_ ?_
 ·
  exact VS.mk zE zB
 ·
  intro k hk
  refine VC.seq ?_
  refine VC.region ?_
  refine VL.q (Q.lt rfl rfl) ?_
  refine VL.nil ?_
  refine VE.seq ?_
  refine VC.seq ?_
  refine VC.cond rfl ?_ ?_
  ·
   intro h32
   have hlt : k < ms.length := by have := of_decide_eq_true h32; omega
   obtain ⟨b0, o0, rfl⟩ := hro.1.pos (by rw [fm_length markC_len]; omega)
   have ht := hok.mv _ (List.getElem_mem hlt)
   refine VC.skip ?_
   refine VE.seq ?_
   refine VC.seq ?_
   refine VC.block ?_
   refine VC.seq ?_
   refine VC.region ?_
   refine VL.q (Q.move rfl) ?_
   refine VL.q (Q.indexAddr sl52 (j := k) rfl rfl rfl hlt) ?_
   refine VL.q (Q.load0A (xs := markC ms[k]) ty258 rfl (Rd.sg hro.1 (fm_seg markC_len ms k hlt)) (by simp)) ?_
   refine VL.eff (O.alloc zo258 (by decide) ?_)
   intro g4
   refine VL.q (Q.assign rfl) ?_
   refine VL.eff (O.store ty258 rfl rfl rfl rfl zU zP ?_)
   refine VL.nil ?_
   refine VE.seq ?_
   refine VC.seq ?_
   refine VA.start (Ls := [.blk g4 [.int .u8 2, .int .u8 0, .int .u8 0, .int .u8 0, .int .u8 2, .int .u8 (ms[k].1 : Int), .int .i64 (ms[k].2 : Int)] 258, .blk g1 [.int .u8 2, .int .u8 0, .int .u8 0, .int .u8 0, .int .u8 2, .int .u8 (o : Int), .int .i64 (sq : Int), .slice (some ⟨b0, o0, none⟩) ms.length c1, .slice p2 hs.length c2] 55]) (Cs := []) mixed ?_
   refine VA.tk 0 rfl (Still.then (Still.block (Still.then (Still.then (Still.block (Still.then Still.body)))))) zB Cells.nil (Quiet.c (Q.fieldAddr fa258_1 rfl)) ?_
   refine VA.tk 1 rfl (Still.then (Still.block (Still.then (Still.then (Still.block (Still.then Still.body)))))) zB Cells.nil (Quiet.c (Q.load1 ty3 rfl zM rfl)) ?_
   refine VA.all (rs := [2]) (by kernel_rfl) (by simp) ?_
   refine VA.forall1 ?_
   ·
    refine VA.eff rfl ?_
    refine id (O.call0 ok180 rfl rfl (by decide) (validseq_c _ (by omega)) (fun _ _ _ => trivial) ?_)
    intro x38 y38
    refine VA.next zB Cells.nil ?_
    refine VA.tk 3 rfl (Still.then (Still.block (Still.then (Still.then (Still.block (Still.then Still.body)))))) zB Cells.nil (Quiet.c (Q.not rfl)) ?_
    refine VA.tk 4 rfl (Still.then (Still.block (Still.then (Still.then (Still.block (Still.then Still.body)))))) zB Cells.nil (Quiet.c (Q.move rfl)) ?_
    refine VA.takeY 5 rfl rfl rfl (by kernel_rfl) (by kernel_rfl) (by kernel_rfl) (Still.then (Still.block (Still.then (Still.then (Still.block (Still.then Still.body)))))) zB Cells.nil (by decide) (Quiet.c (Q.fieldAddr fa55_2 rfl)) ?_
    refine VA.takeY 6 rfl rfl rfl (by kernel_rfl) (by kernel_rfl) (by kernel_rfl) (Still.then (Still.block (Still.then (Still.then (Still.block (Still.then Still.body)))))) zB Cells.nil (by decide) (Quiet.c (Q.load1 ty52 rfl zM rfl)) ?_
    refine VA.takeY 7 rfl rfl rfl (by kernel_rfl) (by kernel_rfl) (by kernel_rfl) (Still.then (Still.block (Still.then (Still.then (Still.block (Still.then Still.body)))))) zB Cells.nil (by decide) (Quiet.c (Q.move rfl)) ?_
    refine VA.takeY 8 rfl rfl rfl (by kernel_rfl) (by kernel_rfl) (by kernel_rfl) (Still.then (Still.block (Still.then (Still.then (Still.block (Still.then Still.body)))))) zB Cells.nil (by decide) (Quiet.c (Q.slc0 sl52 (h := k) rfl ⟨_, _, rfl, rfl⟩ (by omega))) ?_
    refine VA.takeY 9 rfl rfl rfl (by kernel_rfl) (by kernel_rfl) (by kernel_rfl) (Still.then (Still.block (Still.then (Still.then (Still.block (Still.then Still.body)))))) zB Cells.nil (by decide) (Quiet.c (Q.loadA ty258 rfl zM zS)) ?_
    refine VA.all (rs := [10]) (by kernel_rfl) (by simp) ?_
    refine VA.forall1 ?_
    ·
     refine VA.effY rfl rfl rfl ?_
     refine id (O.call0 ok129 rfl rfl (by decide) (contains_c (some ⟨b0, o0, none⟩) k c1 (ms.take k) (by rw [List.length_take]; omega) (by omega) ms[k]) (fun _ ho _ => rd_take (hro.1.only0 ho) k) ?_)
     intro x46 y46
     have hx46 : x46 = false := by
      cases hb : x46 with
      | false => rfl
      | true => exact absurd (y46.1 hb) (nodup_take hok.md k hlt)
     subst hx46
     refine VA.next zB Cells.nil ?_
     refine VA.tk 11 rfl (Still.then (Still.block (Still.then (Still.then (Still.block (Still.then Still.body)))))) zB Cells.nil (Quiet.c (Q.pick_false rfl rfl)) ?_
     refine VA.done (by kernel_rfl) ?_
     refine VE.seq ?_
     refine VC.condF rfl ?_
     refine VC.skip ?_
     refine VE.block_normal ?_
     refine VE.seq ?_
     refine VC.region ?_
     refine VL.q ((by first | exact Q.addI rfl rfl (by omega) (by omega) | exact Q.add rfl rfl)) ?_
     refine VL.q (Q.move rfl) ?_
     refine VL.nil ?_
     refine VE.then_normal ?_
     exact VE.round (k + 1) (by omega) (by omega) zE zB
  ·
   intro h32
   refine VC.exit ?_
   refine VE.then_exit ?_
   refine VE.then_exit ?_
   refine VE.block_here ?_
   refine VE.seq ?_
   refine VC.seq ?_
   refine VC.seq ?_
   refine VC.region ?_
   refine VL.q (Q.fieldAddr fa55_3 rfl) ?_
   refine VL.q (Q.load1 ty53 rfl zM rfl) ?_
   refine VL.q (Q.len sl53 rfl) ?_
   refine VL.q (Q.move rfl) ?_
   refine VL.nil ?_
   refine VE.seq ?_
   refine VC.block ?_
   refine VC.loop (X := Nat) (fun k => [(1, .pointer (some ⟨g1, 0, none⟩)), (2, .int .i64 0), (50, .slice p2 hs.length c2), (51, .int .i64 (hs.length : Int)), (52, .int .i64 (k : Int))]) (fun k => [.blk g1 [.int .u8 2, .int .u8 0, .int .u8 0, .int .u8 0, .int .u8 2, .int .u8 (o : Int), .int .i64 (sq : Int), .slice p1 ms.length c1, .slice p2 hs.length c2] 55]) (fun k => k ≤ hs.length) (fun k => hs.length - k) 0 (Nat.zero_le _) ?_ ?_
   ·
    exact VS.mk zE zB
   ·
    intro k hk
    refine VC.seq ?_
    refine VC.region ?_
    refine VL.q (Q.lt rfl rfl) ?_
    refine VL.nil ?_
    refine VE.seq ?_
    refine VC.seq ?_
    refine VC.cond rfl ?_ ?_
    ·
     intro h53
     have hlt : k < hs.length := by have := of_decide_eq_true h53; omega
     obtain ⟨b0, o0, rfl⟩ := hro.2.pos (by rw [fm_length hopC_len]; omega)
     have ht := hok.hv _ (List.getElem_mem hlt)
     refine VC.skip ?_
     refine VE.seq ?_
     refine VC.seq ?_
     refine VC.block ?_
     refine VC.seq ?_
     refine VC.region ?_
     refine VL.q (Q.move rfl) ?_
     refine VL.q (Q.indexAddr sl53 (j := k) rfl rfl rfl hlt) ?_
     refine VL.q (Q.load0A (xs := hopC hs[k]) ty252 rfl (Rd.sg hro.2 (fm_seg hopC_len hs k hlt)) (by simp)) ?_
     refine VL.eff (O.alloc zo252 (by decide) ?_)
     intro g6
     refine VL.q (Q.assign rfl) ?_
     refine VL.eff (O.store ty252 rfl rfl rfl rfl zU zP ?_)
     refine VL.nil ?_
     refine VE.seq ?_
     refine VC.seqJ (X := Unit) (fun z => [(1, .pointer (some ⟨g1, 0, none⟩)), (2, .int .i64 0), (6, .pointer (some ⟨g6, 0, none⟩)), (50, .slice (some ⟨b0, o0, none⟩) hs.length c2), (51, .int .i64 (hs.length : Int)), (52, .int .i64 (k : Int)), (83, .bool false)]) (fun z => [.blk g6 [.int .u8 2, .int .u8 0, .int .u8 0, .int .u8 0, .int .u8 2, .int .u8 (hs[k].1 : Int), .int .u8 2, .int .u8 0, .int .u8 0, .int .u8 0, .int .u8 2, .int .u8 (hs[k].2 : Int)] 252, .blk g1 [.int .u8 2, .int .u8 0, .int .u8 0, .int .u8 0, .int .u8 2, .int .u8 (o : Int), .int .i64 (sq : Int), .slice p1 ms.length c1, .slice (some ⟨b0, o0, none⟩) hs.length c2] 55]) (fun z => True) ?_ ?_
     ·
      refine VA.start (Ls := [.blk g6 [.int .u8 2, .int .u8 0, .int .u8 0, .int .u8 0, .int .u8 2, .int .u8 (hs[k].1 : Int), .int .u8 2, .int .u8 0, .int .u8 0, .int .u8 0, .int .u8 2, .int .u8 (hs[k].2 : Int)] 252, .blk g1 [.int .u8 2, .int .u8 0, .int .u8 0, .int .u8 0, .int .u8 2, .int .u8 (o : Int), .int .i64 (sq : Int), .slice p1 ms.length c1, .slice (some ⟨b0, o0, none⟩) hs.length c2] 55]) (Cs := []) mixed ?_
      refine VA.tk 0 rfl (Still.then (Still.block (Still.then (Still.then (Still.block (Still.then Still.body)))))) zB Cells.nil (Quiet.c (Q.loadA ty55 rfl zM zS)) ?_
      refine VA.tk 1 rfl (Still.then (Still.block (Still.then (Still.then (Still.block (Still.then Still.body)))))) zB Cells.nil (Quiet.c (Q.fieldAddr fa252_0 rfl)) ?_
      refine VA.tk 2 rfl (Still.then (Still.block (Still.then (Still.then (Still.block (Still.then Still.body)))))) zB Cells.nil (Quiet.c (Q.loadA ty44 rfl zM zS)) ?_
      refine VA.all (rs := [3]) (by kernel_rfl) (by simp) ?_
      refine VA.forall1 ?_
      ·
       refine VA.eff rfl ?_
       refine id (O.call0 ok119 rfl rfl (by decide) (odd_c o sq hs[k].1 _ _ ht.2.2.1) (fun _ _ _ => trivial) ?_)
       intro x60 y60
       refine VA.next zB Cells.nil ?_
       refine VA.tk 4 rfl (Still.then (Still.block (Still.then (Still.then (Still.block (Still.then Still.body)))))) zB Cells.nil (Quiet.c (Q.move rfl)) ?_
       refine VA.takeY 5 rfl rfl rfl (by kernel_rfl) (by kernel_rfl) (by kernel_rfl) (Still.then (Still.block (Still.then (Still.then (Still.block (Still.then Still.body)))))) zB Cells.nil (by decide) (Quiet.c (Q.loadA ty55 rfl zM zS)) ?_
       refine VA.takeY 6 rfl rfl rfl (by kernel_rfl) (by kernel_rfl) (by kernel_rfl) (Still.then (Still.block (Still.then (Still.then (Still.block (Still.then Still.body)))))) zB Cells.nil (by decide) (Quiet.c (Q.fieldAddr fa252_1 rfl)) ?_
       refine VA.takeY 7 rfl rfl rfl (by kernel_rfl) (by kernel_rfl) (by kernel_rfl) (Still.then (Still.block (Still.then (Still.then (Still.block (Still.then Still.body)))))) zB Cells.nil (by decide) (Quiet.c (Q.loadA ty44 rfl zM zS)) ?_
       refine VA.all (rs := [8]) (by kernel_rfl) (by simp) ?_
       refine VA.forall1 ?_
       ·
        refine VA.effY rfl rfl rfl ?_
        refine id (O.call0 ok119 rfl rfl (by decide) (odd_c o sq hs[k].2 _ _ ht.2.2.2) (fun _ _ _ => trivial) ?_)
        intro x65 y65
        refine VA.next zB Cells.nil ?_
        refine VA.tk 9 rfl (Still.then (Still.block (Still.then (Still.then (Still.block (Still.then Still.body)))))) zB Cells.nil (Quiet.c (Q.pick_false rfl rfl)) ?_
        refine VA.tk 10 rfl (Still.then (Still.block (Still.then (Still.then (Still.block (Still.then Still.body)))))) zB Cells.nil (Quiet.c (Q.move rfl)) ?_
        refine VA.takeY 11 rfl rfl rfl (by kernel_rfl) (by kernel_rfl) (by kernel_rfl) (Still.then (Still.block (Still.then (Still.then (Still.block (Still.then Still.body)))))) zB Cells.nil (by decide) (Quiet.c (Q.move rfl)) ?_
        refine VA.takeY 12 rfl rfl rfl (by kernel_rfl) (by kernel_rfl) (by kernel_rfl) (Still.then (Still.block (Still.then (Still.then (Still.block (Still.then Still.body)))))) zB Cells.nil (by decide) (Quiet.c (Q.gt rfl rfl)) ?_
        refine VA.takeY 13 rfl rfl rfl (by kernel_rfl) (by kernel_rfl) (by kernel_rfl) (Still.then (Still.block (Still.then (Still.then (Still.block (Still.then Still.body)))))) zB Cells.nil (by decide) (Quiet.c (Q.move rfl)) ?_
        refine VK.case 70 rfl ?_ ?_
        ·
         intro h70
         have hk0 : k ≠ 0 := by intro e; subst e; simp at h70
         refine VA.takeY 14 rfl rfl rfl (by kernel_rfl) (by kernel_rfl) (by kernel_rfl) (Still.then (Still.block (Still.then (Still.then (Still.block (Still.then Still.body)))))) zB Cells.nil (by decide) (Quiet.c (Q.fieldAddr fa55_3 rfl)) ?_
         refine VA.takeY 15 rfl rfl rfl (by kernel_rfl) (by kernel_rfl) (by kernel_rfl) (Still.then (Still.block (Still.then (Still.then (Still.block (Still.then Still.body)))))) zB Cells.nil (by decide) (Quiet.c (Q.load1 ty53 rfl zM rfl)) ?_
         refine VA.takeY 16 rfl rfl rfl (by kernel_rfl) (by kernel_rfl) (by kernel_rfl) (Still.then (Still.block (Still.then (Still.then (Still.block (Still.then Still.body)))))) zB Cells.nil (by decide) (Quiet.c (Q.move rfl)) ?_
         refine VA.takeY 17 rfl rfl rfl (by kernel_rfl) (by kernel_rfl) (by kernel_rfl) (Still.then (Still.block (Still.then (Still.then (Still.block (Still.then Still.body)))))) zB Cells.nil (by decide) (Quiet.c (Quiet.to (v' := .int .i64 ((k - 1 : Nat) : Int)) ((by first | exact Q.subI rfl rfl (by omega) (by omega) | exact Q.sub rfl rfl)) (congrArg (Value.int .i64) (by omega)))) ?_
         refine VA.takeY 18 rfl rfl rfl (by kernel_rfl) (by kernel_rfl) (by kernel_rfl) (Still.then (Still.block (Still.then (Still.then (Still.block (Still.then Still.body)))))) zB Cells.nil (by decide) (Quiet.c (Q.indexAddr sl53 (j := (k - 1)) rfl rfl rfl (by omega))) ?_
         refine VA.takeY 19 rfl rfl rfl (by kernel_rfl) (by kernel_rfl) (by kernel_rfl) (Still.then (Still.block (Still.then (Still.then (Still.block (Still.then Still.body)))))) zB Cells.nil (by decide) (Quiet.c (Q.fieldAddr fa252_0 rfl)) ?_
         refine VA.takeY 20 rfl rfl rfl (by kernel_rfl) (by kernel_rfl) (by kernel_rfl) (Still.then (Still.block (Still.then (Still.then (Still.block (Still.then Still.body)))))) zB Cells.nil (by decide) (Quiet.c (Q.load0A (xs := nodeC hs[k - 1].1) ty44 rfl (Rd.sg2 hro.2 (fm_sub hopC_len hs (k - 1) (by omega) (o := 0) (ys := nodeC hs[k - 1].1) zS)) (by simp))) ?_
         refine VA.takeY 21 rfl rfl rfl (by kernel_rfl) (by kernel_rfl) (by kernel_rfl) (Still.then (Still.block (Still.then (Still.then (Still.block (Still.then Still.body)))))) zB Cells.nil (by decide) (Quiet.c (Q.fieldAddr fa252_0 rfl)) ?_
         refine VA.takeY 22 rfl rfl rfl (by kernel_rfl) (by kernel_rfl) (by kernel_rfl) (Still.then (Still.block (Still.then (Still.then (Still.block (Still.then Still.body)))))) zB Cells.nil (by decide) (Quiet.c (Q.loadA ty44 rfl zM zS)) ?_
         refine VA.all (rs := [23]) (by kernel_rfl) (by simp) ?_
         refine VA.forall1 ?_
         ·
          refine VA.effY rfl rfl rfl ?_
          refine id (O.call0 ok135 rfl rfl (by decide) (acompare_c hs[k - 1].1 hs[k].1 (hok.hv _ (List.getElem_mem _)).1 ht.1) (fun _ _ _ => trivial) ?_)
          intro x80 y80
          refine VA.next zB Cells.nil ?_
          refine VA.takeY 24 rfl rfl rfl (by kernel_rfl) (by kernel_rfl) (by kernel_rfl) (Still.then (Still.block (Still.then (Still.then (Still.block (Still.then Still.body)))))) zB Cells.nil (by decide) (Quiet.c (Quiet.to (v' := .bool false) (Q.ge rfl rfl) (congrArg Value.bool (cmpN_ge (hok.srt (k - 1) k (by omega) (by omega) hlt))))) ?_
          refine VA.takeY 25 rfl rfl rfl (by kernel_rfl) (by kernel_rfl) (by kernel_rfl) (Still.then (Still.block (Still.then (Still.then (Still.block (Still.then Still.body)))))) zB Cells.nil (by decide) (Quiet.c (Q.pick_true rfl rfl)) ?_
          refine VA.tk 26 rfl (Still.then (Still.block (Still.then (Still.then (Still.block (Still.then Still.body)))))) zB Cells.nil (Quiet.c (Q.pick_false rfl rfl)) ?_
          refine VA.done (by kernel_rfl) ?_
          refine VE.then_normal ?_
          exact VE.meetP () trivial zE zKs
        ·
         intro h70
         refine VA.takeN 14 rfl rfl rfl (.inl rfl) (by kernel_rfl) (by kernel_rfl) (by kernel_rfl) (Still.then (Still.block (Still.then (Still.then (Still.block (Still.then Still.body)))))) zB Cells.nil (by decide) ?_
         refine VA.takeN 15 rfl rfl rfl (.inl rfl) (by kernel_rfl) (by kernel_rfl) (by kernel_rfl) (Still.then (Still.block (Still.then (Still.then (Still.block (Still.then Still.body)))))) zB Cells.nil (by decide) ?_
         refine VA.takeN 16 rfl rfl rfl (.inl rfl) (by kernel_rfl) (by kernel_rfl) (by kernel_rfl) (Still.then (Still.block (Still.then (Still.then (Still.block (Still.then Still.body)))))) zB Cells.nil (by decide) ?_
         refine VA.takeN 17 rfl rfl rfl (.inl rfl) (by kernel_rfl) (by kernel_rfl) (by kernel_rfl) (Still.then (Still.block (Still.then (Still.then (Still.block (Still.then Still.body)))))) zB Cells.nil (by decide) ?_
         refine VA.takeN 18 rfl rfl rfl (.inl rfl) (by kernel_rfl) (by kernel_rfl) (by kernel_rfl) (Still.then (Still.block (Still.then (Still.then (Still.block (Still.then Still.body)))))) zB Cells.nil (by decide) ?_
         refine VA.takeN 19 rfl rfl rfl (.inl rfl) (by kernel_rfl) (by kernel_rfl) (by kernel_rfl) (Still.then (Still.block (Still.then (Still.then (Still.block (Still.then Still.body)))))) zB Cells.nil (by decide) ?_
         refine VA.takeN 20 rfl rfl rfl (.inl rfl) (by kernel_rfl) (by kernel_rfl) (by kernel_rfl) (Still.then (Still.block (Still.then (Still.then (Still.block (Still.then Still.body)))))) zB Cells.nil (by decide) ?_
         refine VA.takeN 21 rfl rfl rfl (.inl rfl) (by kernel_rfl) (by kernel_rfl) (by kernel_rfl) (Still.then (Still.block (Still.then (Still.then (Still.block (Still.then Still.body)))))) zB Cells.nil (by decide) ?_
         refine VA.takeN 22 rfl rfl rfl (.inl rfl) (by kernel_rfl) (by kernel_rfl) (by kernel_rfl) (Still.then (Still.block (Still.then (Still.then (Still.block (Still.then Still.body)))))) zB Cells.nil (by decide) ?_
         refine VA.takeN 23 rfl rfl rfl (.inl rfl) (by kernel_rfl) (by kernel_rfl) (by kernel_rfl) (Still.then (Still.block (Still.then (Still.then (Still.block (Still.then Still.body)))))) zB Cells.nil (by decide) ?_
         refine VA.takeN 24 rfl rfl rfl (.inl rfl) (by kernel_rfl) (by kernel_rfl) (by kernel_rfl) (Still.then (Still.block (Still.then (Still.then (Still.block (Still.then Still.body)))))) zB Cells.nil (by decide) ?_
         refine VA.takeY 25 rfl rfl rfl (by kernel_rfl) (by kernel_rfl) (by kernel_rfl) (Still.then (Still.block (Still.then (Still.then (Still.block (Still.then Still.body)))))) zB Cells.nil (by decide) (Quiet.c (Q.pick_false rfl rfl)) ?_
         refine VA.tk 26 rfl (Still.then (Still.block (Still.then (Still.then (Still.block (Still.then Still.body)))))) zB Cells.nil (Quiet.c (Q.pick_false rfl rfl)) ?_
         refine VA.done (by kernel_rfl) ?_
         refine VE.then_normal ?_
         exact VE.meetP () trivial zE zKs
     ·
      intro z hz
      refine VC.condF rfl ?_
      refine VC.skip ?_
      refine VE.block_normal ?_
      refine VE.seq ?_
      refine VC.region ?_
      refine VL.q ((by first | exact Q.addI rfl rfl (by omega) (by omega) | exact Q.add rfl rfl)) ?_
      refine VL.q (Q.move rfl) ?_
      refine VL.nil ?_
      refine VE.then_normal ?_
      exact VE.round (k + 1) (by omega) (by omega) zE zB
    ·
     intro h53
     refine VC.exit ?_
     refine VE.then_exit ?_
     refine VE.then_exit ?_
     refine VE.block_here ?_
     refine VE.seq ?_
     refine VC.seq ?_
     refine VC.region ?_
     refine VL.q (Q.assign rfl) ?_
     refine VL.nil ?_
     refine VE.seq ?_
     refine VC.ret ?_
     refine VE.ret rfl (.tmp rfl .nil) () ?_ ?_ (List.nil_sublist _)
     ·
      trivial
     ·
      first | rfl | (exfalso; simp at *; omega)

theorem own_c (o sq : Nat) (p1 : Option Addr) (c1 : Nat) (ms : List (Nat × Nat)) (p2 : Option Addr) (c2 : Nat) (hs : List (Nat × Nat)) (hok : FOk o sq ms hs) (hc1 : ms.length ≤ c1) :
  Does Tryz.prog 120 [.agg #[.int .u8 2, .int .u8 0, .int .u8 0, .int .u8 0, .int .u8 2, .int .u8 (o : Int), .int .i64 (sq : Int), .slice p1 ms.length c1, .slice p2 hs.length c2]] [] (fun W => Rd W p1 (ms.flatMap markC) ∧ Rd W p2 (hs.flatMap hopC)) (X := (Option Addr × Nat) × (Option Addr × Nat)) (fun x => ms.length ≤ x.1.2 ∧ hs.length ≤ x.2.2) (fun x => .agg #[.int .u8 2, .int .u8 0, .int .u8 0, .int .u8 0, .int .u8 2, .int .u8 (o : Int), .int .i64 (sq : Int), .slice x.1.1 ms.length x.1.2, .slice x.2.1 hs.length x.2.2]) (fun x => [.row (.slice x.1.1 ms.length x.1.2) 258 7 ms.length ((ms).flatMap markC), .row (.slice x.2.1 hs.length x.2.2) 252 12 hs.length ((hs).flatMap hopC)]) := by
 have hml := hok.ml
 have hhl := hok.hl
 have hsq := hok.sq
 refine Does.enter Tryz.func120 rfl (m := 12) rfl (by simp) ?_
 intro W0 hro
 refine VC.seq ?_
 refine VC.region ?_
 refine VL.eff (O.box rfl rfl (by decide) ?_)
 intro g1
 refine VL.eff (O.alloc zo55 (by decide) ?_)
 intro g2
 refine VL.nil ?_
 refine VE.seq ?_
 refine VC.seq ?_
 refine VA.start (Ls := []) (Cs := []) mixed ?_
 refine VA.tk 0 rfl (Still.then Still.body) (List.nil_sublist _) Cells.nil (Quiet.c (Q.fieldAddr fa55_2 rfl)) ?_
 refine VA.tk 3 rfl (Still.then Still.body) (List.nil_sublist _) Cells.nil (Quiet.c (Q.fieldAddr fa55_3 rfl)) ?_
 refine VA.all (rs := [1, 4]) (by kernel_rfl) (by simp) ?_
 refine VA.forall2 ?_ ?_
 ·
  refine VA.eff rfl ?_
  refine O.quiet (by decide) (Q.load1 ty52 rfl zM rfl) ?_
  refine VA.next (List.nil_sublist _) Cells.nil ?_
  refine VA.all (rs := [2, 4]) (by kernel_rfl) (by simp) ?_
  refine VA.forall2 ?_ ?_
  ·
   refine VA.eff rfl ?_
   refine id (O.call0 ok125 rfl rfl (by decide) (clone_mark p1 ms.length c1 (ms.flatMap markC) (fm_length markC_len ms) (fm_one markC_one ms) (by omega)) (fun _ ho _ => hro.1.only0 ho) ?_)
   intro x5 y5
   obtain ⟨pA, cA⟩ := x5
   have hA : ms.length ≤ cA := y5
   refine VA.next (List.nil_sublist _) Cells.nil ?_
   refine VA.all (rs := [4]) (by kernel_rfl) (by simp) ?_
   refine VA.forall1 ?_
   ·
    refine VA.eff rfl ?_
    refine O.quiet (by decide) (Q.load1 ty53 rfl zM rfl) ?_
    refine VA.next (List.nil_sublist _) Cells.nil ?_
    refine VA.tk 6 rfl (Still.then Still.body) (List.nil_sublist _) Cells.nil (Quiet.c (Q.fieldAddr fa55_2 rfl)) ?_
    refine VA.all (rs := [5]) (by kernel_rfl) (by simp) ?_
    refine VA.forall1 ?_
    ·
     refine VA.eff rfl ?_
     refine id (O.call0 ok183 rfl rfl (by decide) (clone_hop p2 hs.length c2 (hs.flatMap hopC) (fm_length hopC_len hs) (fm_one hopC_one hs) (by omega)) (fun _ ho _ => hro.2.only0 ho) ?_)
     intro x8 y8
     obtain ⟨pB, cB⟩ := x8
     have hB : hs.length ≤ cB := y8
     refine VA.next (List.nil_sublist _) Cells.nil ?_
     refine VA.all (rs := [7]) (by kernel_rfl) (by simp) ?_
     refine VA.forall1 ?_
     ·
      refine VA.eff rfl ?_
      refine id (O.store ty52 rfl rfl rfl rfl zU zP ?_)
      refine VA.next (List.nil_sublist _) Cells.nil ?_
      refine VA.tk 8 rfl (Still.then Still.body) (List.nil_sublist _) Cells.nil (Quiet.c (Q.fieldAddr fa55_3 rfl)) ?_
      refine VA.all (rs := [9]) (by kernel_rfl) (by simp) ?_
      refine VA.forall1 ?_
      ·
       refine VA.eff rfl ?_
       refine id (O.store ty53 rfl rfl rfl rfl zU zP ?_)
       refine VA.next (List.nil_sublist _) Cells.nil ?_
       refine VA.done (by kernel_rfl) ?_
       refine VE.seq ?_
       refine VC.seq ?_
       refine VC.region ?_
       refine VL.q (Q.loadA ty55 rfl zM zS) ?_
       refine VL.eff (O.store ty55 rfl rfl rfl rfl zU zP ?_)
       refine VL.nil ?_
       refine VE.seq ?_
       refine VC.ret ?_
       refine VK.picks (Lin := [.row (.slice pA ms.length cA) 258 7 ms.length ((ms).flatMap markC), .row (.slice pB hs.length cB) 252 12 hs.length ((hs).flatMap hopC), .blk g2 [.int .u8 2, .int .u8 0, .int .u8 0, .int .u8 0, .int .u8 2, .int .u8 (o : Int), .int .i64 (sq : Int), .slice pA ms.length cA, .slice pB hs.length cB] 55]) zKs ?_
       exact VE.ret rfl (.cell ty55 rfl zM rfl .nil) ((pA, cA), (pB, cB)) ⟨hA, hB⟩ rfl zB
  ·
   refine VA.eff rfl ?_
   refine O.quiet (by decide) (Q.load1 ty53 rfl zM rfl) ?_
   refine VA.next (List.nil_sublist _) Cells.nil ?_
   refine VA.all (rs := [2]) (by kernel_rfl) (by simp) ?_
   refine VA.forall1 ?_
   ·
    refine VA.eff rfl ?_
    refine id (O.call0 ok125 rfl rfl (by decide) (clone_mark p1 ms.length c1 (ms.flatMap markC) (fm_length markC_len ms) (fm_one markC_one ms) (by omega)) (fun _ ho _ => hro.1.only0 ho) ?_)
    intro x5_1 y5_1
    obtain ⟨pA, cA⟩ := x5_1
    have hA : ms.length ≤ cA := y5_1
    refine VA.next (List.nil_sublist _) Cells.nil ?_
    refine VA.tk 6 rfl (Still.then Still.body) (List.nil_sublist _) Cells.nil (Quiet.c (Q.fieldAddr fa55_2 rfl)) ?_
    refine VA.all (rs := [5]) (by kernel_rfl) (by simp) ?_
    refine VA.forall1 ?_
    ·
     refine VA.eff rfl ?_
     refine id (O.call0 ok183 rfl rfl (by decide) (clone_hop p2 hs.length c2 (hs.flatMap hopC) (fm_length hopC_len hs) (fm_one hopC_one hs) (by omega)) (fun _ ho _ => hro.2.only0 ho) ?_)
     intro x8_1 y8_1
     obtain ⟨pB, cB⟩ := x8_1
     have hB : hs.length ≤ cB := y8_1
     refine VA.next (List.nil_sublist _) Cells.nil ?_
     refine VA.all (rs := [7]) (by kernel_rfl) (by simp) ?_
     refine VA.forall1 ?_
     ·
      refine VA.eff rfl ?_
      refine id (O.store ty52 rfl rfl rfl rfl zU zP ?_)
      refine VA.next (List.nil_sublist _) Cells.nil ?_
      refine VA.tk 8 rfl (Still.then Still.body) (List.nil_sublist _) Cells.nil (Quiet.c (Q.fieldAddr fa55_3 rfl)) ?_
      refine VA.all (rs := [9]) (by kernel_rfl) (by simp) ?_
      refine VA.forall1 ?_
      ·
       refine VA.eff rfl ?_
       refine id (O.store ty53 rfl rfl rfl rfl zU zP ?_)
       refine VA.next (List.nil_sublist _) Cells.nil ?_
       refine VA.done (by kernel_rfl) ?_
       refine VE.seq ?_
       refine VC.seq ?_
       refine VC.region ?_
       refine VL.q (Q.loadA ty55 rfl zM zS) ?_
       refine VL.eff (O.store ty55 rfl rfl rfl rfl zU zP ?_)
       refine VL.nil ?_
       refine VE.seq ?_
       refine VC.ret ?_
       refine VK.picks (Lin := [.row (.slice pA ms.length cA) 258 7 ms.length ((ms).flatMap markC), .row (.slice pB hs.length cB) 252 12 hs.length ((hs).flatMap hopC), .blk g2 [.int .u8 2, .int .u8 0, .int .u8 0, .int .u8 0, .int .u8 2, .int .u8 (o : Int), .int .i64 (sq : Int), .slice pA ms.length cA, .slice pB hs.length cB] 55]) zKs ?_
       exact VE.ret rfl (.cell ty55 rfl zM rfl .nil) ((pA, cA), (pB, cB)) ⟨hA, hB⟩ rfl zB
 ·
  refine VA.eff rfl ?_
  refine O.quiet (by decide) (Q.load1 ty53 rfl zM rfl) ?_
  refine VA.next (List.nil_sublist _) Cells.nil ?_
  refine VA.all (rs := [1]) (by kernel_rfl) (by simp) ?_
  refine VA.forall1 ?_
  ·
   refine VA.eff rfl ?_
   refine O.quiet (by decide) (Q.load1 ty52 rfl zM rfl) ?_
   refine VA.next (List.nil_sublist _) Cells.nil ?_
   refine VA.all (rs := [2]) (by kernel_rfl) (by simp) ?_
   refine VA.forall1 ?_
   ·
    refine VA.eff rfl ?_
    refine id (O.call0 ok125 rfl rfl (by decide) (clone_mark p1 ms.length c1 (ms.flatMap markC) (fm_length markC_len ms) (fm_one markC_one ms) (by omega)) (fun _ ho _ => hro.1.only0 ho) ?_)
    intro x5_2 y5_2
    obtain ⟨pA, cA⟩ := x5_2
    have hA : ms.length ≤ cA := y5_2
    refine VA.next (List.nil_sublist _) Cells.nil ?_
    refine VA.tk 6 rfl (Still.then Still.body) (List.nil_sublist _) Cells.nil (Quiet.c (Q.fieldAddr fa55_2 rfl)) ?_
    refine VA.all (rs := [5]) (by kernel_rfl) (by simp) ?_
    refine VA.forall1 ?_
    ·
     refine VA.eff rfl ?_
     refine id (O.call0 ok183 rfl rfl (by decide) (clone_hop p2 hs.length c2 (hs.flatMap hopC) (fm_length hopC_len hs) (fm_one hopC_one hs) (by omega)) (fun _ ho _ => hro.2.only0 ho) ?_)
     intro x8_2 y8_2
     obtain ⟨pB, cB⟩ := x8_2
     have hB : hs.length ≤ cB := y8_2
     refine VA.next (List.nil_sublist _) Cells.nil ?_
     refine VA.all (rs := [7]) (by kernel_rfl) (by simp) ?_
     refine VA.forall1 ?_
     ·
      refine VA.eff rfl ?_
      refine id (O.store ty52 rfl rfl rfl rfl zU zP ?_)
      refine VA.next (List.nil_sublist _) Cells.nil ?_
      refine VA.tk 8 rfl (Still.then Still.body) (List.nil_sublist _) Cells.nil (Quiet.c (Q.fieldAddr fa55_3 rfl)) ?_
      refine VA.all (rs := [9]) (by kernel_rfl) (by simp) ?_
      refine VA.forall1 ?_
      ·
       refine VA.eff rfl ?_
       refine id (O.store ty53 rfl rfl rfl rfl zU zP ?_)
       refine VA.next (List.nil_sublist _) Cells.nil ?_
       refine VA.done (by kernel_rfl) ?_
       refine VE.seq ?_
       refine VC.seq ?_
       refine VC.region ?_
       refine VL.q (Q.loadA ty55 rfl zM zS) ?_
       refine VL.eff (O.store ty55 rfl rfl rfl rfl zU zP ?_)
       refine VL.nil ?_
       refine VE.seq ?_
       refine VC.ret ?_
       refine VK.picks (Lin := [.row (.slice pA ms.length cA) 258 7 ms.length ((ms).flatMap markC), .row (.slice pB hs.length cB) 252 12 hs.length ((hs).flatMap hopC), .blk g2 [.int .u8 2, .int .u8 0, .int .u8 0, .int .u8 0, .int .u8 2, .int .u8 (o : Int), .int .i64 (sq : Int), .slice pA ms.length cA, .slice pB hs.length cB] 55]) zKs ?_
       exact VE.ret rfl (.cell ty55 rfl zM rfl .nil) ((pA, cA), (pB, cB)) ⟨hA, hB⟩ rfl zB

theorem ffind_c (o sq : Nat) (p1 : Option Addr) (c1 : Nat) (ms : List (Nat × Nat)) (p2 : Option Addr) (c2 : Nat) (hs : List (Nat × Nat)) (hok : FOk o sq ms hs) (hc1 : ms.length ≤ c1) (d : Nat) (hd : d ≤ 255) :
  Does Tryz.prog 118 [.agg #[.int .u8 2, .int .u8 0, .int .u8 0, .int .u8 0, .int .u8 2, .int .u8 (o : Int), .int .i64 (sq : Int), .slice p1 ms.length c1, .slice p2 hs.length c2], .agg #[.int .u8 2, .int .u8 0, .int .u8 0, .int .u8 0, .int .u8 2, .int .u8 (d : Int)]] [] (fun W => Rd W p1 (ms.flatMap markC) ∧ Rd W p2 (hs.flatMap hopC)) (X := Nat × Bool) (fun x => BS hs d x) (fun x => .tuple #[.int .i64 (x.1 : Int), .bool x.2]) (fun _ => []) := by
 have hml := hok.ml
 have hhl := hok.hl
 have hsq := hok.sq
 refine Does.enter Tryz.func118 rfl (m := 12) rfl (by simp) ?_
 intro W0 hro
 refine VC.seq ?_
 refine VC.region ?_
 refine VL.eff (O.box rfl rfl (by decide) ?_)
 intro g2
 refine VL.eff (O.box rfl rfl (by decide) ?_)
 intro g3
 refine VL.q (Q.assign rfl) ?_
 refine VL.q (Q.assign rfl) ?_
 refine VL.nil ?_
 refine VE.seq ?_
 refine VC.seq ?_
 refine VC.region ?_
 refine VL.q (Q.fieldAddr fa55_3 rfl) ?_
 refine VL.q (Q.load1 ty53 rfl zM rfl) ?_
 refine VL.q (Q.loadA ty44 rfl zM zS) ?_
 refine VL.eff (O.call0 ok181 rfl rfl (by decide) (bsearch_hop p2 hs.length c2 hs rfl d hd (by omega) (fun q hq => (hok.hv q hq).1) hok.srt) (fun _ ho _ => hro.2.only0 ho) ?_)
 intro x9 y9
 refine VL.q (Q.extract rfl rfl) ?_
 refine VL.q (Q.extract rfl rfl) ?_
 refine VL.q (Q.assign rfl) ?_
 refine VL.q (Q.assign rfl) ?_
 refine VL.nil ?_
 refine VE.seq ?_
 refine VC.ret ?_
 exact VE.ret rfl (.tmp rfl (.tmp rfl .nil)) x9 y9 rfl zB

structure NX (hs : List (Nat × Nat)) (d : Nat) (x : Option Nat) : Prop where
  is : ∀ v, x = some v → (d, v) ∈ hs
  no : x = none → ∀ h ∈ hs, h.1 ≠ d
theorem nx_no {hs : List (Nat × Nat)} {d : Nat} {x : Int} (h : IXF hs (fun m => decide (m.1 = d)) x) (hx : x < 0) : NX hs d none := ⟨(fun v e => by cases e), (fun _ q hq e => by
  rcases h with ⟨_, h⟩ | ⟨i, _, h, _⟩
  · obtain ⟨k, hk, rfl⟩ := List.mem_iff_getElem.1 hq
    exact of_decide_eq_false (h k hk) e
  · omega)⟩
theorem nx_is {hs : List (Nat × Nat)} {d i : Nat} (hi : i < hs.length) (hd : hs[i].1 = d) : NX hs d (some hs[i].2) := ⟨(fun v e => by
  cases e
  rw [← hd]
  exact List.getElem_mem hi), (fun e => by cases e)⟩

theorem nextof_c (o sq : Nat) (p1 : Option Addr) (c1 : Nat) (ms : List (Nat × Nat)) (p2 : Option Addr) (c2 : Nat) (hs : List (Nat × Nat)) (hok : FOk o sq ms hs) (hc1 : ms.length ≤ c1) (d : Nat) :
  Does Tryz.prog 122 [.agg #[.int .u8 2, .int .u8 0, .int .u8 0, .int .u8 0, .int .u8 2, .int .u8 (o : Int), .int .i64 (sq : Int), .slice p1 ms.length c1, .slice p2 hs.length c2], .agg #[.int .u8 2, .int .u8 0, .int .u8 0, .int .u8 0, .int .u8 2, .int .u8 (d : Int)]] [] (fun W => Rd W p1 (ms.flatMap markC) ∧ Rd W p2 (hs.flatMap hopC)) (X := Option Nat) (fun x => NX hs d x) (fun x => match x with | none => .tuple #[.agg #[.int .u8 0, .int .u8 0, .int .u8 0, .int .u8 0, .int .u8 0, .int .u8 0], .bool false] | some v => .tuple #[.agg #[.int .u8 2, .int .u8 0, .int .u8 0, .int .u8 0, .int .u8 2, .int .u8 (v : Int)], .bool true]) (fun _ => []) := by
 have hml := hok.ml
 have hhl := hok.hl
 have hsq := hok.sq
 refine Does.enter Tryz.func122 rfl (m := 20) rfl (by simp) ?_
 intro W0 hro
 refine VC.seq ?_
 refine VC.region ?_
 refine VL.eff (O.box rfl rfl (by decide) ?_)
 intro g2
 refine VL.eff (O.box rfl rfl (by decide) ?_)
 intro g3
 refine VL.eff (O.alloc zo44 (by decide) ?_)
 intro g4
 refine VL.q (Q.assign rfl) ?_
 refine VL.nil ?_
 refine VE.seq ?_
 refine VC.seq ?_
 refine VC.region ?_
 refine VL.q (Q.fieldAddr fa55_3 rfl) ?_
 refine VL.q (Q.load1 ty53 rfl zM rfl) ?_
 refine VL.q (Q.makeFunc rfl rfl) ?_
 refine VL.eff (O.call0 ok186 rfl rfl (by decide) (idx_isdest_c p2 hs.length c2 hs rfl (by omega) g3 d) (fun _ ho hw => ⟨hro.2.only0 ho, Rd.seg (k := 6) hw zM zS⟩) ?_)
 intro x10 y10
 refine VL.q (Q.assign rfl) ?_
 refine VL.nil ?_
 refine VE.seq ?_
 refine VC.seq ?_
 refine VC.seq ?_
 refine VC.region ?_
 refine VL.q (Q.move rfl) ?_
 refine VL.q (Q.lt rfl rfl) ?_
 refine VL.nil ?_
 refine VE.seq ?_
 refine VC.cond rfl ?_ ?_
 ·
  intro h12
  have hneg := of_decide_eq_true h12
  refine VC.seq ?_
  refine VC.region ?_
  refine VL.q (Q.build lay44 zF) ?_
  refine VL.eff (O.store ty44 rfl rfl rfl rfl zU zP ?_)
  refine VL.q (Q.assign rfl) ?_
  refine VL.nil ?_
  refine VE.seq ?_
  refine VC.ret ?_
  refine VE.then_ret ?_
  exact VE.ret rfl (.cell ty44 rfl zM rfl (.tmp rfl .nil)) none (nx_no y10 hneg) rfl zB
 ·
  intro h12
  rcases y10 with ⟨e, _⟩ | ⟨i, hi, e, hp, _⟩
  ·
   rw [e] at h12; exact absurd h12 (by decide)
  subst e
  have hd : hs[i].1 = d := of_decide_eq_true hp
  obtain ⟨b0, o0, rfl⟩ := hro.2.pos (by rw [fm_length hopC_len]; omega)
  refine VC.skip ?_
  refine VE.seq ?_
  refine VC.seq ?_
  refine VC.region ?_
  refine VL.q (Q.fieldAddr fa55_3 rfl) ?_
  refine VL.q (Q.load1 ty53 rfl zM rfl) ?_
  refine VL.q (Q.move rfl) ?_
  refine VL.q (Q.indexAddr sl53 (j := i) rfl rfl rfl hi) ?_
  refine VL.q (Q.fieldAddr fa252_1 rfl) ?_
  refine VL.q (Q.load0A (xs := nodeC hs[i].2) ty44 rfl (Rd.sg2 hro.2 (fm_sub hopC_len hs i hi (o := 6) (ys := nodeC hs[i].2) zS)) (by simp)) ?_
  refine VL.eff (O.store ty44 rfl rfl rfl rfl zU zP ?_)
  refine VL.q (Q.assign rfl) ?_
  refine VL.nil ?_
  refine VE.seq ?_
  refine VC.ret ?_
  exact VE.ret rfl (.cell ty44 rfl zM rfl (.tmp rfl .nil)) (some hs[i].2) (nx_is hi hd) rfl zB

end Go.Proofs.YtencghlmckbmlaaGreat
