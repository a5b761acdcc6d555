/- The contracts of package forward: Send, Receive. Conditions: those that each bears. -/
import Derived.Test.YtencghlmckbmlaaGreatRows
import Derived.Test.YtencghlmckbmlaaGreatZFwd2
namespace Go.Proofs.YtencghlmckbmlaaGreat
open Go Go.RowKit Go.Sx
set_option maxRecDepth 100000

theorem fa258_0 : tyField Tryz.prog 258 0 = some 0 := by kernel_rfl
theorem lay156 : laysOf Tryz.prog 156 = some ([.int .u8 0, .int .u8 0, .int .u8 0, .int .u8 0, .int .u8 0, .int .u8 0, .int .u8 0, .int .u8 0, .int .u8 0, .int .u8 0, .int .u8 0, .int .u8 0, .int .u8 0, .int .u8 0, .int .u8 0, .int .u8 0, .int .u8 0, .int .u8 0, .int .u8 0, .int .u8 0, .int .u8 0, .int .u8 0, .int .u8 0, .int .u8 0, .int .u8 0, .int .u8 0, .int .u8 0, .int .u8 0, .int .u8 0, .int .u8 0, .int .u8 0, .int .u8 0, .int .u8 0, .int .u8 0, .int .u8 0, .int .u8 0, .int .i64 0, .int .i64 0, .slice none 0 0], [(0, 6), (6, 6), (12, 6), (18, 6), (24, 6), (30, 6), (36, 1), (37, 1), (38, 1)]) := by kernel_rfl
theorem lay55 : laysOf Tryz.prog 55 = some ([.int .u8 0, .int .u8 0, .int .u8 0, .int .u8 0, .int .u8 0, .int .u8 0, .int .i64 0, .slice none 0 0, .slice none 0 0], [(0, 6), (6, 1), (7, 1), (8, 1)]) := by kernel_rfl
theorem ok122 : okFunc Tryz.prog 122 = true := by kernel_rfl
theorem ok123 : okFunc Tryz.prog 123 = true := by kernel_rfl
theorem ok127 : okFunc Tryz.prog 127 = true := by kernel_rfl
theorem ok128 : okFunc Tryz.prog 128 = true := by kernel_rfl
theorem ty156 : tySz Tryz.prog 156 = some (true, 39) := by kernel_rfl
theorem zo156 : tyZero Tryz.prog 156 = some [.int .u8 0, .int .u8 0, .int .u8 0, .int .u8 0, .int .u8 0, .int .u8 0, .int .u8 0, .int .u8 0, .int .u8 0, .int .u8 0, .int .u8 0, .int .u8 0, .int .u8 0, .int .u8 0, .int .u8 0, .int .u8 0, .int .u8 0, .int .u8 0, .int .u8 0, .int .u8 0, .int .u8 0, .int .u8 0, .int .u8 0, .int .u8 0, .int .u8 0, .int .u8 0, .int .u8 0, .int .u8 0, .int .u8 0, .int .u8 0, .int .u8 0, .int .u8 0, .int .u8 0, .int .u8 0, .int .u8 0, .int .u8 0, .int .i64 0, .int .i64 0, .slice none 0 0] := by kernel_rfl

open Go.Mesh
structure SD where
  v : Nat
  p1 : Option Addr
  c1 : Nat
  p2 : Option Addr
  c2 : Nat
  pd : Option Addr
  cd : Nat
structure SDOk (ms hs : List (Nat × Nat)) (lv m : Nat) (x : SD) : Prop where
  is : (lv, x.v) ∈ hs
  c1 : ms.length + 1 ≤ x.c1
  cd : m ≤ x.cd
theorem FOk.snoc {o sq e q : Nat} {ms hs : List (Nat × Nat)} (h : FOk o sq ms hs) (hm : (e, q) ∉ ms) (hq : q < 65536) (hl : ms.length ≤ 125) : FOk o sq (ms ++ [(e, q)]) hs where
  own := h.own
  sq := h.sq
  ml := by rw [List.length_append]; simp; omega
  md := by
    rw [List.nodup_append]
    refine ⟨h.md, List.nodup_cons.2 ⟨by simp, List.nodup_nil⟩, fun a ha b hb e => ?_⟩
    simp only [List.mem_singleton] at hb
    subst hb
    subst e
    exact hm ha
  mv := fun m hm => by
    rcases List.mem_append.1 hm with hm | hm
    · exact h.mv m hm
    · simp only [List.mem_singleton] at hm
      subst hm
      exact hq
  hl := h.hl
  srt := h.srt
  hv := h.hv
  h2 := h.h2
inductive RV where
  | drop (p1 : Option Addr) (c1 : Nat) (p2 : Option Addr) (c2 : Nat)
  | here (p1 : Option Addr) (c1 : Nat) (p2 : Option Addr) (c2 : Nat) (pd : Option Addr) (cd : Nat)
  | fwd (v : Nat) (p1 : Option Addr) (c1 : Nat) (p2 : Option Addr) (c2 : Nat) (pd : Option Addr) (cd : Nat)
def RVOk (o e q lv m : Nat) (ms hs : List (Nat × Nat)) : RV → Prop
  | .drop _ c1 _ _ => (e, q) ∈ ms ∧ ms.length ≤ c1
  | .here _ c1 _ _ _ cd => (e, q) ∉ ms ∧ lv = o ∧ ms.length + 1 ≤ c1 ∧ m ≤ cd
  | .fwd v _ c1 _ _ _ cd => (e, q) ∉ ms ∧ lv ≠ o ∧ (lv, v) ∈ hs ∧ ms.length + 1 ≤ c1 ∧ m ≤ cd

theorem send_c (o sq : Nat) (p1 : Option Addr) (c1 : Nat) (ms : List (Nat × Nat)) (p2 : Option Addr) (c2 : Nat) (hs : List (Nat × Nat)) (hok : FOk o sq ms hs) (hc1 : ms.length ≤ c1) (p : Option Addr) (m c : Nat) (l : List UInt8) (hl : l.length = m) (hm : m ≤ 2264) (lv : Nat) (hlo : lv ≠ o) (hmk : (o, sq) ∉ ms) (hs1 : sq + 1 < 65536) :
  Does Tryz.prog 47 [.agg #[.int .u8 2, .int .u8 0, .int .u8 0, .int .u8 0, .int .u8 2, .int .u8 (o : Int), .int .i64 (sq : Int), .slice p1 ms.length c1, .slice p2 hs.length c2], .agg #[.int .u8 2, .int .u8 0, .int .u8 0, .int .u8 0, .int .u8 2, .int .u8 (lv : Int)], .agg #[.int .u8 2, .int .u8 0, .int .u8 0, .int .u8 0, .int .u8 2, .int .u8 (o : Int)], .agg #[.int .u8 2, .int .u8 9, .int .u8 9, .int .u8 9, .int .u8 9, .int .u8 9], .slice p m c] [] (fun W => (Rd W p1 (ms.flatMap markC) ∧ Rd W p2 (hs.flatMap hopC)) ∧ Rd W p (bs l)) (X := Option SD) (fun x => match x with | none => ∀ h ∈ hs, h.1 ≠ lv | some y => SDOk ms hs lv m y) (fun x => match x with | none => .tuple #[.agg #[.int .u8 0, .int .u8 0, .int .u8 0, .int .u8 0, .int .u8 0, .int .u8 0, .int .i64 0, .slice none 0 0, .slice none 0 0], .agg #[.int .u8 0, .int .u8 0, .int .u8 0, .int .u8 0, .int .u8 0, .int .u8 0, .int .u8 0, .int .u8 0, .int .u8 0, .int .u8 0, .int .u8 0, .int .u8 0, .int .u8 0, .int .u8 0, .int .u8 0, .int .u8 0, .int .u8 0, .int .u8 0, .int .u8 0, .int .u8 0, .int .u8 0, .int .u8 0, .int .u8 0, .int .u8 0, .int .u8 0, .int .u8 0, .int .u8 0, .int .u8 0, .int .u8 0, .int .u8 0, .int .u8 0, .int .u8 0, .int .u8 0, .int .u8 0, .int .u8 0, .int .u8 0, .int .i64 0, .int .i64 0, .slice none 0 0], .int .i64 6] | some y => .tuple #[.agg #[.int .u8 2, .int .u8 0, .int .u8 0, .int .u8 0, .int .u8 2, .int .u8 (o : Int), .int .i64 ((sq + 1 : Nat) : Int), .slice y.p1 (ms.length + 1) y.c1, .slice y.p2 hs.length y.c2], .agg #[.int .u8 2, .int .u8 0, .int .u8 0, .int .u8 0, .int .u8 2, .int .u8 (o : Int), .int .u8 2, .int .u8 0, .int .u8 0, .int .u8 0, .int .u8 2, .int .u8 (y.v : Int), .int .u8 2, .int .u8 0, .int .u8 0, .int .u8 0, .int .u8 2, .int .u8 (o : Int), .int .u8 2, .int .u8 0, .int .u8 0, .int .u8 0, .int .u8 2, .int .u8 (lv : Int), .int .u8 2, .int .u8 0, .int .u8 0, .int .u8 0, .int .u8 2, .int .u8 (o : Int), .int .u8 2, .int .u8 9, .int .u8 9, .int .u8 9, .int .u8 9, .int .u8 9, .int .i64 (sq : Int), .int .i64 (31 : Int), .slice y.pd m y.cd], .int .i64 0]) (fun x => match x with | none => [] | some y => [.row (.slice y.p1 (ms.length + 1) y.c1) 258 7 (ms.length + 1) ((ms ++ [(o, sq)]).flatMap markC), .row (.slice y.p2 hs.length y.c2) 252 12 hs.length ((hs).flatMap hopC), .row (.slice y.pd m y.cd) 5 1 m (bs l)]) := by
 have hml := hok.ml
 have hhl := hok.hl
 have hsq := hok.sq
 refine Does.enter Tryz.func47 rfl (m := 87) rfl (by simp) ?_
 intro W0 hro
 refine VC.seq ?_
 refine VC.region ?_
 refine VL.eff (O.box rfl rfl (by decide) ?_)
 intro g5
 refine VL.eff (O.box rfl rfl (by decide) ?_)
 intro g6
 refine VL.eff (O.box rfl rfl (by decide) ?_)
 intro g7
 refine VL.eff (O.box rfl rfl (by decide) ?_)
 intro g8
 refine VL.eff (O.alloc zo55 (by decide) ?_)
 intro g10
 refine VL.eff (O.alloc zo156 (by decide) ?_)
 intro g11
 refine VL.q (Q.assign rfl) ?_
 refine VL.nil ?_
 refine VE.seq ?_
 refine VC.seq ?_
 refine VC.region ?_
 refine VL.q (Q.loadA ty55 rfl zM zS) ?_
 refine VL.eff (O.call0 ok117 rfl rfl (by decide) (fcheck_c o sq p1 c1 ms p2 c2 hs hok hc1) (fun _ ho _ => ⟨hro.1.1.only0 ho, hro.1.2.only0 ho⟩) ?_)
 intro x19 y19
 refine VL.q (Q.assign rfl) ?_
 refine VL.nil ?_
 refine VE.seq ?_
 refine VC.seq ?_
 refine VC.region ?_
 refine VL.q (Q.loadA ty55 rfl zM zS) ?_
 refine VL.q (Q.loadA ty44 rfl zM zS) ?_
 refine VL.eff (O.call0 ok122 rfl rfl (by decide) (nextof_c o sq p1 c1 ms p2 c2 hs hok hc1 lv) (fun _ ho _ => ⟨hro.1.1.only0 ho, hro.1.2.only0 ho⟩) ?_)
 intro x23 y23
 rcases x23 with _ | v
 ·
  refine VL.q (Q.move rfl) ?_
  refine VL.q (Q.extract rfl rfl) ?_
  refine VL.q (Q.extract rfl rfl) ?_
  refine VL.eff (O.alloc zo44 (by decide) ?_)
  intro g14
  refine VL.eff (O.store ty44 rfl rfl rfl rfl zU zP ?_)
  refine VL.q (Q.assign rfl) ?_
  refine VL.nil ?_
  refine VE.seq ?_
  refine VC.seq ?_
  refine VC.block ?_
  refine VC.seq ?_
  refine VC.region ?_
  refine VL.q (Q.move rfl) ?_
  refine VL.quietE (v' := .bool false) (by decide) (Q.ne rfl rfl) (by rfl) ?_
  refine VL.q (Q.assign rfl) ?_
  refine VL.nil ?_
  refine VE.seq ?_
  refine VC.condF rfl ?_
  refine VC.seq ?_
  refine VC.region ?_
  refine VL.q (Q.loadA ty44 rfl zM zS) ?_
  refine VL.q (Q.fieldAddr fa55_0 rfl) ?_
  refine VL.q (Q.loadA ty44 rfl zM zS) ?_
  refine VL.quietE (v' := .bool false) (by decide) (Q.eqS flt44 (by decide) ty44 eg44 rfl rfl rfl rfl) (congrArg Value.bool ((node_eq lv o).trans (decide_eq_false hlo))) ?_
  refine VL.q (Q.assign rfl) ?_
  refine VL.nil ?_
  refine VE.seq ?_
  refine VC.condF rfl ?_
  refine VC.seq ?_
  refine VC.region ?_
  refine VL.q (Q.move rfl) ?_
  refine VL.q (Q.len sl23 rfl) ?_
  refine VL.quietE (v' := .bool false) (by decide) (Q.gt rfl rfl) (congrArg Value.bool (decide_eq_false (by omega))) ?_
  refine VL.q (Q.assign rfl) ?_
  refine VL.nil ?_
  refine VE.seq ?_
  refine VC.condF rfl ?_
  refine VC.seq ?_
  refine VC.region ?_
  refine VL.q (Q.loadA ty44 rfl zM zS) ?_
  refine VL.eff (O.call0 ok99 rfl rfl (by decide) (fgroup_c lv) (fun _ _ _ => trivial) ?_)
  intro x40 y40
  refine VL.q (Q.assign rfl) ?_
  refine VL.nil ?_
  refine VE.seq ?_
  refine VC.condF rfl ?_
  refine VC.seq ?_
  refine VC.region ?_
  refine VL.q (Q.move rfl) ?_
  refine VL.quietE (v' := .bool true) (by decide) (Q.not rfl) (by rfl) ?_
  refine VL.q (Q.assign rfl) ?_
  refine VL.nil ?_
  refine VE.seq ?_
  refine VC.condT rfl ?_
  refine VK.keep (by exact .cons (i := 4) rfl (.cons (i := 5) rfl (.cons (i := 6) rfl (.cons (i := 7) rfl (.cons (i := 8) rfl (.cons (i := 10) rfl (.cons (i := 11) rfl (.cons (i := 12) rfl (.cons (i := 13) rfl (.cons (i := 14) rfl ( .nil))))))))))) ?_
  refine VC.region ?_
  refine VL.q (Q.assign rfl) ?_
  refine VL.nil ?_
  refine VE.block_normal ?_
  refine VE.seq ?_
  refine VC.seq ?_
  refine VC.seq ?_
  refine VC.region ?_
  refine VL.q (Q.move rfl) ?_
  refine VL.quietE (v' := .bool true) (by decide) (Q.ne rfl rfl) (by rfl) ?_
  refine VL.nil ?_
  refine VE.seq ?_
  refine VC.condT rfl ?_
  refine VC.seq ?_
  refine VC.region ?_
  refine VL.q (Q.build lay55 zF) ?_
  refine VL.q (Q.build lay156 zF) ?_
  refine VL.q (Q.move rfl) ?_
  refine VL.eff (O.store ty55 rfl rfl rfl rfl zU zP ?_)
  refine VL.eff (O.store ty156 rfl rfl rfl rfl zU zP ?_)
  refine VL.q (Q.assign rfl) ?_
  refine VL.nil ?_
  refine VE.seq ?_
  refine VC.ret ?_
  refine VE.then_ret ?_
  exact VE.ret rfl (.cell ty55 rfl zM rfl (.cell ty156 rfl zM rfl (.tmp rfl .nil))) none ((y23).no rfl) rfl zB
 ·
  have hnx := (y23).is v rfl
  refine VL.q (Q.move rfl) ?_
  refine VL.q (Q.extract rfl rfl) ?_
  refine VL.q (Q.extract rfl rfl) ?_
  refine VL.eff (O.alloc zo44 (by decide) ?_)
  intro g14
  refine VL.eff (O.store ty44 rfl rfl rfl rfl zU zP ?_)
  refine VL.q (Q.assign rfl) ?_
  refine VL.nil ?_
  refine VE.seq ?_
  refine VC.seq ?_
  refine VC.block ?_
  refine VC.seq ?_
  refine VC.region ?_
  refine VL.q (Q.move rfl) ?_
  refine VL.quietE (v' := .bool false) (by decide) (Q.ne rfl rfl) (by rfl) ?_
  refine VL.q (Q.assign rfl) ?_
  refine VL.nil ?_
  refine VE.seq ?_
  refine VC.condF rfl ?_
  refine VC.seq ?_
  refine VC.region ?_
  refine VL.q (Q.loadA ty44 rfl zM zS) ?_
  refine VL.q (Q.fieldAddr fa55_0 rfl) ?_
  refine VL.q (Q.loadA ty44 rfl zM zS) ?_
  refine VL.quietE (v' := .bool false) (by decide) (Q.eqS flt44 (by decide) ty44 eg44 rfl rfl rfl rfl) (congrArg Value.bool ((node_eq lv o).trans (decide_eq_false hlo))) ?_
  refine VL.q (Q.assign rfl) ?_
  refine VL.nil ?_
  refine VE.seq ?_
  refine VC.condF rfl ?_
  refine VC.seq ?_
  refine VC.region ?_
  refine VL.q (Q.move rfl) ?_
  refine VL.q (Q.len sl23 rfl) ?_
  refine VL.quietE (v' := .bool false) (by decide) (Q.gt rfl rfl) (congrArg Value.bool (decide_eq_false (by omega))) ?_
  refine VL.q (Q.assign rfl) ?_
  refine VL.nil ?_
  refine VE.seq ?_
  refine VC.condF rfl ?_
  refine VC.seq ?_
  refine VC.region ?_
  refine VL.q (Q.loadA ty44 rfl zM zS) ?_
  refine VL.eff (O.call0 ok99 rfl rfl (by decide) (fgroup_c lv) (fun _ _ _ => trivial) ?_)
  intro x40 y40
  refine VL.q (Q.assign rfl) ?_
  refine VL.nil ?_
  refine VE.seq ?_
  refine VC.condF rfl ?_
  refine VC.seq ?_
  refine VC.region ?_
  refine VL.q (Q.move rfl) ?_
  refine VL.quietE (v' := .bool false) (by decide) (Q.not rfl) (by rfl) ?_
  refine VL.q (Q.assign rfl) ?_
  refine VL.nil ?_
  refine VE.seq ?_
  refine VC.condF rfl ?_
  refine VC.skip ?_
  refine VE.block_normal ?_
  refine VE.seq ?_
  refine VC.seq ?_
  refine VC.seq ?_
  refine VK.keep (by exact .cons (i := 4) rfl (.cons (i := 5) rfl (.cons (i := 6) rfl (.cons (i := 7) rfl (.cons (i := 8) rfl (.cons (i := 10) rfl (.cons (i := 11) rfl (.cons (i := 12) rfl (.cons (i := 13) rfl (.cons (i := 14) rfl ( .nil))))))))))) ?_
  refine VC.region ?_
  refine VL.q (Q.move rfl) ?_
  refine VL.quietE (v' := .bool false) (by decide) (Q.ne rfl rfl) (by rfl) ?_
  refine VL.nil ?_
  refine VE.seq ?_
  refine VC.condF rfl ?_
  refine VC.skip ?_
  refine VE.seq ?_
  refine VC.seq ?_
  refine VA.start (Ls := [.blk g14 [.int .u8 2, .int .u8 0, .int .u8 0, .int .u8 0, .int .u8 2, .int .u8 (v : Int)] 44, .blk g8 [.int .u8 2, .int .u8 9, .int .u8 9, .int .u8 9, .int .u8 9, .int .u8 9] 44, .blk g7 [.int .u8 2, .int .u8 0, .int .u8 0, .int .u8 0, .int .u8 2, .int .u8 (o : Int)] 44, .blk g6 [.int .u8 2, .int .u8 0, .int .u8 0, .int .u8 0, .int .u8 2, .int .u8 (lv : Int)] 44, .blk g5 [.int .u8 2, .int .u8 0, .int .u8 0, .int .u8 0, .int .u8 2, .int .u8 (o : Int), .int .i64 (sq : Int), .slice p1 ms.length c1, .slice p2 hs.length c2] 55]) (Cs := []) mixed ?_
  refine VA.tk 0 rfl (Still.then Still.body) zB Cells.nil (Quiet.c (Q.fieldAddr fa55_0 rfl)) ?_
  refine VA.tk 1 rfl (Still.then Still.body) zB Cells.nil (Quiet.c (Q.loadA ty44 rfl zM zS)) ?_
  refine VA.tk 2 rfl (Still.then Still.body) zB Cells.nil (Quiet.c (Q.loadA ty44 rfl zM zS)) ?_
  refine VA.tk 3 rfl (Still.then Still.body) zB Cells.nil (Quiet.c (Q.fieldAddr fa55_0 rfl)) ?_
  refine VA.tk 4 rfl (Still.then Still.body) zB Cells.nil (Quiet.c (Q.loadA ty44 rfl zM zS)) ?_
  refine VA.tk 5 rfl (Still.then Still.body) zB Cells.nil (Quiet.c (Q.loadA ty44 rfl zM zS)) ?_
  refine VA.tk 6 rfl (Still.then Still.body) zB Cells.nil (Quiet.c (Q.loadA ty44 rfl zM zS)) ?_
  refine VA.tk 7 rfl (Still.then Still.body) zB Cells.nil (Quiet.c (Q.loadA ty44 rfl zM zS)) ?_
  refine VA.tk 8 rfl (Still.then Still.body) zB Cells.nil (Quiet.c (Q.fieldAddr fa55_1 rfl)) ?_
  refine VA.tk 9 rfl (Still.then Still.body) zB Cells.nil (Quiet.c (Q.load1 ty3 rfl zM rfl)) ?_
  refine VA.tk 10 rfl (Still.then Still.body) zB Cells.nil (Quiet.c (Q.move rfl)) ?_
  refine VA.all (rs := [11, 13]) (by kernel_rfl) (by simp) ?_
  refine VA.forall2 ?_ ?_
  ·
   refine VA.eff rfl ?_
   refine id (O.call0 ok123 rfl rfl (by decide) (bclone_c p m c (bs l) (by rw [bs_length]; omega) (bs_one l) (by omega)) (fun _ ho _ => hro.2.only0 ho) ?_)
   intro x61 y61
   obtain ⟨pd, cd⟩ := x61
   have hcd : m ≤ cd := y61
   refine VA.next zB Cells.nil ?_
   refine VA.tk 12 rfl (Still.then Still.body) zB Cells.nil (Quiet.c (Q.build lay156 zF)) ?_
   refine VA.all (rs := [13]) (by kernel_rfl) (by simp) ?_
   refine VA.forall1 ?_
   ·
    refine VA.eff rfl ?_
    refine id (O.alloc zo156 (by decide) ?_)
    intro g16
    refine VA.next zB Cells.nil ?_
    refine VA.all (rs := [14]) (by kernel_rfl) (by simp) ?_
    refine VA.forall1 ?_
    ·
     refine VA.eff rfl ?_
     refine id (O.store ty156 rfl rfl rfl rfl zU zP ?_)
     refine VA.next zB Cells.nil ?_
     refine VA.done (by kernel_rfl) ?_
     refine VE.seq ?_
     refine VC.seq ?_
     refine VC.region ?_
     refine VL.q (Q.fieldAddr fa55_0 rfl) ?_
     refine VL.q (Q.loadA ty44 rfl zM zS) ?_
     refine VL.q (Q.fieldAddr fa55_1 rfl) ?_
     refine VL.q (Q.load1 ty3 rfl zM rfl) ?_
     refine VL.q (Q.build lay258 zF) ?_
     refine VL.eff (O.alloc zo258 (by decide) ?_)
     intro g17
     refine VL.eff (O.store ty258 rfl rfl rfl rfl zU zP ?_)
     refine VL.nil ?_
     refine VE.seq ?_
     refine VC.seq ?_
     refine VC.region ?_
     refine VL.q (Q.fieldAddr fa55_2 rfl) ?_
     refine VL.q (Q.load1 ty52 rfl zM rfl) ?_
     refine VL.eff (O.call0 ok125 rfl rfl (by decide) (clone_mark p1 ms.length c1 (ms.flatMap markC) (fm_length markC_len ms) (fm_one markC_one ms) (by omega)) (fun _ ho _ => hro.1.1.only0 ho) ?_)
     intro x70 y70
     obtain ⟨pA, cA⟩ := x70
     have hA : ms.length ≤ cA := y70
     refine VL.q (Q.makeFunc rfl rfl) ?_
     refine VL.eff (O.call0 ok124 rfl rfl (by decide) (del_issend_c pA ms.length cA ms rfl (by omega) g17 (o, sq) hmk) (fun _ _ hw => ⟨Rd.row hw zM, Rd.seg (k := 7) hw zM zS⟩) ?_)
     intro x72 y72
     refine VL.q (Q.fieldAddr fa55_2 rfl) ?_
     refine VL.eff (O.store ty52 rfl rfl rfl rfl zU zP ?_)
     refine VL.nil ?_
     refine VE.seq ?_
     refine VC.seq ?_
     refine VC.region ?_
     refine VL.q (Q.loadA ty55 rfl zM zS) ?_
     refine VL.q (Q.fieldAddr fa258_0 rfl) ?_
     refine VL.q (Q.loadA ty44 rfl zM zS) ?_
     refine VL.q (Q.fieldAddr fa258_1 rfl) ?_
     refine VL.q (Q.load1 ty3 rfl zM rfl) ?_
     refine VL.eff (O.call0 ok127 rfl rfl (by decide) (remember_c o sq pA cA ms p2 c2 hs hok hA o sq hmk) (fun _ ho hw => ⟨Rd.row hw zM, hro.1.2.only0 ho⟩) ?_)
     intro x79 y79
     obtain ⟨⟨pS, cS⟩, ⟨pB, cB⟩⟩ := x79
     have hS : ms.length + 1 ≤ cS := y79
     refine VL.eff (O.store ty55 rfl rfl rfl rfl zU zP ?_)
     refine VL.nil ?_
     refine VE.seq ?_
     refine VC.seq ?_
     refine VK.keep (by exact .cons (i := 5) rfl (.cons (i := 10) rfl (.cons (i := 11) rfl (.cons (i := 12) rfl (.cons (i := 16) rfl ( .nil)))))) ?_
     refine VC.region ?_
     refine VL.q (Q.fieldAddr fa55_1 rfl) ?_
     refine VL.q (Q.load1 ty3 rfl zM rfl) ?_
     refine VL.q ((by first | exact Q.addI rfl rfl (by omega) (by omega) | exact Q.add rfl rfl)) ?_
     refine VL.quietE (v' := .int .i64 ((sq + 1 : Nat) : Int)) (by decide) (Q.rem rfl rfl (by omega) (by omega)) (congrArg (Value.int .i64) (by omega)) ?_
     refine VL.q (Q.fieldAddr fa55_1 rfl) ?_
     refine VL.eff (O.store ty3 rfl rfl rfl rfl zU zP ?_)
     refine VL.nil ?_
     refine VE.seq ?_
     refine VC.seq ?_
     refine VA.start (Ls := [.blk g16 [.int .u8 2, .int .u8 0, .int .u8 0, .int .u8 0, .int .u8 2, .int .u8 (o : Int), .int .u8 2, .int .u8 0, .int .u8 0, .int .u8 0, .int .u8 2, .int .u8 (v : Int), .int .u8 2, .int .u8 0, .int .u8 0, .int .u8 0, .int .u8 2, .int .u8 (o : Int), .int .u8 2, .int .u8 0, .int .u8 0, .int .u8 0, .int .u8 2, .int .u8 (lv : Int), .int .u8 2, .int .u8 0, .int .u8 0, .int .u8 0, .int .u8 2, .int .u8 (o : Int), .int .u8 2, .int .u8 9, .int .u8 9, .int .u8 9, .int .u8 9, .int .u8 9, .int .i64 (sq : Int), .int .i64 (31 : Int), .slice pd m cd] 156, .blk g5 [.int .u8 2, .int .u8 0, .int .u8 0, .int .u8 0, .int .u8 2, .int .u8 (o : Int), .int .i64 ((sq + 1 : Nat) : Int), .slice pS (ms.length + 1) cS, .slice pB hs.length cB] 55]) (Cs := []) mixed ?_
     refine VA.tk 0 rfl (Still.then Still.body) zB Cells.nil (Quiet.c (Q.loadA ty55 rfl zM zS)) ?_
     refine VA.tk 1 rfl (Still.then Still.body) zB Cells.nil (Quiet.c (Q.loadA ty156 rfl zM zS)) ?_
     refine VA.all (rs := [2]) (by kernel_rfl) (by simp) ?_
     refine VA.forall1 ?_
     ·
      refine VA.eff rfl ?_
      refine id (O.store ty55 rfl rfl rfl rfl zU zP ?_)
      refine VA.next zB Cells.nil ?_
      refine VA.all (rs := [3]) (by kernel_rfl) (by simp) ?_
      refine VA.forall1 ?_
      ·
       refine VA.eff rfl ?_
       refine id (O.store ty156 rfl rfl rfl rfl zU zP ?_)
       refine VA.next zB Cells.nil ?_
       refine VA.tk 4 rfl (Still.then Still.body) zB Cells.nil (Quiet.c (Q.assign rfl)) ?_
       refine VA.done (by kernel_rfl) ?_
       refine VE.seq ?_
       refine VC.ret ?_
       refine VK.picks (Lin := [.row (.slice pS (ms.length + 1) cS) 258 7 (ms.length + 1) ((ms ++ [(o, sq)]).flatMap markC), .row (.slice pB hs.length cB) 252 12 hs.length ((hs).flatMap hopC), .row (.slice pd m cd) 5 1 m (bs l), .blk g11 [.int .u8 2, .int .u8 0, .int .u8 0, .int .u8 0, .int .u8 2, .int .u8 (o : Int), .int .u8 2, .int .u8 0, .int .u8 0, .int .u8 0, .int .u8 2, .int .u8 (v : Int), .int .u8 2, .int .u8 0, .int .u8 0, .int .u8 0, .int .u8 2, .int .u8 (o : Int), .int .u8 2, .int .u8 0, .int .u8 0, .int .u8 0, .int .u8 2, .int .u8 (lv : Int), .int .u8 2, .int .u8 0, .int .u8 0, .int .u8 0, .int .u8 2, .int .u8 (o : Int), .int .u8 2, .int .u8 9, .int .u8 9, .int .u8 9, .int .u8 9, .int .u8 9, .int .i64 (sq : Int), .int .i64 (31 : Int), .slice pd m cd] 156, .blk g10 [.int .u8 2, .int .u8 0, .int .u8 0, .int .u8 0, .int .u8 2, .int .u8 (o : Int), .int .i64 ((sq + 1 : Nat) : Int), .slice pS (ms.length + 1) cS, .slice pB hs.length cB] 55]) zKs ?_
       exact VE.ret rfl (.cell ty55 rfl zM rfl (.cell ty156 rfl zM rfl (.tmp rfl .nil))) (some ⟨v, pS, cS, pB, cB, pd, cd⟩) ⟨hnx, hS, hcd⟩ rfl zB
  ·
   refine VA.eff rfl ?_
   refine id (O.alloc zo156 (by decide) ?_)
   intro g16_1
   refine VA.next zB Cells.nil ?_
   refine VA.all (rs := [11]) (by kernel_rfl) (by simp) ?_
   refine VA.forall1 ?_
   ·
    refine VA.eff rfl ?_
    refine id (O.call0 ok123 rfl rfl (by decide) (bclone_c p m c (bs l) (by rw [bs_length]; omega) (bs_one l) (by omega)) (fun _ ho _ => hro.2.only0 ho) ?_)
    intro x61_1 y61_1
    obtain ⟨pd, cd⟩ := x61_1
    have hcd : m ≤ cd := y61_1
    refine VA.next zB Cells.nil ?_
    refine VA.tk 12 rfl (Still.then Still.body) zB Cells.nil (Quiet.c (Q.build lay156 zF)) ?_
    refine VA.all (rs := [14]) (by kernel_rfl) (by simp) ?_
    refine VA.forall1 ?_
    ·
     refine VA.eff rfl ?_
     refine id (O.store ty156 rfl rfl rfl rfl zU zP ?_)
     refine VA.next zB Cells.nil ?_
     refine VA.done (by kernel_rfl) ?_
     refine VE.seq ?_
     refine VC.seq ?_
     refine VC.region ?_
     refine VL.q (Q.fieldAddr fa55_0 rfl) ?_
     refine VL.q (Q.loadA ty44 rfl zM zS) ?_
     refine VL.q (Q.fieldAddr fa55_1 rfl) ?_
     refine VL.q (Q.load1 ty3 rfl zM rfl) ?_
     refine VL.q (Q.build lay258 zF) ?_
     refine VL.eff (O.alloc zo258 (by decide) ?_)
     intro g17_1
     refine VL.eff (O.store ty258 rfl rfl rfl rfl zU zP ?_)
     refine VL.nil ?_
     refine VE.seq ?_
     refine VC.seq ?_
     refine VC.region ?_
     refine VL.q (Q.fieldAddr fa55_2 rfl) ?_
     refine VL.q (Q.load1 ty52 rfl zM rfl) ?_
     refine VL.eff (O.call0 ok125 rfl rfl (by decide) (clone_mark p1 ms.length c1 (ms.flatMap markC) (fm_length markC_len ms) (fm_one markC_one ms) (by omega)) (fun _ ho _ => hro.1.1.only0 ho) ?_)
     intro x70_1 y70_1
     obtain ⟨pA, cA⟩ := x70_1
     have hA : ms.length ≤ cA := y70_1
     refine VL.q (Q.makeFunc rfl rfl) ?_
     refine VL.eff (O.call0 ok124 rfl rfl (by decide) (del_issend_c pA ms.length cA ms rfl (by omega) g17_1 (o, sq) hmk) (fun _ _ hw => ⟨Rd.row hw zM, Rd.seg (k := 7) hw zM zS⟩) ?_)
     intro x72_1 y72_1
     refine VL.q (Q.fieldAddr fa55_2 rfl) ?_
     refine VL.eff (O.store ty52 rfl rfl rfl rfl zU zP ?_)
     refine VL.nil ?_
     refine VE.seq ?_
     refine VC.seq ?_
     refine VC.region ?_
     refine VL.q (Q.loadA ty55 rfl zM zS) ?_
     refine VL.q (Q.fieldAddr fa258_0 rfl) ?_
     refine VL.q (Q.loadA ty44 rfl zM zS) ?_
     refine VL.q (Q.fieldAddr fa258_1 rfl) ?_
     refine VL.q (Q.load1 ty3 rfl zM rfl) ?_
     refine VL.eff (O.call0 ok127 rfl rfl (by decide) (remember_c o sq pA cA ms p2 c2 hs hok hA o sq hmk) (fun _ ho hw => ⟨Rd.row hw zM, hro.1.2.only0 ho⟩) ?_)
     intro x79_1 y79_1
     obtain ⟨⟨pS, cS⟩, ⟨pB, cB⟩⟩ := x79_1
     have hS : ms.length + 1 ≤ cS := y79_1
     refine VL.eff (O.store ty55 rfl rfl rfl rfl zU zP ?_)
     refine VL.nil ?_
     refine VE.seq ?_
     refine VC.seq ?_
     refine VK.keep (by exact .cons (i := 5) rfl (.cons (i := 10) rfl (.cons (i := 11) rfl (.cons (i := 12) rfl (.cons (i := 16) rfl ( .nil)))))) ?_
     refine VC.region ?_
     refine VL.q (Q.fieldAddr fa55_1 rfl) ?_
     refine VL.q (Q.load1 ty3 rfl zM rfl) ?_
     refine VL.q ((by first | exact Q.addI rfl rfl (by omega) (by omega) | exact Q.add rfl rfl)) ?_
     refine VL.quietE (v' := .int .i64 ((sq + 1 : Nat) : Int)) (by decide) (Q.rem rfl rfl (by omega) (by omega)) (congrArg (Value.int .i64) (by omega)) ?_
     refine VL.q (Q.fieldAddr fa55_1 rfl) ?_
     refine VL.eff (O.store ty3 rfl rfl rfl rfl zU zP ?_)
     refine VL.nil ?_
     refine VE.seq ?_
     refine VC.seq ?_
     refine VA.start (Ls := [.blk g16_1 [.int .u8 2, .int .u8 0, .int .u8 0, .int .u8 0, .int .u8 2, .int .u8 (o : Int), .int .u8 2, .int .u8 0, .int .u8 0, .int .u8 0, .int .u8 2, .int .u8 (v : Int), .int .u8 2, .int .u8 0, .int .u8 0, .int .u8 0, .int .u8 2, .int .u8 (o : Int), .int .u8 2, .int .u8 0, .int .u8 0, .int .u8 0, .int .u8 2, .int .u8 (lv : Int), .int .u8 2, .int .u8 0, .int .u8 0, .int .u8 0, .int .u8 2, .int .u8 (o : Int), .int .u8 2, .int .u8 9, .int .u8 9, .int .u8 9, .int .u8 9, .int .u8 9, .int .i64 (sq : Int), .int .i64 (31 : Int), .slice pd m cd] 156, .blk g5 [.int .u8 2, .int .u8 0, .int .u8 0, .int .u8 0, .int .u8 2, .int .u8 (o : Int), .int .i64 ((sq + 1 : Nat) : Int), .slice pS (ms.length + 1) cS, .slice pB hs.length cB] 55]) (Cs := []) mixed ?_
     refine VA.tk 0 rfl (Still.then Still.body) zB Cells.nil (Quiet.c (Q.loadA ty55 rfl zM zS)) ?_
     refine VA.tk 1 rfl (Still.then Still.body) zB Cells.nil (Quiet.c (Q.loadA ty156 rfl zM zS)) ?_
     refine VA.all (rs := [2]) (by kernel_rfl) (by simp) ?_
     refine VA.forall1 ?_
     ·
      refine VA.eff rfl ?_
      refine id (O.store ty55 rfl rfl rfl rfl zU zP ?_)
      refine VA.next zB Cells.nil ?_
      refine VA.all (rs := [3]) (by kernel_rfl) (by simp) ?_
      refine VA.forall1 ?_
      ·
       refine VA.eff rfl ?_
       refine id (O.store ty156 rfl rfl rfl rfl zU zP ?_)
       refine VA.next zB Cells.nil ?_
       refine VA.tk 4 rfl (Still.then Still.body) zB Cells.nil (Quiet.c (Q.assign rfl)) ?_
       refine VA.done (by kernel_rfl) ?_
       refine VE.seq ?_
       refine VC.ret ?_
       refine VK.picks (Lin := [.row (.slice pS (ms.length + 1) cS) 258 7 (ms.length + 1) ((ms ++ [(o, sq)]).flatMap markC), .row (.slice pB hs.length cB) 252 12 hs.length ((hs).flatMap hopC), .row (.slice pd m cd) 5 1 m (bs l), .blk g11 [.int .u8 2, .int .u8 0, .int .u8 0, .int .u8 0, .int .u8 2, .int .u8 (o : Int), .int .u8 2, .int .u8 0, .int .u8 0, .int .u8 0, .int .u8 2, .int .u8 (v : Int), .int .u8 2, .int .u8 0, .int .u8 0, .int .u8 0, .int .u8 2, .int .u8 (o : Int), .int .u8 2, .int .u8 0, .int .u8 0, .int .u8 0, .int .u8 2, .int .u8 (lv : Int), .int .u8 2, .int .u8 0, .int .u8 0, .int .u8 0, .int .u8 2, .int .u8 (o : Int), .int .u8 2, .int .u8 9, .int .u8 9, .int .u8 9, .int .u8 9, .int .u8 9, .int .i64 (sq : Int), .int .i64 (31 : Int), .slice pd m cd] 156, .blk g10 [.int .u8 2, .int .u8 0, .int .u8 0, .int .u8 0, .int .u8 2, .int .u8 (o : Int), .int .i64 ((sq + 1 : Nat) : Int), .slice pS (ms.length + 1) cS, .slice pB hs.length cB] 55]) zKs ?_
       exact VE.ret rfl (.cell ty55 rfl zM rfl (.cell ty156 rfl zM rfl (.tmp rfl .nil))) (some ⟨v, pS, cS, pB, cB, pd, cd⟩) ⟨hnx, hS, hcd⟩ rfl zB

theorem receive_c (o sq : Nat) (p1 : Option Addr) (c1 : Nat) (ms : List (Nat × Nat)) (p2 : Option Addr) (c2 : Nat) (hs : List (Nat × Nat)) (hok : FOk o sq ms hs) (hc1 : ms.length ≤ c1) (p : Option Addr) (m c : Nat) (l : List UInt8) (hl : l.length = m) (hm : m ≤ 2264) (f e lv q ttl : Nat) (hfo : f ≠ o) (heo : e ≠ o) (hq : q < 65536) (ht1 : 1 ≤ ttl ∧ ttl ≤ 31) (hml5 : ms.length ≤ 125) (hfw : lv ≠ o → 2 ≤ ttl ∧ ∃ h ∈ hs, h.1 = lv) :
  Does Tryz.prog 50 [.agg #[.int .u8 2, .int .u8 0, .int .u8 0, .int .u8 0, .int .u8 2, .int .u8 (o : Int), .int .i64 (sq : Int), .slice p1 ms.length c1, .slice p2 hs.length c2], .agg #[.int .u8 2, .int .u8 0, .int .u8 0, .int .u8 0, .int .u8 2, .int .u8 (f : Int), .int .u8 2, .int .u8 0, .int .u8 0, .int .u8 0, .int .u8 2, .int .u8 (o : Int), .int .u8 2, .int .u8 0, .int .u8 0, .int .u8 0, .int .u8 2, .int .u8 (e : Int), .int .u8 2, .int .u8 0, .int .u8 0, .int .u8 0, .int .u8 2, .int .u8 (lv : Int), .int .u8 2, .int .u8 0, .int .u8 0, .int .u8 0, .int .u8 2, .int .u8 (e : Int), .int .u8 2, .int .u8 9, .int .u8 9, .int .u8 9, .int .u8 9, .int .u8 9, .int .i64 (q : Int), .int .i64 (ttl : Int), .slice p m c]] [] (fun W => (Rd W p1 (ms.flatMap markC) ∧ Rd W p2 (hs.flatMap hopC)) ∧ Rd W p (bs l)) (X := RV) (fun x => RVOk o e q lv m ms hs x) (fun x => match x with | .drop p1 c1 p2 c2 => .tuple #[.agg #[.int .u8 2, .int .u8 0, .int .u8 0, .int .u8 0, .int .u8 2, .int .u8 (o : Int), .int .i64 (sq : Int), .slice p1 ms.length c1, .slice p2 hs.length c2], .int .u8 0, .agg #[.int .u8 0, .int .u8 0, .int .u8 0, .int .u8 0, .int .u8 0, .int .u8 0, .int .u8 0, .int .u8 0, .int .u8 0, .int .u8 0, .int .u8 0, .int .u8 0, .int .u8 0, .int .u8 0, .int .u8 0, .int .u8 0, .int .u8 0, .int .u8 0, .int .u8 0, .int .u8 0, .int .u8 0, .int .u8 0, .int .u8 0, .int .u8 0, .int .u8 0, .int .u8 0, .int .u8 0, .int .u8 0, .int .u8 0, .int .u8 0, .int .u8 0, .int .u8 0, .int .u8 0, .int .u8 0, .int .u8 0, .int .u8 0, .int .i64 0, .int .i64 0, .slice none 0 0], .int .i64 0] | .here p1 c1 p2 c2 pd cd => .tuple #[.agg #[.int .u8 2, .int .u8 0, .int .u8 0, .int .u8 0, .int .u8 2, .int .u8 (o : Int), .int .i64 (sq : Int), .slice p1 (ms.length + 1) c1, .slice p2 hs.length c2], .int .u8 1, .agg #[.int .u8 2, .int .u8 0, .int .u8 0, .int .u8 0, .int .u8 2, .int .u8 (f : Int), .int .u8 2, .int .u8 0, .int .u8 0, .int .u8 0, .int .u8 2, .int .u8 (o : Int), .int .u8 2, .int .u8 0, .int .u8 0, .int .u8 0, .int .u8 2, .int .u8 (e : Int), .int .u8 2, .int .u8 0, .int .u8 0, .int .u8 0, .int .u8 2, .int .u8 (lv : Int), .int .u8 2, .int .u8 0, .int .u8 0, .int .u8 0, .int .u8 2, .int .u8 (e : Int), .int .u8 2, .int .u8 9, .int .u8 9, .int .u8 9, .int .u8 9, .int .u8 9, .int .i64 (q : Int), .int .i64 (ttl : Int), .slice pd m cd], .int .i64 0] | .fwd v p1 c1 p2 c2 pd cd => .tuple #[.agg #[.int .u8 2, .int .u8 0, .int .u8 0, .int .u8 0, .int .u8 2, .int .u8 (o : Int), .int .i64 (sq : Int), .slice p1 (ms.length + 1) c1, .slice p2 hs.length c2], .int .u8 2, .agg #[.int .u8 2, .int .u8 0, .int .u8 0, .int .u8 0, .int .u8 2, .int .u8 (o : Int), .int .u8 2, .int .u8 0, .int .u8 0, .int .u8 0, .int .u8 2, .int .u8 (v : Int), .int .u8 2, .int .u8 0, .int .u8 0, .int .u8 0, .int .u8 2, .int .u8 (e : Int), .int .u8 2, .int .u8 0, .int .u8 0, .int .u8 0, .int .u8 2, .int .u8 (lv : Int), .int .u8 2, .int .u8 0, .int .u8 0, .int .u8 0, .int .u8 2, .int .u8 (e : Int), .int .u8 2, .int .u8 9, .int .u8 9, .int .u8 9, .int .u8 9, .int .u8 9, .int .i64 (q : Int), .int .i64 ((ttl - 1 : Nat) : Int), .slice pd m cd], .int .i64 0]) (fun x => match x with | .drop p1 c1 p2 c2 => [.row (.slice p1 ms.length c1) 258 7 ms.length ((ms).flatMap markC), .row (.slice p2 hs.length c2) 252 12 hs.length ((hs).flatMap hopC)] | .here p1 c1 p2 c2 pd cd => [.row (.slice p1 (ms.length + 1) c1) 258 7 (ms.length + 1) ((ms ++ [(e, q)]).flatMap markC), .row (.slice p2 hs.length c2) 252 12 hs.length ((hs).flatMap hopC), .row (.slice pd m cd) 5 1 m (bs l)] | .fwd _ p1 c1 p2 c2 pd cd => [.row (.slice p1 (ms.length + 1) c1) 258 7 (ms.length + 1) ((ms ++ [(e, q)]).flatMap markC), .row (.slice p2 hs.length c2) 252 12 hs.length ((hs).flatMap hopC), .row (.slice pd m cd) 5 1 m (bs l)]) := by
 have hml := hok.ml
 have hhl := hok.hl
 have hsq := hok.sq
 refine Does.enter Tryz.func50 rfl (m := 125) rfl (by simp) ?_
 intro W0 hro
 refine VC.seq ?_
 refine VC.region ?_
 refine VL.eff (O.box rfl rfl (by decide) ?_)
 intro g2
 refine VL.eff (O.box rfl rfl (by decide) ?_)
 intro g3
 refine VL.eff (O.alloc zo55 (by decide) ?_)
 intro g4
 refine VL.q (Q.assign rfl) ?_
 refine VL.eff (O.alloc zo156 (by decide) ?_)
 intro g6
 refine VL.q (Q.assign rfl) ?_
 refine VL.nil ?_
 refine VE.seq ?_
 refine VC.seq ?_
 refine VC.seq ?_
 refine VC.region ?_
 refine VL.q (Q.loadA ty55 rfl zM zS) ?_
 refine VL.eff (O.call0 ok117 rfl rfl (by decide) (fcheck_c o sq p1 c1 ms p2 c2 hs hok hc1) (fun _ ho _ => ⟨hro.1.1.only0 ho, hro.1.2.only0 ho⟩) ?_)
 intro x13 y13
 refine VL.quietE (v' := .bool false) (by decide) (Q.ne rfl rfl) (by rfl) ?_
 refine VL.q (Q.move rfl) ?_
 refine VL.yes rfl rfl ?_
 refine VL.q (Q.loadA ty156 rfl zM zS) ?_
 refine VL.yes rfl rfl ?_
 refine VL.eff (O.call0 ok128 rfl rfl (by decide) (checkframe_c f o e lv q ttl p m c hq ht1 hm) (fun _ _ _ => trivial) ?_)
 intro x17 y17
 refine VL.yes rfl rfl ?_
 refine VL.quietE (v' := .bool false) (by decide) (Q.ne rfl rfl) (by rfl) ?_
 refine VL.quietE (v' := .bool false) (by decide) (Q.pick_false rfl rfl) (by rfl) ?_
 refine VL.nil ?_
 refine VE.seq ?_
 refine VC.condF rfl ?_
 refine VC.skip ?_
 refine VE.seq ?_
 refine VC.seq ?_
 refine VC.region ?_
 refine VL.q (Q.fieldAddr fa156_2 rfl) ?_
 refine VL.q (Q.loadA ty44 rfl zM zS) ?_
 refine VL.q (Q.fieldAddr fa156_6 rfl) ?_
 refine VL.q (Q.load1 ty3 rfl zM rfl) ?_
 refine VL.q (Q.build lay258 zF) ?_
 refine VL.eff (O.alloc zo258 (by decide) ?_)
 intro g8
 refine VL.eff (O.store ty258 rfl rfl rfl rfl zU zP ?_)
 refine VL.nil ?_
 refine VE.seq ?_
 refine VC.seq ?_
 refine VC.seq ?_
 refine VC.region ?_
 refine VL.q (Q.fieldAddr fa156_1 rfl) ?_
 refine VL.q (Q.loadA ty44 rfl zM zS) ?_
 refine VL.eff (O.call0 ok99 rfl rfl (by decide) (fgroup_c o) (fun _ _ _ => trivial) ?_)
 intro x29 y29
 refine VL.quietE (v' := .bool true) (by decide) (Q.not rfl) (by rfl) ?_
 refine VL.q (Q.move rfl) ?_
 refine VL.yes rfl rfl ?_
 refine VL.q (Q.fieldAddr fa156_1 rfl) ?_
 refine VL.yes rfl rfl ?_
 refine VL.q (Q.loadA ty44 rfl zM zS) ?_
 refine VL.yes rfl rfl ?_
 refine VL.q (Q.fieldAddr fa55_0 rfl) ?_
 refine VL.yes rfl rfl ?_
 refine VL.q (Q.loadA ty44 rfl zM zS) ?_
 refine VL.yes rfl rfl ?_
 refine VL.quietE (v' := .bool false) (by decide) (Q.neS flt44 (by decide) ty44 eg44 rfl rfl rfl rfl) (congrArg (fun b => Value.bool (!b)) ((node_eq o o).trans (decide_eq_true rfl))) ?_
 refine VL.quietE (v' := .bool false) (by decide) (Q.pick_true rfl rfl) (by rfl) ?_
 refine VL.q (Q.move rfl) ?_
 refine VL.yes rfl rfl ?_
 refine VL.q (Q.fieldAddr fa156_2 rfl) ?_
 refine VL.yes rfl rfl ?_
 refine VL.q (Q.loadA ty44 rfl zM zS) ?_
 refine VL.yes rfl rfl ?_
 refine VL.q (Q.fieldAddr fa55_0 rfl) ?_
 refine VL.yes rfl rfl ?_
 refine VL.q (Q.loadA ty44 rfl zM zS) ?_
 refine VL.yes rfl rfl ?_
 refine VL.quietE (v' := .bool false) (by decide) (Q.eqS flt44 (by decide) ty44 eg44 rfl rfl rfl rfl) (congrArg Value.bool ((node_eq e o).trans (decide_eq_false heo))) ?_
 refine VL.quietE (v' := .bool false) (by decide) (Q.pick_false rfl rfl) (by rfl) ?_
 refine VL.q (Q.move rfl) ?_
 refine VL.yes rfl rfl ?_
 refine VL.q (Q.fieldAddr fa156_0 rfl) ?_
 refine VL.yes rfl rfl ?_
 refine VL.q (Q.loadA ty44 rfl zM zS) ?_
 refine VL.yes rfl rfl ?_
 refine VL.q (Q.fieldAddr fa55_0 rfl) ?_
 refine VL.yes rfl rfl ?_
 refine VL.q (Q.loadA ty44 rfl zM zS) ?_
 refine VL.yes rfl rfl ?_
 refine VL.quietE (v' := .bool false) (by decide) (Q.eqS flt44 (by decide) ty44 eg44 rfl rfl rfl rfl) (congrArg Value.bool ((node_eq f o).trans (decide_eq_false hfo))) ?_
 refine VL.quietE (v' := .bool false) (by decide) (Q.pick_false rfl rfl) (by rfl) ?_
 refine VL.q (Q.move rfl) ?_
 refine VL.yes rfl rfl ?_
 refine VL.q (Q.fieldAddr fa55_2 rfl) ?_
 refine VL.yes rfl rfl ?_
 refine VL.q (Q.load1 ty52 rfl zM rfl) ?_
 refine VL.yes rfl rfl ?_
 refine VL.q (Q.loadA ty258 rfl zM zS) ?_
 refine VL.yes rfl rfl ?_
 refine VL.eff (O.call0 ok129 rfl rfl (by decide) (contains_c p1 ms.length c1 ms rfl (by omega) (e, q)) (fun _ ho _ => hro.1.1.only0 ho) ?_)
 intro x56 y56
 refine VL.q (Q.pick_false rfl rfl) ?_
 refine VL.nil ?_
 refine VE.seq ?_
 refine VC.cond rfl ?_ ?_
 ·
  intro h57
  refine VC.seq ?_
  refine VK.keep (by exact .cons (i := 2) rfl (.cons (i := 3) rfl (.cons (i := 4) rfl (.cons (i := 5) rfl (.cons (i := 6) rfl (.cons (i := 7) rfl ( .nil))))))) ?_
  refine VC.region ?_
  refine VL.q (Q.loadA ty55 rfl zM zS) ?_
  refine VL.eff (O.call0 ok120 rfl rfl (by decide) (own_c o sq p1 c1 ms p2 c2 hs hok hc1) (fun _ ho _ => ⟨hro.1.1.only0 ho, hro.1.2.only0 ho⟩) ?_)
  intro x59 y59
  obtain ⟨⟨pA, cA⟩, ⟨pB, cB⟩⟩ := x59
  obtain ⟨hA, hB⟩ := y59
  dsimp only at hA hB
  refine VL.q (Q.build lay156 zF) ?_
  refine VL.eff (O.store ty55 rfl rfl rfl rfl zU zP ?_)
  refine VL.q (Q.assign rfl) ?_
  refine VL.eff (O.store ty156 rfl rfl rfl rfl zU zP ?_)
  refine VL.q (Q.assign rfl) ?_
  refine VL.nil ?_
  refine VE.seq ?_
  refine VC.ret ?_
  refine VE.then_ret ?_
  refine VK.picks (Lin := [.row (.slice pA ms.length cA) 258 7 ms.length ((ms).flatMap markC), .row (.slice pB hs.length cB) 252 12 hs.length ((hs).flatMap hopC), .blk g6 [.int .u8 0, .int .u8 0, .int .u8 0, .int .u8 0, .int .u8 0, .int .u8 0, .int .u8 0, .int .u8 0, .int .u8 0, .int .u8 0, .int .u8 0, .int .u8 0, .int .u8 0, .int .u8 0, .int .u8 0, .int .u8 0, .int .u8 0, .int .u8 0, .int .u8 0, .int .u8 0, .int .u8 0, .int .u8 0, .int .u8 0, .int .u8 0, .int .u8 0, .int .u8 0, .int .u8 0, .int .u8 0, .int .u8 0, .int .u8 0, .int .u8 0, .int .u8 0, .int .u8 0, .int .u8 0, .int .u8 0, .int .u8 0, .int .i64 0, .int .i64 0, .slice none 0 0] 156, .blk g4 [.int .u8 2, .int .u8 0, .int .u8 0, .int .u8 0, .int .u8 2, .int .u8 (o : Int), .int .i64 (sq : Int), .slice pA ms.length cA, .slice pB hs.length cB] 55]) zKs ?_
  exact VE.ret rfl (.cell ty55 rfl zM rfl (.tmp rfl (.cell ty156 rfl zM rfl (.tmp rfl .nil)))) (.drop pA cA pB cB) ⟨y56.1 h57, hA⟩ rfl zB
 ·
  intro h57
  have hmk : (e, q) ∉ ms := fun hm => by rw [y56.2 hm] at h57; cases h57
  refine VC.skip ?_
  refine VE.seq ?_
  refine VC.seq ?_
  refine VK.keep (by exact .cons (i := 2) rfl (.cons (i := 3) rfl (.cons (i := 4) rfl (.cons (i := 5) rfl (.cons (i := 6) rfl (.cons (i := 7) rfl ( .nil))))))) ?_
  refine VC.region ?_
  refine VL.q (Q.loadA ty55 rfl zM zS) ?_
  refine VL.q (Q.fieldAddr fa156_2 rfl) ?_
  refine VL.q (Q.loadA ty44 rfl zM zS) ?_
  refine VL.q (Q.fieldAddr fa156_6 rfl) ?_
  refine VL.q (Q.load1 ty3 rfl zM rfl) ?_
  refine VL.eff (O.call0 ok127 rfl rfl (by decide) (remember_c o sq p1 c1 ms p2 c2 hs hok hc1 e q hmk) (fun _ ho _ => ⟨hro.1.1.only0 ho, hro.1.2.only0 ho⟩) ?_)
  intro x66 y66
  obtain ⟨⟨pS, cS⟩, ⟨pB, cB⟩⟩ := x66
  have hS : ms.length + 1 ≤ cS := y66
  refine VL.eff (O.store ty55 rfl rfl rfl rfl zU zP ?_)
  refine VL.nil ?_
  refine VE.seq ?_
  refine VC.seq ?_
  refine VC.region ?_
  refine VL.q (Q.fieldAddr fa156_8 rfl) ?_
  refine VL.q (Q.load1 ty23 rfl zM rfl) ?_
  refine VL.eff (O.call0 ok123 rfl rfl (by decide) (bclone_c p m c (bs l) (by rw [bs_length]; omega) (bs_one l) (by omega)) (fun _ ho _ => hro.2.only0 ho) ?_)
  intro x69 y69
  obtain ⟨pd, cd⟩ := x69
  have hcd : m ≤ cd := y69
  refine VL.q (Q.fieldAddr fa156_8 rfl) ?_
  refine VL.eff (O.store ty23 rfl rfl rfl rfl zU zP ?_)
  refine VL.nil ?_
  refine VE.seq ?_
  refine VC.seq ?_
  refine VC.region ?_
  refine VL.q (Q.loadA ty55 rfl zM zS) ?_
  refine VL.q (Q.fieldAddr fa156_3 rfl) ?_
  refine VL.q (Q.loadA ty44 rfl zM zS) ?_
  have hok2 := hok.snoc hmk hq hml5
  have hl1 : (ms ++ [(e, q)]).length = ms.length + 1 := by simp
  have hnx0 := nextof_c o sq pS cS (ms ++ [(e, q)]) pB cB hs hok2 (by rw [hl1]; exact hS) lv
  rw [hl1] at hnx0
  refine VL.eff (O.call0 ok122 rfl rfl (by decide) (hnx0) (fun _ _ hw => ⟨Rd.row hw zM, Rd.row hw zM⟩) ?_)
  intro x75 y75
  rcases x75 with _ | v
  ·
   have hlv : lv = o := by
    rcases Nat.decEq lv o with hne | he
    ·
     obtain ⟨_, h, hh, he⟩ := hfw hne
     exact absurd he ((y75).no rfl h hh)
    ·
     exact he
   refine VL.q (Q.move rfl) ?_
   refine VL.q (Q.extract rfl rfl) ?_
   refine VL.q (Q.extract rfl rfl) ?_
   refine VL.eff (O.alloc zo44 (by decide) ?_)
   intro g9
   refine VL.eff (O.store ty44 rfl rfl rfl rfl zU zP ?_)
   refine VL.q (Q.assign rfl) ?_
   refine VL.nil ?_
   refine VE.seq ?_
   refine VC.seq ?_
   refine VC.region ?_
   refine VL.q (Q.assign rfl) ?_
   refine VL.nil ?_
   refine VE.seq ?_
   refine VC.seq ?_
   refine VC.block ?_
   refine VC.seq ?_
   refine VC.region ?_
   refine VL.q (Q.fieldAddr fa156_3 rfl) ?_
   refine VL.q (Q.loadA ty44 rfl zM zS) ?_
   refine VL.q (Q.fieldAddr fa55_0 rfl) ?_
   refine VL.q (Q.loadA ty44 rfl zM zS) ?_
   refine VL.quietE (v' := .bool true) (by decide) (Q.eqS flt44 (by decide) ty44 eg44 rfl rfl rfl rfl) (congrArg Value.bool ((node_eq lv o).trans (decide_eq_true hlv))) ?_
   refine VL.q (Q.move rfl) ?_
   refine VL.no (by simp) rfl rfl (.inl rfl) ?_
   refine VL.no (by simp) rfl rfl (.inl rfl) ?_
   refine VL.no (by simp) rfl rfl (.inl rfl) ?_
   refine VL.no (by simp) rfl rfl (.inl rfl) ?_
   refine VL.no (by simp) rfl rfl (.inr rfl) ?_
   refine VL.no (by simp) rfl rfl (.inr rfl) ?_
   refine VL.no (by simp) rfl rfl (.inr rfl) ?_
   refine VL.no (by simp) rfl rfl (.inl rfl) ?_
   refine VL.quietE (v' := .bool true) (by decide) (Q.pick_true rfl rfl) (by rfl) ?_
   refine VL.q (Q.assign rfl) ?_
   refine VL.nil ?_
   refine VE.seq ?_
   refine VC.condT rfl ?_
   refine VC.seq ?_
   refine VK.keep (by exact .cons (i := 2) rfl (.cons (i := 3) rfl (.cons (i := 4) rfl (.cons (i := 5) rfl (.cons (i := 6) rfl (.cons (i := 7) rfl (.cons (i := 9) rfl (.cons (i := 11) rfl ( .nil))))))))) ?_
   refine VA.start (Ls := [.blk g3 [.int .u8 2, .int .u8 0, .int .u8 0, .int .u8 0, .int .u8 2, .int .u8 (f : Int), .int .u8 2, .int .u8 0, .int .u8 0, .int .u8 0, .int .u8 2, .int .u8 (o : Int), .int .u8 2, .int .u8 0, .int .u8 0, .int .u8 0, .int .u8 2, .int .u8 (e : Int), .int .u8 2, .int .u8 0, .int .u8 0, .int .u8 0, .int .u8 2, .int .u8 (lv : Int), .int .u8 2, .int .u8 0, .int .u8 0, .int .u8 0, .int .u8 2, .int .u8 (e : Int), .int .u8 2, .int .u8 9, .int .u8 9, .int .u8 9, .int .u8 9, .int .u8 9, .int .i64 (q : Int), .int .i64 (ttl : Int), .slice pd m cd] 156, .blk g2 [.int .u8 2, .int .u8 0, .int .u8 0, .int .u8 0, .int .u8 2, .int .u8 (o : Int), .int .i64 (sq : Int), .slice pS (ms.length + 1) cS, .slice pB hs.length cB] 55]) (Cs := []) mixed ?_
   refine VA.tk 0 rfl (Still.then (Still.block (Still.then Still.body))) zB Cells.nil (Quiet.c (Q.loadA ty55 rfl zM zS)) ?_
   refine VA.tk 1 rfl (Still.then (Still.block (Still.then Still.body))) zB Cells.nil (Quiet.c (Q.loadA ty156 rfl zM zS)) ?_
   refine VA.all (rs := [2]) (by kernel_rfl) (by simp) ?_
   refine VA.forall1 ?_
   ·
    refine VA.eff rfl ?_
    refine id (O.store ty55 rfl rfl rfl rfl zU zP ?_)
    refine VA.next zB Cells.nil ?_
    refine VA.tk 3 rfl (Still.then (Still.block (Still.then Still.body))) zB Cells.nil (Quiet.c (Q.assign rfl)) ?_
    refine VA.all (rs := [4]) (by kernel_rfl) (by simp) ?_
    refine VA.forall1 ?_
    ·
     refine VA.eff rfl ?_
     refine id (O.store ty156 rfl rfl rfl rfl zU zP ?_)
     refine VA.next zB Cells.nil ?_
     refine VA.tk 5 rfl (Still.then (Still.block (Still.then Still.body))) zB Cells.nil (Quiet.c (Q.assign rfl)) ?_
     refine VA.done (by kernel_rfl) ?_
     refine VE.seq ?_
     refine VC.ret ?_
     refine VE.block_ret ?_
     refine VE.then_ret ?_
     refine VK.picks (Lin := [.row (.slice pS (ms.length + 1) cS) 258 7 (ms.length + 1) ((ms ++ [(e, q)]).flatMap markC), .row (.slice pB hs.length cB) 252 12 hs.length ((hs).flatMap hopC), .row (.slice pd m cd) 5 1 m (bs l), .blk g6 [.int .u8 2, .int .u8 0, .int .u8 0, .int .u8 0, .int .u8 2, .int .u8 (f : Int), .int .u8 2, .int .u8 0, .int .u8 0, .int .u8 0, .int .u8 2, .int .u8 (o : Int), .int .u8 2, .int .u8 0, .int .u8 0, .int .u8 0, .int .u8 2, .int .u8 (e : Int), .int .u8 2, .int .u8 0, .int .u8 0, .int .u8 0, .int .u8 2, .int .u8 (lv : Int), .int .u8 2, .int .u8 0, .int .u8 0, .int .u8 0, .int .u8 2, .int .u8 (e : Int), .int .u8 2, .int .u8 9, .int .u8 9, .int .u8 9, .int .u8 9, .int .u8 9, .int .i64 (q : Int), .int .i64 (ttl : Int), .slice pd m cd] 156, .blk g4 [.int .u8 2, .int .u8 0, .int .u8 0, .int .u8 0, .int .u8 2, .int .u8 (o : Int), .int .i64 (sq : Int), .slice pS (ms.length + 1) cS, .slice pB hs.length cB] 55]) zKs ?_
     exact VE.ret rfl (.cell ty55 rfl zM rfl (.tmp rfl (.cell ty156 rfl zM rfl (.tmp rfl .nil)))) (.here pS cS pB cB pd cd) ⟨hmk, hlv, hS, hcd⟩ rfl zB
  ·
   have hnx := (y75).is v rfl
   have hlv : lv ≠ o := fun e => (hok.hv _ hnx).2.2.1 e
   have httl := (hfw hlv).1
   refine VL.q (Q.move rfl) ?_
   refine VL.q (Q.extract rfl rfl) ?_
   refine VL.q (Q.extract rfl rfl) ?_
   refine VL.eff (O.alloc zo44 (by decide) ?_)
   intro g9
   refine VL.eff (O.store ty44 rfl rfl rfl rfl zU zP ?_)
   refine VL.q (Q.assign rfl) ?_
   refine VL.nil ?_
   refine VE.seq ?_
   refine VC.seq ?_
   refine VC.region ?_
   refine VL.q (Q.assign rfl) ?_
   refine VL.nil ?_
   refine VE.seq ?_
   refine VC.seq ?_
   refine VC.block ?_
   refine VC.seq ?_
   refine VC.region ?_
   refine VL.q (Q.fieldAddr fa156_3 rfl) ?_
   refine VL.q (Q.loadA ty44 rfl zM zS) ?_
   refine VL.q (Q.fieldAddr fa55_0 rfl) ?_
   refine VL.q (Q.loadA ty44 rfl zM zS) ?_
   refine VL.quietE (v' := .bool false) (by decide) (Q.eqS flt44 (by decide) ty44 eg44 rfl rfl rfl rfl) (congrArg Value.bool ((node_eq lv o).trans (decide_eq_false hlv))) ?_
   refine VL.q (Q.move rfl) ?_
   refine VL.yes rfl rfl ?_
   refine VL.q (Q.fieldAddr fa156_1 rfl) ?_
   refine VL.yes rfl rfl ?_
   refine VL.q (Q.loadA ty44 rfl zM zS) ?_
   refine VL.yes rfl rfl ?_
   refine VL.eff (O.call0 ok99 rfl rfl (by decide) (fgroup_c o) (fun _ _ _ => trivial) ?_)
   intro x87 y87
   refine VL.yes rfl rfl ?_
   refine VL.q (Q.move rfl) ?_
   refine VL.no (by simp) rfl rfl (.inl rfl) ?_
   refine VL.no (by simp) rfl rfl (.inl rfl) ?_
   refine VL.no (by simp) rfl rfl (.inl rfl) ?_
   refine VL.yes rfl rfl ?_
   refine VL.quietE (v' := .bool false) (by decide) (Q.pick_false rfl rfl) (by rfl) ?_
   refine VL.quietE (v' := .bool false) (by decide) (Q.pick_false rfl rfl) (by rfl) ?_
   refine VL.q (Q.assign rfl) ?_
   refine VL.nil ?_
   refine VE.seq ?_
   refine VC.condF rfl ?_
   refine VC.seq ?_
   refine VK.keep (by exact .cons (i := 2) rfl (.cons (i := 3) rfl (.cons (i := 4) rfl (.cons (i := 5) rfl (.cons (i := 6) rfl (.cons (i := 7) rfl (.cons (i := 9) rfl (.cons (i := 10) rfl (.cons (i := 11) rfl ( .nil)))))))))) ?_
   refine VC.region ?_
   refine VL.q (Q.fieldAddr fa156_1 rfl) ?_
   refine VL.q (Q.loadA ty44 rfl zM zS) ?_
   refine VL.eff (O.call0 ok99 rfl rfl (by decide) (fgroup_c o) (fun _ _ _ => trivial) ?_)
   intro x99 y99
   refine VL.q (Q.assign rfl) ?_
   refine VL.nil ?_
   refine VE.seq ?_
   refine VC.condF rfl ?_
   refine VC.seq ?_
   refine VC.region ?_
   refine VL.q (Q.fieldAddr fa156_7 rfl) ?_
   refine VL.q (Q.load1 ty3 rfl zM rfl) ?_
   refine VL.quietE (v' := .bool false) (by decide) (Q.eq rfl rfl) (congrArg Value.bool (decide_eq_false (by omega))) ?_
   refine VL.q (Q.assign rfl) ?_
   refine VL.nil ?_
   refine VE.seq ?_
   refine VC.condF rfl ?_
   refine VC.seq ?_
   refine VC.region ?_
   refine VL.q (Q.move rfl) ?_
   refine VL.quietE (v' := .bool false) (by decide) (Q.not rfl) (by rfl) ?_
   refine VL.q (Q.assign rfl) ?_
   refine VL.nil ?_
   refine VE.seq ?_
   refine VC.condF rfl ?_
   refine VC.skip ?_
   refine VE.block_normal ?_
   refine VE.seq ?_
   refine VC.seq ?_
   refine VA.start (Ls := [.blk g9 [.int .u8 2, .int .u8 0, .int .u8 0, .int .u8 0, .int .u8 2, .int .u8 (v : Int)] 44, .blk g2 [.int .u8 2, .int .u8 0, .int .u8 0, .int .u8 0, .int .u8 2, .int .u8 (o : Int), .int .i64 (sq : Int), .slice pS (ms.length + 1) cS, .slice pB hs.length cB] 55]) (Cs := []) mixed ?_
   refine VA.tk 0 rfl (Still.then Still.body) zB Cells.nil (Quiet.c (Q.fieldAddr fa55_0 rfl)) ?_
   refine VA.tk 1 rfl (Still.then Still.body) zB Cells.nil (Quiet.c (Q.loadA ty44 rfl zM zS)) ?_
   refine VA.tk 2 rfl (Still.then Still.body) zB Cells.nil (Quiet.c (Q.loadA ty44 rfl zM zS)) ?_
   refine VA.tk 3 rfl (Still.then Still.body) zB Cells.nil (Quiet.c (Q.fieldAddr fa156_7 rfl)) ?_
   refine VA.all (rs := [4]) (by kernel_rfl) (by simp) ?_
   refine VA.forall1 ?_
   ·
    refine VA.eff rfl ?_
    refine O.quiet (by decide) (Q.load1 ty3 rfl zM rfl) ?_
    refine VA.next zB Cells.nil ?_
    refine VA.tk 5 rfl (Still.then Still.body) zB Cells.nil (Quiet.c (Quiet.to (v' := .int .i64 ((ttl - 1 : Nat) : Int)) ((by first | exact Q.subI rfl rfl (by omega) (by omega) | exact Q.sub rfl rfl)) (congrArg (Value.int .i64) (by omega)))) ?_
    refine VA.tk 6 rfl (Still.then Still.body) zB Cells.nil (Quiet.c (Q.fieldAddr fa156_0 rfl)) ?_
    refine VA.all (rs := [7]) (by kernel_rfl) (by simp) ?_
    refine VA.forall1 ?_
    ·
     refine VA.eff rfl ?_
     refine id (O.store ty44 rfl rfl rfl rfl zU zP ?_)
     refine VA.next zB Cells.nil ?_
     refine VA.tk 8 rfl (Still.then Still.body) zB Cells.nil (Quiet.c (Q.fieldAddr fa156_1 rfl)) ?_
     refine VA.all (rs := [9]) (by kernel_rfl) (by simp) ?_
     refine VA.forall1 ?_
     ·
      refine VA.eff rfl ?_
      refine id (O.store ty44 rfl rfl rfl rfl zU zP ?_)
      refine VA.next zB Cells.nil ?_
      refine VA.tk 10 rfl (Still.then Still.body) zB Cells.nil (Quiet.c (Q.fieldAddr fa156_7 rfl)) ?_
      refine VA.all (rs := [11]) (by kernel_rfl) (by simp) ?_
      refine VA.forall1 ?_
      ·
       refine VA.eff rfl ?_
       refine id (O.store ty3 rfl rfl rfl rfl zU zP ?_)
       refine VA.next zB Cells.nil ?_
       refine VA.done (by kernel_rfl) ?_
       refine VE.seq ?_
       refine VC.seq ?_
       refine VA.start (Ls := [.blk g3 [.int .u8 2, .int .u8 0, .int .u8 0, .int .u8 0, .int .u8 2, .int .u8 (o : Int), .int .u8 2, .int .u8 0, .int .u8 0, .int .u8 0, .int .u8 2, .int .u8 (v : Int), .int .u8 2, .int .u8 0, .int .u8 0, .int .u8 0, .int .u8 2, .int .u8 (e : Int), .int .u8 2, .int .u8 0, .int .u8 0, .int .u8 0, .int .u8 2, .int .u8 (lv : Int), .int .u8 2, .int .u8 0, .int .u8 0, .int .u8 0, .int .u8 2, .int .u8 (e : Int), .int .u8 2, .int .u8 9, .int .u8 9, .int .u8 9, .int .u8 9, .int .u8 9, .int .i64 (q : Int), .int .i64 ((ttl - 1 : Nat) : Int), .slice pd m cd] 156, .blk g2 [.int .u8 2, .int .u8 0, .int .u8 0, .int .u8 0, .int .u8 2, .int .u8 (o : Int), .int .i64 (sq : Int), .slice pS (ms.length + 1) cS, .slice pB hs.length cB] 55]) (Cs := []) mixed ?_
       refine VA.tk 0 rfl (Still.then Still.body) zB Cells.nil (Quiet.c (Q.loadA ty55 rfl zM zS)) ?_
       refine VA.tk 1 rfl (Still.then Still.body) zB Cells.nil (Quiet.c (Q.move rfl)) ?_
       refine VA.tk 2 rfl (Still.then Still.body) zB Cells.nil (Quiet.c (Q.loadA ty156 rfl zM zS)) ?_
       refine VA.all (rs := [3]) (by kernel_rfl) (by simp) ?_
       refine VA.forall1 ?_
       ·
        refine VA.eff rfl ?_
        refine id (O.store ty55 rfl rfl rfl rfl zU zP ?_)
        refine VA.next zB Cells.nil ?_
        refine VA.tk 4 rfl (Still.then Still.body) zB Cells.nil (Quiet.c (Q.assign rfl)) ?_
        refine VA.all (rs := [5]) (by kernel_rfl) (by simp) ?_
        refine VA.forall1 ?_
        ·
         refine VA.eff rfl ?_
         refine id (O.store ty156 rfl rfl rfl rfl zU zP ?_)
         refine VA.next zB Cells.nil ?_
         refine VA.tk 6 rfl (Still.then Still.body) zB Cells.nil (Quiet.c (Q.assign rfl)) ?_
         refine VA.done (by kernel_rfl) ?_
         refine VE.seq ?_
         refine VC.ret ?_
         refine VK.picks (Lin := [.row (.slice pS (ms.length + 1) cS) 258 7 (ms.length + 1) ((ms ++ [(e, q)]).flatMap markC), .row (.slice pB hs.length cB) 252 12 hs.length ((hs).flatMap hopC), .row (.slice pd m cd) 5 1 m (bs l), .blk g6 [.int .u8 2, .int .u8 0, .int .u8 0, .int .u8 0, .int .u8 2, .int .u8 (o : Int), .int .u8 2, .int .u8 0, .int .u8 0, .int .u8 0, .int .u8 2, .int .u8 (v : Int), .int .u8 2, .int .u8 0, .int .u8 0, .int .u8 0, .int .u8 2, .int .u8 (e : Int), .int .u8 2, .int .u8 0, .int .u8 0, .int .u8 0, .int .u8 2, .int .u8 (lv : Int), .int .u8 2, .int .u8 0, .int .u8 0, .int .u8 0, .int .u8 2, .int .u8 (e : Int), .int .u8 2, .int .u8 9, .int .u8 9, .int .u8 9, .int .u8 9, .int .u8 9, .int .i64 (q : Int), .int .i64 ((ttl - 1 : Nat) : Int), .slice pd m cd] 156, .blk g4 [.int .u8 2, .int .u8 0, .int .u8 0, .int .u8 0, .int .u8 2, .int .u8 (o : Int), .int .i64 (sq : Int), .slice pS (ms.length + 1) cS, .slice pB hs.length cB] 55]) zKs ?_
         exact VE.ret rfl (.cell ty55 rfl zM rfl (.tmp rfl (.cell ty156 rfl zM rfl (.tmp rfl .nil)))) (.fwd v pS cS pB cB pd cd) ⟨hmk, hlv, hnx, hS, hcd⟩ rfl zB

end Go.Proofs.YtencghlmckbmlaaGreat
