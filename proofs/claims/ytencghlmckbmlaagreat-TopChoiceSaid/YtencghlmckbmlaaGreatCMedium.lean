/- The contracts of package medium. Conditions: those that each bears. -/
import Derived.Test.YtencghlmckbmlaaGreatRows
import Derived.Test.YtencghlmckbmlaaGreatCRadio3
namespace Go.Proofs.YtencghlmckbmlaaGreat
open Go Go.RowKit Go.Sx
set_option maxRecDepth 100000

theorem fa97_0 : tyField Tryz.prog 97 0 = some 0 := by kernel_rfl
theorem fa97_1 : tyField Tryz.prog 97 1 = some 1 := by kernel_rfl
theorem fa97_2 : tyField Tryz.prog 97 2 = some 2 := by kernel_rfl
theorem fa97_3 : tyField Tryz.prog 97 3 = some 3 := by kernel_rfl
theorem ok145 : okFunc Tryz.prog 145 = true := by kernel_rfl
theorem ok146 : okFunc Tryz.prog 146 = true := by kernel_rfl
theorem ok147 : okFunc Tryz.prog 147 = true := by kernel_rfl
theorem ok148 : okFunc Tryz.prog 148 = true := by kernel_rfl
theorem ok149 : okFunc Tryz.prog 149 = true := by kernel_rfl
theorem ok199 : okFunc Tryz.prog 199 = true := by kernel_rfl
theorem ok23 : okFunc Tryz.prog 23 = true := by kernel_rfl
theorem ty4 : tySz Tryz.prog 4 = some (false, 1) := by kernel_rfl
theorem ty88 : tySz Tryz.prog 88 = some (false, 1) := by kernel_rfl
theorem zo3 : tyZero Tryz.prog 3 = some [.int .i64 0] := by kernel_rfl
theorem zo4 : tyZero Tryz.prog 4 = some [.bool false] := by kernel_rfl
theorem zo97 : tyZero Tryz.prog 97 = some [.int .i64 0, .int .i64 0, .int .i64 0, .int .i64 0] := by kernel_rfl

/-- sendings of different nodes, one after the other -/
structure SdsOk (n : Nat) (ls : List Sd) : Prop where
  most : ls.length ≤ 9
  node : ∀ x ∈ ls, x.n < n
  time : ∀ x ∈ ls, 0 ≤ x.s ∧ x.s < x.e ∧ x.e ≤ 1099511627776
  need : ∀ x ∈ ls, -2000 ≤ x.need ∧ x.need ≤ 2000
  apart : ∀ i j (hi : i < ls.length) (hj : j < ls.length), i ≠ j → ls[i].n ≠ ls[j].n ∧ (ls[j].e ≤ ls[i].s ∨ ls[i].e ≤ ls[j].s)
def canB (rs : List Ra) (sd : List (List Int)) (x : Sd) (j : Nat) : Bool := hearsB rs sd j x.n && decide (x.need ≤ lev rs sd x.n j)
def rcvTo (rs : List Ra) (sd : List (List Int)) (x : Sd) (j : Nat) : List Int := ((List.range j).filter (canB rs sd x)).map fun k : Nat => (k : Int)
def rcv (rs : List Ra) (sd : List (List Int)) (x : Sd) : List Int := rcvTo rs sd x rs.length
theorem rcv_t {rs : List Ra} {sd : List (List Int)} {x : Sd} {j : Nat} (h : canB rs sd x j = true) : rcvTo rs sd x j ++ [(j : Int)] = rcvTo rs sd x (j + 1) := by
  simp [rcvTo, List.range_succ, h]
theorem rcv_f {rs : List Ra} {sd : List (List Int)} {x : Sd} {j : Nat} (h : canB rs sd x j = false) : rcvTo rs sd x j = rcvTo rs sd x (j + 1) := by
  simp [rcvTo, List.range_succ, h]
theorem rcv_len (rs : List Ra) (sd : List (List Int)) (x : Sd) (j : Nat) : (rcvTo rs sd x j).length ≤ j := by
  unfold rcvTo
  rw [List.length_map]
  have := List.length_filter_le (canB rs sd x) (List.range j)
  rwa [List.length_range] at this
theorem rcv_mem (rs : List Ra) (sd : List (List Int)) (x : Sd) (j : Nat) (hj : j < rs.length) : (rcv rs sd x).any (fun z => decide ((j : Int) = z)) = canB rs sd x j := by
  apply Bool.eq_iff_iff.2
  rw [List.any_eq_true]
  simp only [rcv, rcvTo, List.mem_map, List.mem_filter, List.mem_range, decide_eq_true_eq]
  constructor
  · rintro ⟨z, ⟨k, ⟨_, hk⟩, rfl⟩, h⟩
    obtain rfl : j = k := by omega
    exact hk
  · exact fun h => ⟨j, ⟨j, ⟨hj, h⟩, rfl⟩, rfl⟩
theorem can_f1 {rs : List Ra} {sd : List (List Int)} {x : Sd} {j : Nat} (h : (!hearsB rs sd j x.n) = true) : false = canB rs sd x j := by
  simp only [Bool.not_eq_true'] at h
  simp [canB, h]
theorem can_f2 {rs : List Ra} {sd : List (List Int)} {x : Sd} {j : Nat} (h : decide (lev rs sd x.n j < x.need) = true) : false = canB rs sd x j := by
  have := of_decide_eq_true h
  unfold canB
  rw [decide_eq_false (by omega), Bool.and_false]
theorem can_t {rs : List Ra} {sd : List (List Int)} {x : Sd} {j : Nat} (h1 : (!hearsB rs sd j x.n) = false) (h : decide (lev rs sd x.n j < x.need) = false) : true = canB rs sd x j := by
  have := of_decide_eq_false h
  simp only [Bool.not_eq_false'] at h1
  unfold canB
  rw [decide_eq_true (by omega), h1]
  rfl
/-- where the rows of receivers stand -/
structure Rx where
  p : Option Addr
  c : Nat
  rows : List Row
  ids : List Nat
abbrev noRow : Row := ⟨none, 0, []⟩
structure RcvI (rs : List Ra) (sd : List (List Int)) (ls : List Sd) (k : Nat) (rows : List Row) : Prop where
  len : rows.length = ls.length
  done : ∀ m (hm : m < ls.length), m < k → (rows[m]'(by omega)).d = rcv rs sd ls[m]
  todo : ∀ m (hm : m < ls.length), k ≤ m → rows[m]'(by omega) = noRow
theorem RcvI.start {rs : List Ra} {sd : List (List Int)} {ls : List Sd} {n : Nat} (hn : ls.length = n) : RcvI rs sd ls 0 (List.replicate n noRow) := ⟨by simp [hn], fun m _ h => by omega, fun m _ _ => by simp⟩
theorem RcvI.next {rs : List Ra} {sd : List (List Int)} {ls : List Sd} {k : Nat} {rows : List Row} (h : RcvI rs sd ls k rows) (hk : k < ls.length) {r : Row} (hr : r.d = rcv rs sd ls[k]) : RcvI rs sd ls (k + 1) (rows.set k r) := ⟨by rw [List.length_set]; exact h.len, fun m hm hl => by
  rw [List.getElem_set]
  by_cases e : k = m
  · subst e
    rw [if_pos rfl, hr]
  · rw [if_neg e]
    exact h.done m hm (by omega), fun m hm hl => by
  rw [List.getElem_set, if_neg (by omega)]
  exact h.todo m hm (by omega)⟩
theorem RcvI.all {rs : List Ra} {sd : List (List Int)} {ls : List Sd} {rows : List Row} (h : RcvI rs sd ls ls.length rows) : rows.map Row.d = ls.map (rcv rs sd) := by
  apply List.ext_getElem
  · simp [h.len]
  · intro m h1 h2
    simp only [List.length_map] at h1 h2
    rw [List.getElem_map, List.getElem_map]
    exact h.done m h2 h2
theorem rows_set {L : List Rs} {W : World} {ids : List Nat} {rows : List Row} {k : Nat} {r : Row} {e : TypeId} (hw : Go.Sx.Own W L) (h1 : Rs.frz ids (RdRows rows) ∈ L) (h2 : Rs.row (.slice r.p r.d.length r.c) e 1 r.d.length (r.d.flatMap intC) ∈ L) : RdRows (rows.set k r) W := by
  intro q hq
  rcases List.mem_or_eq_of_mem_set hq with hq | rfl
  · exact Rd.frz hw h1 q hq
  · exact Rd.row hw h2
theorem made_rows (n : Nat) : (madeCells (Value.slice none 0 0).cells (n * 1)).toList.take (n * 1) = (List.replicate n noRow).flatMap rowC := by
  have e : (Value.slice none 0 0).cells = #[.slice none 0 0] := rfl
  rw [e, toList_madeCells_one, Nat.mul_one, List.take_of_length_le (by simp)]
  induction n with
  | zero => rfl
  | succ n ih => rw [List.replicate_succ, List.replicate_succ, List.flatMap_cons, ← ih]; rfl
section
variable {P : Program} {W0 Wb : World} {gs : List Nat} {E : List (Nat × Value)} {L : List Rs}
theorem Q.loadBA {t : TypeId} {b o : Nat} {x : Operand} {xs : List Value} (hb : Only [] Wb W0) (hfr : ∀ j ∈ gs, Wb.heap.size ≤ j) (ht : tySz P t = some (true, xs.length)) (hx : ev E x = some (.pointer (some ⟨b, o, none⟩)))
    (hc : ∀ j u, xs[j]? = some u → Wb.cell? ⟨b, o + j, none⟩ = some u) : Quiet P W0 gs E L (.load t x) (.agg xs.toArray) :=
  Q.load hx fun W ho _ => lies_agg ht fun j u hu => only_cell (only_base hb ho hfr) (hc j u hu) (by simp)
end

theorem overlap_c (a b : Sd) (h : b.e ≤ a.s ∨ a.e ≤ b.s) :
  Does Tryz.prog 146 [.agg #[.int .i64 (a.n : Int), .int .i64 a.s, .int .i64 a.e, .int .i64 a.need], .agg #[.int .i64 (b.n : Int), .int .i64 b.s, .int .i64 b.e, .int .i64 b.need]] [] (fun _ => True) (X := Unit) (fun _ => True) (fun _ => .bool false) (fun _ => []) := by
 refine Does.enter Tryz.func146 rfl (m := 17) rfl (by simp) ?_
 intro W0 hro
 refine VC.seq ?_
 refine VC.region ?_
 refine VL.eff (O.box rfl rfl (by decide) ?_)
 intro g2
 refine VL.eff (O.box rfl rfl (by decide) ?_)
 intro g3
 refine VL.q (Q.assign rfl) ?_
 refine VL.nil ?_
 refine VE.seq ?_
 refine VC.seq ?_
 refine VC.region ?_
 refine VL.q (Q.fieldAddr fa97_1 rfl) ?_
 refine VL.q (Q.load1 ty3 rfl zM rfl) ?_
 refine VL.q (Q.fieldAddr fa97_2 rfl) ?_
 refine VL.q (Q.load1 ty3 rfl zM rfl) ?_
 refine VL.q (Q.lt rfl rfl) ?_
 refine VL.q (Q.move rfl) ?_
 refine VK.case 10 rfl ?_ ?_
 ·
  intro h10
  refine VL.yes rfl rfl ?_
  refine VL.q (Q.fieldAddr fa97_1 rfl) ?_
  refine VL.yes rfl rfl ?_
  refine VL.q (Q.load1 ty3 rfl zM rfl) ?_
  refine VL.yes rfl rfl ?_
  refine VL.q (Q.fieldAddr fa97_2 rfl) ?_
  refine VL.yes rfl rfl ?_
  refine VL.q (Q.load1 ty3 rfl zM rfl) ?_
  refine VL.yes rfl rfl ?_
  refine VL.q (Q.lt rfl rfl) ?_
  refine VL.q (Q.pick_true rfl rfl) ?_
  refine VL.q (Q.assign rfl) ?_
  refine VL.nil ?_
  refine VE.seq ?_
  refine VC.ret ?_
  refine VE.ret rfl (.tmp rfl .nil) () ?_ ?_ (List.nil_sublist _)
  ·
   trivial
  ·
   first | rfl | exact congrArg Value.bool (decide_eq_false (by have := of_decide_eq_true h10; omega))
 ·
  intro h10
  refine VL.no (by simp) rfl rfl (.inl rfl) ?_
  refine VL.no (by simp) rfl rfl (.inl rfl) ?_
  refine VL.no (by simp) rfl rfl (.inl rfl) ?_
  refine VL.no (by simp) rfl rfl (.inl rfl) ?_
  refine VL.no (by simp) rfl rfl (.inl rfl) ?_
  refine VL.quietE (v' := .bool false) (by decide) (Q.pick_false rfl rfl) (by rfl) ?_
  refine VL.q (Q.assign rfl) ?_
  refine VL.nil ?_
  refine VE.seq ?_
  refine VC.ret ?_
  refine VE.ret rfl (.tmp rfl .nil) () ?_ ?_ (List.nil_sublist _)
  ·
   trivial
  ·
   first | rfl | exact congrArg Value.bool (decide_eq_false (by have := of_decide_eq_true h10; omega))

theorem mtwice_c (a b : Sd) (gq : Nat) (h : a.n ≠ b.n) :
  Does Tryz.prog 145 [.agg #[.int .i64 (a.n : Int), .int .i64 a.s, .int .i64 a.e, .int .i64 a.need], .pointer (some ⟨gq, 0, none⟩)] [] (fun W => W.cell? ⟨gq, 0, none⟩ = some (.int .i64 (b.n : Int))) (X := Unit) (fun _ => True) (fun _ => .bool false) (fun _ => []) := by
 refine Does.enter Tryz.func145 rfl (m := 14) rfl (by simp) ?_
 intro W0 hro
 refine VC.seq ?_
 refine VC.region ?_
 refine VL.eff (O.box rfl rfl (by decide) ?_)
 intro g2
 refine VL.q (Q.assign rfl) ?_
 refine VL.nil ?_
 refine VE.seq ?_
 refine VC.seq ?_
 refine VC.region ?_
 refine VL.q (Q.fieldAddr fa97_0 rfl) ?_
 refine VL.q (Q.load1 ty3 rfl zM rfl) ?_
 refine VL.q (Q.fieldAddr fa97_0 rfl) ?_
 refine VL.q (Q.load0 (v := .int .i64 (b.n : Int)) ty3 rfl hro (by simp)) ?_
 refine VL.quietE (v' := .bool false) (by decide) (Q.eq rfl rfl) (congrArg Value.bool (by simp; omega)) ?_
 refine VL.q (Q.move rfl) ?_
 refine VL.no (by simp) rfl rfl (.inl rfl) ?_
 refine VL.no (by simp) rfl rfl (.inl rfl) ?_
 refine VL.no (by simp) rfl rfl (.inl rfl) ?_
 refine VL.quietE (v' := .bool false) (by decide) (Q.pick_false rfl rfl) (by rfl) ?_
 refine VL.q (Q.assign rfl) ?_
 refine VL.nil ?_
 refine VE.seq ?_
 refine VC.ret ?_
 refine VE.ret rfl (.tmp rfl .nil) () ?_ ?_ (List.nil_sublist _)
 ·
  trivial
 ·
  first | rfl | (exfalso; simp at *; omega)

theorem before_ne {n : Nat} {ls : List Sd} (h : SdsOk n ls) {k : Nat} (hk : k < ls.length) (q : Sd) (hq : q ∈ ls.take k) : q.n ≠ ls[k].n := by
  obtain ⟨i, hi, rfl⟩ := List.getElem_of_mem hq
  rw [List.length_take] at hi
  rw [List.getElem_take]
  exact (h.apart i k (by omega) hk (by omega)).1
theorem fm_take {α : Type} {f : α → List Value} {s : Nat} (hf : ∀ x, (f x).length = s) (l : List α) (k : Nat) (h : k ≤ l.length) : (l.flatMap f).take (k * s) = (l.take k).flatMap f := by
  conv => lhs; rw [← List.take_append_drop k l, List.flatMap_append]
  exact List.take_left' (fm_take_len hf l k h)

theorem mcheck_c (pr : Option Addr) (cr : Nat) (rs : List Ra) (ps : Option Addr) (cs : Nat) (sh : List Row) (hw : AirOk rs (sdOf sh)) (p : Option Addr) (n c : Nat) (ls : List Sd) (hl : ls.length = n) (hc : n ≤ c) (hs : SdsOk rs.length ls) :
  Does Tryz.prog 66 [.agg #[.slice pr rs.length cr, .slice ps sh.length cs], .slice p n c] [] (fun W => RdW W pr rs ps sh ∧ Rd W p (ls.flatMap sdC)) (X := Unit) (fun _ => True) (fun _ => .int .i64 0) (fun _ => []) := by
 subst hl
 have hm := hs.most
 refine Does.enter Tryz.func66 rfl (m := 69) rfl (by simp) ?_
 intro W0 hro
 refine VC.seq ?_
 refine VC.region ?_
 refine VL.eff (O.box rfl rfl (by decide) ?_)
 intro g2
 refine VL.q (Q.assign rfl) ?_
 refine VL.nil ?_
 refine VE.seq ?_
 refine VC.seq ?_
 refine VC.seq ?_
 refine VC.region ?_
 refine VL.q (Q.loadA ty68 rfl zM zS) ?_
 refine VL.eff (O.call0 ok17 rfl rfl (by decide) (rcheck_c pr cr rs ps cs sh hw) (fun _ ho _ => hro.1.only0 ho) ?_)
 intro x10 y10
 refine VL.q (Q.assign rfl) ?_
 refine VL.nil ?_
 refine VE.seq ?_
 refine VC.seq ?_
 refine VC.region ?_
 refine VL.q (Q.move rfl) ?_
 refine VL.quietE (v' := .bool false) (by decide) (Q.ne rfl rfl) (by rfl) ?_
 refine VL.nil ?_
 refine VE.seq ?_
 refine VC.condF rfl ?_
 refine VC.skip ?_
 refine VE.seq ?_
 refine VC.seq ?_
 refine VC.seq ?_
 refine VC.region ?_
 refine VL.q (Q.move rfl) ?_
 refine VL.q (Q.len sl88 rfl) ?_
 refine VL.quietE (v' := .bool false) (by decide) (Q.gt rfl rfl) (congrArg Value.bool (decide_eq_false (by omega))) ?_
 refine VL.nil ?_
 refine VE.seq ?_
 refine VC.condF rfl ?_
 refine VC.skip ?_
 refine VE.seq ?_
 refine VC.seq ?_
 refine VC.seq ?_
 refine VC.region ?_
 refine VL.q (Q.move rfl) ?_
 refine VL.q (Q.len sl88 rfl) ?_
 refine VL.q (Q.move rfl) ?_
 refine VL.nil ?_
 refine VE.seq ?_
 refine VC.block ?_
 refine VC.loop (X := Nat) (fun k => [(1, .slice p ls.length c), (2, .pointer (some ⟨g2, 0, none⟩)), (17, .slice p ls.length c), (18, .int .i64 (ls.length : Int)), (19, .int .i64 (k : Int))]) (fun k => [.blk g2 [.slice pr rs.length cr, .slice ps sh.length cs] 68]) (fun k => k ≤ ls.length) (fun k => ls.length - k) 0 (Nat.zero_le _) ?_ ?_
 ·
  exact VS.mk zE (List.Sublist.refl _)
 ·
  intro k hk
  refine VC.seq ?_
  refine VC.region ?_
  refine VL.q (Q.lt rfl rfl) ?_
  refine VL.nil ?_
  refine VE.seq ?_
  refine VC.seq ?_
  refine VC.cond rfl ?_ ?_
  ·
   intro h20
   have hlt : k < ls.length := by have := of_decide_eq_true h20; omega
   obtain ⟨b3, o3, rfl⟩ := hro.2.pos (by rw [fm_length sdC_len]; omega)
   have t1 := hs.node _ (List.getElem_mem hlt)
   have t2 := hs.time _ (List.getElem_mem hlt)
   have t3 := hs.need _ (List.getElem_mem hlt)
   refine VC.skip ?_
   refine VE.seq ?_
   refine VC.seq ?_
   refine VC.block ?_
   refine VC.seq ?_
   refine VC.region ?_
   refine VL.q (Q.move rfl) ?_
   refine VL.q (Q.indexAddr sl88 (j := k) rfl rfl rfl hlt) ?_
   refine VL.q (Q.load0A (xs := sdC ls[k]) ty97 rfl (Rd.sg hro.2 (fm_seg sdC_len ls k hlt)) (by simp)) ?_
   refine VL.eff (O.alloc zo97 (by decide) ?_)
   intro g7
   refine VL.q (Q.assign rfl) ?_
   refine VL.eff (O.store ty97 rfl rfl rfl rfl zU zP ?_)
   refine VL.nil ?_
   refine VE.seq ?_
   refine VC.seq ?_
   refine VC.seq ?_
   refine VC.region ?_
   refine VL.q (Q.fieldAddr fa97_0 rfl) ?_
   refine VL.q (Q.load1 ty3 rfl zM rfl) ?_
   refine VL.quietE (v' := .bool false) (by decide) (Q.lt rfl rfl) (congrArg Value.bool (decide_eq_false (by omega))) ?_
   refine VL.q (Q.move rfl) ?_
   refine VL.yes rfl rfl ?_
   refine VL.q (Q.fieldAddr fa97_0 rfl) ?_
   refine VL.yes rfl rfl ?_
   refine VL.q (Q.load1 ty3 rfl zM rfl) ?_
   refine VL.yes rfl rfl ?_
   refine VL.q (Q.fieldAddr fa68_0 rfl) ?_
   refine VL.yes rfl rfl ?_
   refine VL.q (Q.load1 ty65 rfl zM rfl) ?_
   refine VL.yes rfl rfl ?_
   refine VL.q (Q.len sl65 rfl) ?_
   refine VL.yes rfl rfl ?_
   refine VL.quietE (v' := .bool false) (by decide) (Q.ge rfl rfl) (congrArg Value.bool (decide_eq_false (by omega))) ?_
   refine VL.quietE (v' := .bool false) (by decide) (Q.pick_false rfl rfl) (by rfl) ?_
   refine VL.q (Q.move rfl) ?_
   refine VL.yes rfl rfl ?_
   refine VL.q (Q.fieldAddr fa97_1 rfl) ?_
   refine VL.yes rfl rfl ?_
   refine VL.q (Q.load1 ty3 rfl zM rfl) ?_
   refine VL.yes rfl rfl ?_
   refine VL.quietE (v' := .bool false) (by decide) (Q.lt rfl rfl) (congrArg Value.bool (decide_eq_false (by omega))) ?_
   refine VL.quietE (v' := .bool false) (by decide) (Q.pick_false rfl rfl) (by rfl) ?_
   refine VL.q (Q.move rfl) ?_
   refine VL.yes rfl rfl ?_
   refine VL.q (Q.fieldAddr fa97_2 rfl) ?_
   refine VL.yes rfl rfl ?_
   refine VL.q (Q.load1 ty3 rfl zM rfl) ?_
   refine VL.yes rfl rfl ?_
   refine VL.q (Q.fieldAddr fa97_1 rfl) ?_
   refine VL.yes rfl rfl ?_
   refine VL.q (Q.load1 ty3 rfl zM rfl) ?_
   refine VL.yes rfl rfl ?_
   refine VL.quietE (v' := .bool false) (by decide) (Q.le rfl rfl) (congrArg Value.bool (decide_eq_false (by omega))) ?_
   refine VL.quietE (v' := .bool false) (by decide) (Q.pick_false rfl rfl) (by rfl) ?_
   refine VL.q (Q.move rfl) ?_
   refine VL.yes rfl rfl ?_
   refine VL.q (Q.fieldAddr fa97_2 rfl) ?_
   refine VL.yes rfl rfl ?_
   refine VL.q (Q.load1 ty3 rfl zM rfl) ?_
   refine VL.yes rfl rfl ?_
   refine VL.quietE (v' := .bool false) (by decide) (Q.gt rfl rfl) (congrArg Value.bool (decide_eq_false (by omega))) ?_
   refine VL.quietE (v' := .bool false) (by decide) (Q.pick_false rfl rfl) (by rfl) ?_
   refine VL.q (Q.move rfl) ?_
   refine VL.yes rfl rfl ?_
   refine VL.q (Q.fieldAddr fa97_3 rfl) ?_
   refine VL.yes rfl rfl ?_
   refine VL.q (Q.load1 ty3 rfl zM rfl) ?_
   refine VL.yes rfl rfl ?_
   refine VL.quietE (v' := .bool false) (by decide) (Q.lt rfl rfl) (congrArg Value.bool (decide_eq_false (by omega))) ?_
   refine VL.quietE (v' := .bool false) (by decide) (Q.pick_false rfl rfl) (by rfl) ?_
   refine VL.q (Q.move rfl) ?_
   refine VL.yes rfl rfl ?_
   refine VL.q (Q.fieldAddr fa97_3 rfl) ?_
   refine VL.yes rfl rfl ?_
   refine VL.q (Q.load1 ty3 rfl zM rfl) ?_
   refine VL.yes rfl rfl ?_
   refine VL.quietE (v' := .bool false) (by decide) (Q.gt rfl rfl) (congrArg Value.bool (decide_eq_false (by omega))) ?_
   refine VL.quietE (v' := .bool false) (by decide) (Q.pick_false rfl rfl) (by rfl) ?_
   refine VL.nil ?_
   refine VE.seq ?_
   refine VC.condF rfl ?_
   refine VC.skip ?_
   refine VE.seq ?_
   refine VC.seq ?_
   refine VC.region ?_
   refine VL.q (Q.makeFunc rfl rfl) ?_
   refine VL.q (Q.assign rfl) ?_
   refine VL.nil ?_
   refine VE.seq ?_
   refine VC.seq ?_
   refine VC.region ?_
   refine VL.q (Q.move rfl) ?_
   refine VL.q (Q.move rfl) ?_
   refine VL.q (Q.slc0 sl88 (h := k) rfl ⟨_, _, rfl, rfl⟩ (by omega)) ?_
   refine VL.q (Q.move rfl) ?_
   refine VL.eff (O.call0 ok147 rfl rfl (by decide) (has_sd (some ⟨b3, o3, none⟩) k c (ls.take k) (by rw [List.length_take]; omega) (by omega) 145 ok145 [.pointer (some ⟨g7, 0, none⟩)] (fun _ => false) (fun W => W.cell? ⟨g7, 0, none⟩ = some (.int .i64 (ls[k].n : Int))) (fun _ _ h ho => only_cell ho h (by simp)) (fun q hq => mtwice_c q ls[k] g7 (before_ne hs hlt q hq))) (fun _ ho hW => ⟨by have := (hro.2.only0 ho).take (k * 4); rwa [fm_take sdC_len ls k (by omega)] at this, by rw [own_cell hW zM]; rfl⟩) ?_)
   intro x67 y67
   rw [any_no fun _ _ => rfl]
   refine VL.nil ?_
   refine VE.seq ?_
   refine VC.condF rfl ?_
   refine VC.skip ?_
   refine VE.block_normal ?_
   refine VE.seq ?_
   refine VC.region ?_
   refine VL.q ((by first | exact Q.addI rfl rfl (by omega) (by omega) | exact Q.add rfl rfl)) ?_
   refine VL.q (Q.move rfl) ?_
   refine VL.nil ?_
   refine VE.then_normal ?_
   exact VE.round (k + 1) (by omega) (by omega) zE zB
  ·
   intro h20
   refine VC.exit ?_
   refine VE.then_exit ?_
   refine VE.then_exit ?_
   refine VE.block_here ?_
   refine VE.seq ?_
   refine VC.seq ?_
   refine VC.region ?_
   refine VL.q (Q.assign rfl) ?_
   refine VL.nil ?_
   refine VE.seq ?_
   refine VC.ret ?_
   refine VE.ret rfl (.tmp rfl .nil) () ?_ ?_ (List.nil_sublist _)
   ·
    trivial
   ·
    first | rfl | (exfalso; simp at *; omega)

theorem others_c (p : Option Addr) (n c i : Nat) :
  Does Tryz.prog 149 [.slice p n c, .int .i64 (i : Int)] [] (fun _ => True) (X := Nat × Nat) (fun _ => True) (fun x => .func (.func 199) #[] #[.pointer (some ⟨x.1, 0, none⟩), .pointer (some ⟨x.2, 0, none⟩)]) (fun x => [.blk x.2 [.int .i64 (i : Int)] 3, .blk x.1 [.slice p n c] 88]) := by
 refine Does.enter Tryz.func149 rfl (m := 6) rfl (by simp) ?_
 intro W0 hro
 refine VC.seq ?_
 refine VC.region ?_
 refine VL.eff (O.box rfl rfl (by decide) ?_)
 intro g2
 refine VL.eff (O.box rfl rfl (by decide) ?_)
 intro g3
 refine VL.q (Q.assign rfl) ?_
 refine VL.nil ?_
 refine VE.seq ?_
 refine VC.seq ?_
 refine VC.region ?_
 refine VL.q (Q.makeFunc rfl rfl) ?_
 refine VL.q (Q.assign rfl) ?_
 refine VL.nil ?_
 refine VE.seq ?_
 refine VC.ret ?_
 exact VE.ret rfl (.tmp rfl .nil) (g2, g3) trivial rfl zB

theorem others1_c (Wb : World) (lp : Nat) (r : Loop) (ga gb : Nat) (p : Option Addr) (n c : Nat) (ls : List Sd) (hl : ls.length = n) (hn : n ≤ 9) (i : Nat) (LB : List Rs) (hrd : Rd Wb p (ls.flatMap sdC)) (hfr : ∀ j ∈ (.obj lp (.loop r) :: .blk ga [.slice p n c] 88 :: .blk gb [.int .i64 (i : Int)] 3 :: LB).flatMap Rs.ids, Wb.heap.size ≤ j) (hy : ∀ k (hk : k < ls.length), k ≠ i → YieldsTo Tryz.prog lp [.agg #[.int .i64 (ls[k].n : Int), .int .i64 ls[k].s, .int .i64 ls[k].e, .int .i64 ls[k].need]] (.obj lp (.loop r) :: .blk ga [.slice p n c] 88 :: .blk gb [.int .i64 (i : Int)] 3 :: LB) (fun W => Only [] Wb W) (X := Unit) (fun _ => True) (fun _ => .bool true) (fun _ => (.obj lp (.loop r) :: .blk ga [.slice p n c] 88 :: .blk gb [.int .i64 (i : Int)] 3 :: LB))) :
  Does Tryz.prog 199 [.func (.yield lp) #[] #[], .pointer (some ⟨ga, 0, none⟩), .pointer (some ⟨gb, 0, none⟩)] (.obj lp (.loop r) :: .blk ga [.slice p n c] 88 :: .blk gb [.int .i64 (i : Int)] 3 :: LB) (fun W => Only [] Wb W) (X := Unit) (fun _ => True) (fun _ => .tuple #[]) (fun _ => (.obj lp (.loop r) :: .blk ga [.slice p n c] 88 :: .blk gb [.int .i64 (i : Int)] 3 :: LB)) := by
 subst hl
 refine Does.enter Tryz.func199 rfl (m := 23) rfl (by simp) ?_
 intro W0 hro
 refine VC.seq ?_
 refine VC.region ?_
 refine VL.q (Q.load1 ty88 rfl zM rfl) ?_
 refine VL.q (Q.len sl88 rfl) ?_
 refine VL.q (Q.move rfl) ?_
 refine VL.nil ?_
 refine VE.seq ?_
 refine VC.block ?_
 refine VC.loop (X := Nat) (fun k => [(0, .func (.yield lp) #[] #[]), (2, .pointer (some ⟨gb, 0, none⟩)), (6, .slice p ls.length c), (7, .int .i64 (ls.length : Int)), (8, .int .i64 (k : Int))]) (fun k => (.obj lp (.loop r) :: .blk ga [.slice p ls.length c] 88 :: .blk gb [.int .i64 (i : Int)] 3 :: LB)) (fun k => k ≤ ls.length) (fun k => ls.length - k) 0 (Nat.zero_le _) ?_ ?_
 ·
  exact VS.mk zE (List.Sublist.refl _)
 ·
  intro k hk
  refine VC.seq ?_
  refine VC.region ?_
  refine VL.q (Q.lt rfl rfl) ?_
  refine VL.nil ?_
  refine VE.seq ?_
  refine VC.seq ?_
  refine VC.cond rfl ?_ ?_
  ·
   intro h9
   have hlt : k < ls.length := by have := of_decide_eq_true h9; omega
   obtain ⟨b3, o3, rfl⟩ := hrd.pos (by rw [fm_length sdC_len]; omega)
   refine VC.skip ?_
   refine VE.seq ?_
   refine VC.seq ?_
   refine VC.block ?_
   refine VC.seq ?_
   refine VC.region ?_
   refine VL.q (Q.move rfl) ?_
   refine VL.q (Q.indexAddr sl88 (j := k) rfl rfl rfl hlt) ?_
   refine VL.q (Q.loadBA (xs := sdC ls[k]) hro hfr ty97 rfl (Rd.sg hrd (fm_seg sdC_len ls k hlt))) ?_
   refine VL.eff (O.alloc zo97 (by decide) ?_)
   intro g5
   refine VL.q (Q.assign rfl) ?_
   refine VL.eff (O.store ty97 rfl rfl rfl rfl zU zP ?_)
   refine VL.nil ?_
   refine VE.seq ?_
   refine VC.seq ?_
   refine VC.regionY ?_
   refine VI.op zD (O.quiet (by decide) (Q.move rfl) ?_)
   refine VI.op zD (O.quiet (by decide) (Q.load1 ty3 rfl zM rfl) ?_)
   refine VI.op zD (O.quiet (by decide) (Q.ne rfl rfl) ?_)
   refine VI.op zD (O.quiet (by decide) (Q.move rfl) ?_)
   refine VK.case 16 rfl ?_ ?_
   ·
    intro h16
    have hki : k ≠ i := by intro e; rw [e] at h16; exact absurd h16 (by simp)
    refine VI.yes rfl rfl ?_
    refine VI.op zD (O.quiet (by decide) (Q.move rfl) ?_)
    refine VI.yes rfl rfl ?_
    refine VI.op zD (O.quiet (by decide) (Q.loadA ty97 rfl zM zS) ?_)
    refine VI.yes rfl rfl ?_
    refine VI.yieldF (hy k hlt hki) zM2 (fun _ ho _ => only_base hro ho hfr) rfl rfl (by decide) ?_
    intro x hx
    refine VI.yes rfl rfl ?_
    refine VI.op zD (O.quiet (by decide) (Quiet.to (v' := .bool false) (Q.not rfl) (by rfl)) ?_)
    refine VI.op zD (O.quiet (by decide) (Quiet.to (v' := .bool false) (Q.pick_true rfl rfl) (by rfl)) ?_)
    refine VI.nil ?_
    refine VE.seq ?_
    refine VC.condF rfl ?_
    refine VC.skip ?_
    refine VE.block_normal ?_
    refine VE.seq ?_
    refine VC.region ?_
    refine VL.q ((by first | exact Q.addI rfl rfl (by omega) (by omega) | exact Q.add rfl rfl)) ?_
    refine VL.q (Q.move rfl) ?_
    refine VL.nil ?_
    refine VE.then_normal ?_
    refine VK.picks (Lin := (.obj lp (.loop r) :: .blk ga [.slice (some ⟨b3, o3, none⟩) ls.length c] 88 :: .blk gb [.int .i64 (i : Int)] 3 :: LB)) zM2 ?_
    exact VE.round (k + 1) (by omega) (by omega) zE (List.Sublist.refl _)
   ·
    intro h16
    refine VI.no (by simp) rfl rfl (.inl rfl) ?_
    refine VI.no (by simp) rfl rfl (.inl rfl) ?_
    refine VI.no (by simp) rfl rfl (.inl rfl) ?_
    refine VI.no (by simp) rfl rfl (.inl rfl) ?_
    refine VI.op zD (O.quiet (by decide) (Quiet.to (v' := .bool false) (Q.pick_false rfl rfl) (by rfl)) ?_)
    refine VI.nil ?_
    refine VE.seq ?_
    refine VC.condF rfl ?_
    refine VC.skip ?_
    refine VE.block_normal ?_
    refine VE.seq ?_
    refine VC.region ?_
    refine VL.q ((by first | exact Q.addI rfl rfl (by omega) (by omega) | exact Q.add rfl rfl)) ?_
    refine VL.q (Q.move rfl) ?_
    refine VL.nil ?_
    refine VE.then_normal ?_
    refine VK.picks (Lin := (.obj lp (.loop r) :: .blk ga [.slice (some ⟨b3, o3, none⟩) ls.length c] 88 :: .blk gb [.int .i64 (i : Int)] 3 :: LB)) zM2 ?_
    exact VE.round (k + 1) (by omega) (by omega) zE (List.Sublist.refl _)
  ·
   intro h9
   refine VC.exit ?_
   refine VE.then_exit ?_
   refine VE.then_exit ?_
   refine VE.block_here ?_
   exact VE.end rfl (.nil) () trivial rfl zB

theorem can_round (Wb : World) (ga gb g8 g9 : Nat) (p : Option Addr) (n c i : Nat) (sx q : Sd) (hap : sx.e ≤ q.s ∨ q.e ≤ sx.s) (l : Nat) (r : Loop) (hr : Rec 89 [(8, .pointer (some ⟨g8, 0, none⟩)), (9, .pointer (some ⟨g9, 0, none⟩))] #[49] (rfA (bodyAt Tryz.f67 [1, 1, 1, 1, 0, 1, 0])) (rfB (bodyAt Tryz.f67 [1, 1, 1, 1, 0, 1, 0])) r)  :
  YieldsTo Tryz.prog l [.agg #[.int .i64 (q.n : Int), .int .i64 q.s, .int .i64 q.e, .int .i64 q.need]] (.obj l (.loop r) :: [.blk ga [.slice p n c] 88, .blk gb [.int .i64 (i : Int)] 3, .blk g9 [.int .i64 (sx.n : Int), .int .i64 sx.s, .int .i64 sx.e, .int .i64 sx.need] 97, .blk g8 [.bool false] 4]) (fun W => Only [] Wb W) (X := Unit) (fun _ => True) (fun _ => .bool true) (fun x => .obj l (.loop r) :: [.blk ga [.slice p n c] 88, .blk gb [.int .i64 (i : Int)] 3, .blk g9 [.int .i64 (sx.n : Int), .int .i64 sx.s, .int .i64 sx.e, .int .i64 sx.need] 97, .blk g8 [.bool false] 4]) := by
 refine YieldsTo.of hr (by decide) ?_
 intro W0 hro
 refine VI.region ?_
 refine VI.op zD (O.alloc zo97 (by decide) ?_)
 intro g14
 refine VI.op zD (O.store ty97 rfl rfl rfl rfl zU zP ?_)
 refine VI.nil ?_
 refine VE.begin hr.state zU ?_
 refine VI.block ?_
 refine VI.seq ?_
 refine VI.seq ?_
 refine VI.region ?_
 refine VI.op zD (O.quiet (by decide) (Q.loadA ty97 rfl zM zS) ?_)
 refine VI.op zD (O.quiet (by decide) (Q.loadA ty97 rfl zM zS) ?_)
 refine VI.op zD (O.call0 ok146 rfl rfl (by decide) (overlap_c q sx hap) (fun _ _ _ => trivial) ?_)
 intro x52 y52
 refine VI.op zD (O.quiet (by decide) (Quiet.to (v' := .bool true) (Q.not rfl) (by rfl)) ?_)
 refine VI.nil ?_
 refine VE.then_normal ?_
 refine VI.condT rfl ?_
 refine VI.exit ?_
 refine VE.then_exit ?_
 refine VE.block_here ?_
 refine VK.picks (Lin := [.obj l (.loop { r with state := .busy }), .blk ga [.slice p n c] 88, .blk gb [.int .i64 (i : Int)] 3, .blk g9 [.int .i64 (sx.n : Int), .int .i64 sx.s, .int .i64 sx.e, .int .i64 sx.need] 97, .blk g8 [.bool false] 4]) zM2 ?_
 exact VE.endRound hr.state hr.pending zU () trivial rfl (List.Sublist.refl _)

theorem can_c (pr : Option Addr) (cr : Nat) (rs : List Ra) (ps : Option Addr) (cs : Nat) (sh : List Row) (hw : AirOk rs (sdOf sh)) (p : Option Addr) (n c : Nat) (ls : List Sd) (hl : ls.length = n) (hc : n ≤ c) (hs : SdsOk rs.length ls) (i j : Nat) (hi : i < n) (hj : j < rs.length) :
  Does Tryz.prog 67 [.agg #[.slice pr rs.length cr, .slice ps sh.length cs], .slice p n c, .int .i64 (i : Int), .int .i64 (j : Int)] [] (fun W => RdW W pr rs ps sh ∧ Rd W p (ls.flatMap sdC)) (X := Unit) (fun _ => True) (fun _ => .bool (canB rs (sdOf sh) (ls[i]'(by omega)) j)) (fun _ => []) := by
 have hm := hs.most
 refine Does.enter Tryz.func67 rfl (m := 89) rfl (by simp) ?_
 intro W0 hro
 obtain ⟨b3, o3, rfl⟩ := hro.2.pos (by rw [fm_length sdC_len]; omega)
 have hil : i < ls.length := by omega
 have hin := hs.node _ (List.getElem_mem hil)
 refine VC.seq ?_
 refine VC.region ?_
 refine VL.eff (O.box rfl rfl (by decide) ?_)
 intro g4
 refine VL.eff (O.box rfl rfl (by decide) ?_)
 intro g7
 refine VL.eff (O.alloc zo4 (by decide) ?_)
 intro g8
 refine VL.nil ?_
 refine VE.seq ?_
 refine VC.seq ?_
 refine VC.region ?_
 refine VL.q (Q.move rfl) ?_
 refine VL.q (Q.move rfl) ?_
 refine VL.q (Q.indexAddr sl88 (j := i) rfl rfl rfl (by omega)) ?_
 refine VL.q (Q.load0A (xs := sdC ls[i]) ty97 rfl (Rd.sg hro.2 (fm_seg sdC_len ls i hil)) (by simp)) ?_
 refine VL.eff (O.alloc zo97 (by decide) ?_)
 intro g9
 refine VL.eff (O.store ty97 rfl rfl rfl rfl zU zP ?_)
 refine VL.nil ?_
 refine VE.seq ?_
 refine VC.seq ?_
 refine VC.region ?_
 refine VL.q (Q.loadA ty68 rfl zM zS) ?_
 refine VL.q (Q.fieldAddr fa97_0 rfl) ?_
 refine VL.q (Q.load1 ty3 rfl zM rfl) ?_
 refine VL.q (Q.load1 ty3 rfl zM rfl) ?_
 refine VL.eff (O.call0 ok23 rfl rfl (by decide) (Level_c pr cr rs ps cs sh hw ls[i].n j hin hj) (fun _ ho _ => hro.1.only0 ho) ?_)
 intro x27 y27
 refine VL.q (Q.move rfl) ?_
 refine VL.q (Q.extract rfl rfl) ?_
 refine VL.q (Q.extract rfl rfl) ?_
 refine VL.eff (O.alloc zo3 (by decide) ?_)
 intro g10
 refine VL.eff (O.store ty3 rfl rfl rfl rfl zU zP ?_)
 refine VL.q (Q.assign rfl) ?_
 refine VL.nil ?_
 refine VE.seq ?_
 refine VC.seq ?_
 refine VC.seq ?_
 refine VC.region ?_
 refine VL.q (Q.loadA ty68 rfl zM zS) ?_
 refine VL.q (Q.load1 ty3 rfl zM rfl) ?_
 refine VL.q (Q.fieldAddr fa97_0 rfl) ?_
 refine VL.q (Q.load1 ty3 rfl zM rfl) ?_
 refine VL.eff (O.call0 ok148 rfl rfl (by decide) (Hears_c pr cr rs ps cs sh hw ls[i].n j hin hj) (fun _ ho _ => hro.1.only0 ho) ?_)
 intro x35 y35
 refine VL.q (Q.move rfl) ?_
 refine VL.q (Q.extract rfl rfl) ?_
 refine VL.q (Q.extract rfl rfl) ?_
 refine VL.q (Q.assign rfl) ?_
 refine VL.q (Q.assign rfl) ?_
 refine VL.nil ?_
 refine VE.seq ?_
 refine VC.seq ?_
 refine VC.region ?_
 refine VL.q (Q.move rfl) ?_
 refine VL.q (Q.not rfl) ?_
 refine VL.q (Q.move rfl) ?_
 refine VK.case 40 rfl ?_ ?_
 ·
  intro h40
  refine VL.no (by simp) rfl rfl (.inl rfl) ?_
  refine VL.no (by simp) rfl rfl (.inl rfl) ?_
  refine VL.no (by simp) rfl rfl (.inl rfl) ?_
  refine VL.no (by simp) rfl rfl (.inl rfl) ?_
  refine VL.quietE (v' := .bool true) (by decide) (Q.pick_true rfl rfl) (by rfl) ?_
  refine VL.nil ?_
  refine VE.seq ?_
  refine VC.condT rfl ?_
  refine VC.seq ?_
  refine VK.keep (by exact .cons (i := 1) rfl (.cons (i := 2) rfl (.cons (i := 4) rfl (.cons (i := 7) rfl (.cons (i := 8) rfl (.cons (i := 9) rfl (.cons (i := 10) rfl ( .nil)))))))) ?_
  refine VC.region ?_
  refine VL.eff (O.store ty4 rfl rfl rfl rfl zU zP ?_)
  refine VL.nil ?_
  refine VE.seq ?_
  refine VC.ret ?_
  refine VE.then_ret ?_
  first | exact VE.ret rfl (.cell1 ty4 rfl zM .nil) () trivial (congrArg Value.bool (can_f1 h40)) (List.nil_sublist _) | exact VE.ret rfl (.cell1 ty4 rfl zM .nil) () trivial (congrArg Value.bool (can_f2 h45)) (List.nil_sublist _) | exact VE.ret rfl (.cell1 ty4 rfl zM .nil) () trivial (congrArg Value.bool (can_t h40 h45)) (List.nil_sublist _)
 ·
  intro h40
  refine VL.yes rfl rfl ?_
  refine VL.q (Q.load1 ty3 rfl zM rfl) ?_
  refine VL.yes rfl rfl ?_
  refine VL.q (Q.fieldAddr fa97_3 rfl) ?_
  refine VL.yes rfl rfl ?_
  refine VL.q (Q.load1 ty3 rfl zM rfl) ?_
  refine VL.yes rfl rfl ?_
  refine VL.q (Q.lt rfl rfl) ?_
  refine VL.q (Q.pick_false rfl rfl) ?_
  refine VL.nil ?_
  refine VE.seq ?_
  refine VC.cond rfl ?_ ?_
  ·
   intro h45
   refine VC.seq ?_
   refine VK.keep (by exact .cons (i := 1) rfl (.cons (i := 2) rfl (.cons (i := 4) rfl (.cons (i := 7) rfl (.cons (i := 8) rfl (.cons (i := 9) rfl (.cons (i := 10) rfl ( .nil)))))))) ?_
   refine VC.region ?_
   refine VL.eff (O.store ty4 rfl rfl rfl rfl zU zP ?_)
   refine VL.nil ?_
   refine VE.seq ?_
   refine VC.ret ?_
   refine VE.then_ret ?_
   first | exact VE.ret rfl (.cell1 ty4 rfl zM .nil) () trivial (congrArg Value.bool (can_f1 h40)) (List.nil_sublist _) | exact VE.ret rfl (.cell1 ty4 rfl zM .nil) () trivial (congrArg Value.bool (can_f2 h45)) (List.nil_sublist _) | exact VE.ret rfl (.cell1 ty4 rfl zM .nil) () trivial (congrArg Value.bool (can_t h40 h45)) (List.nil_sublist _)
  ·
   intro h45
   refine VC.skip ?_
   refine VE.seq ?_
   refine VC.seq ?_
   refine VC.seq ?_
   refine VK.keep (by exact .cons (i := 1) rfl (.cons (i := 2) rfl (.cons (i := 4) rfl (.cons (i := 7) rfl (.cons (i := 8) rfl (.cons (i := 9) rfl (.cons (i := 10) rfl ( .nil)))))))) ?_
   refine VC.region ?_
   refine VL.q (Q.move rfl) ?_
   refine VL.q (Q.move rfl) ?_
   refine VL.eff (O.call0 ok149 rfl rfl (by decide) (others_c (some ⟨b3, o3, none⟩) n c i) (fun _ _ _ => trivial) ?_)
   rintro ⟨ga, gb⟩ _
   refine VL.nil ?_
   refine VE.seq ?_
   refine VC.block ?_
   refine VK.picks (Lin := [.blk ga [.slice (some ⟨b3, o3, none⟩) n c] 88, .blk gb [.int .i64 (i : Int)] 3, .blk g9 [.int .i64 (ls[i].n : Int), .int .i64 ls[i].s, .int .i64 ls[i].e, .int .i64 ls[i].need] 97, .blk g8 [.bool false] 4]) zM2 ?_
   refine VK.fresh fun hfr => ?_
   refine VC.rangeFunc (X := Unit) (ψ := fun _ => True) (Lout := fun _ => [.blk ga [.slice (some ⟨b3, o3, none⟩) n c] 88, .blk gb [.int .i64 (i : Int)] 3, .blk g9 [.int .i64 (ls[i].n : Int), .int .i64 ls[i].s, .int .i64 ls[i].e, .int .i64 ls[i].need] 97, .blk g8 [.bool false] 4]) rfl ok199 (fun l r hl' hr => others1_c W0 l r ga gb (some ⟨b3, o3, none⟩) n c ls hl (by omega) i [.blk g9 [.int .i64 (ls[i].n : Int), .int .i64 ls[i].s, .int .i64 ls[i].e, .int .i64 ls[i].need] 97, .blk g8 [.bool false] 4] hro.2 (fresh_cons hl' hfr) (fun k hk hki => can_round W0 ga gb g8 g9 (some ⟨b3, o3, none⟩) n c i ls[i] ls[k] (hs.apart k i hk hil hki).2 l r (hr.sub zE))) (fun _ ho _ => ho) ?_
   intro z hz
   refine VE.block_normal ?_
   refine VE.seq ?_
   refine VC.seq ?_
   refine VC.region ?_
   refine VL.eff (O.store ty4 rfl rfl rfl rfl zU zP ?_)
   refine VL.nil ?_
   refine VE.seq ?_
   refine VC.ret ?_
   first | exact VE.ret rfl (.cell1 ty4 rfl zM .nil) () trivial (congrArg Value.bool (can_f1 h40)) (List.nil_sublist _) | exact VE.ret rfl (.cell1 ty4 rfl zM .nil) () trivial (congrArg Value.bool (can_f2 h45)) (List.nil_sublist _) | exact VE.ret rfl (.cell1 ty4 rfl zM .nil) () trivial (congrArg Value.bool (can_t h40 h45)) (List.nil_sublist _)

end Go.Proofs.YtencghlmckbmlaaGreat
