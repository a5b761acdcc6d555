/- The contracts of package radio: checks; of searches in slices. Conditions: those that each bears. -/
import Derived.Test.YtencghlmckbmlaaGreatRows
import Derived.Test.YtencghlmckbmlaaGreatCel
namespace Go.Proofs.YtencghlmckbmlaaGreat
open Go Go.RowKit Go.Sx
set_option maxRecDepth 100000

theorem fa68_0 : tyField Tryz.prog 68 0 = some 0 := by kernel_rfl
theorem fa68_1 : tyField Tryz.prog 68 1 = some 1 := by kernel_rfl
theorem fa91_0 : tyField Tryz.prog 91 0 = some 0 := by kernel_rfl
theorem fa91_1 : tyField Tryz.prog 91 1 = some 1 := by kernel_rfl
theorem fa91_2 : tyField Tryz.prog 91 2 = some 2 := by kernel_rfl
theorem fa91_3 : tyField Tryz.prog 91 3 = some 3 := by kernel_rfl
theorem ok136 : okFunc Tryz.prog 136 = true := by kernel_rfl
theorem ok137 : okFunc Tryz.prog 137 = true := by kernel_rfl
theorem ok197 : okFunc Tryz.prog 197 = true := by kernel_rfl
theorem ok55 : okFunc Tryz.prog 55 = true := by kernel_rfl
theorem ok56 : okFunc Tryz.prog 56 = true := by kernel_rfl
theorem ok57 : okFunc Tryz.prog 57 = true := by kernel_rfl
theorem ok58 : okFunc Tryz.prog 58 = true := by kernel_rfl
theorem ok59 : okFunc Tryz.prog 59 = true := by kernel_rfl
theorem ok60 : okFunc Tryz.prog 60 = true := by kernel_rfl
theorem sl65 : tySlice Tryz.prog 65 = some (91, 4, 32) := by kernel_rfl
theorem sl66 : tySlice Tryz.prog 66 = some (78, 1, 24) := by kernel_rfl
theorem sl78 : tySlice Tryz.prog 78 = some (3, 1, 8) := by kernel_rfl
theorem sl88 : tySlice Tryz.prog 88 = some (97, 4, 32) := by kernel_rfl
theorem ty3 : tySz Tryz.prog 3 = some (false, 1) := by kernel_rfl
theorem ty65 : tySz Tryz.prog 65 = some (false, 1) := by kernel_rfl
theorem ty66 : tySz Tryz.prog 66 = some (false, 1) := by kernel_rfl
theorem ty78 : tySz Tryz.prog 78 = some (false, 1) := by kernel_rfl
theorem ty91 : tySz Tryz.prog 91 = some (true, 4) := by kernel_rfl
theorem ty97 : tySz Tryz.prog 97 = some (true, 4) := by kernel_rfl

/-- a radio, plain -/
structure Ra where
  x : Int
  y : Int
  p : Int
  c : Int
def raC (r : Ra) : List Value := [.int .i64 r.x, .int .i64 r.y, .int .i64 r.p, .int .i64 r.c]
theorem raC_len (r : Ra) : (raC r).length = 4 := rfl
structure RaOk (r : Ra) : Prop where
  x : -10000 ≤ r.x ∧ r.x ≤ 10000
  y : -10000 ≤ r.y ∧ r.y ≤ 10000
  p : 0 ≤ r.p ∧ r.p ≤ 300
  c : 1 ≤ r.c ∧ r.c ≤ 64
def intC (z : Int) : List Value := [.int .i64 z]
theorem intC_len (z : Int) : (intC z).length = 1 := rfl
/-- a row of numbers: where it lies, the numbers -/
structure Row where
  p : Option Addr
  c : Nat
  d : List Int
def rowC (r : Row) : List Value := [.slice r.p r.d.length r.c]
theorem rowC_len (r : Row) : (rowC r).length = 1 := rfl
def shAt (sd : List (List Int)) (i j : Nat) : Int := (sd.getD i []).getD j 0
structure AirOk (rs : List Ra) (sd : List (List Int)) : Prop where
  n0 : 1 ≤ rs.length
  n9 : rs.length ≤ 9
  ra : ∀ r ∈ rs, RaOk r
  len : sd.length = 0 ∨ sd.length = rs.length
  row : ∀ d ∈ sd, d.length = rs.length
  bd : ∀ d ∈ sd, ∀ z ∈ d, 0 ≤ z ∧ z ≤ 600
  dia : ∀ i, shAt sd i i = 0
  sym : ∀ i j, shAt sd i j = shAt sd j i
abbrev sdOf (sh : List Row) : List (List Int) := sh.map Row.d
theorem AirOk.len' {rs : List Ra} {sh : List Row} (h : AirOk rs (sdOf sh)) : sh.length = 0 ∨ sh.length = rs.length := by simpa using h.len
theorem AirOk.row' {rs : List Ra} {sh : List Row} (h : AirOk rs (sdOf sh)) {k : Nat} (hk : k < sh.length) : sh[k].d.length = rs.length := h.row _ (List.mem_map.2 ⟨_, List.getElem_mem hk, rfl⟩)
theorem AirOk.bd' {rs : List Ra} {sh : List Row} (h : AirOk rs (sdOf sh)) {k : Nat} (hk : k < sh.length) : ∀ z ∈ sh[k].d, 0 ≤ z ∧ z ≤ 600 := h.bd _ (List.mem_map.2 ⟨_, List.getElem_mem hk, rfl⟩)
theorem shAt_get {sh : List Row} {i j : Nat} (hi : i < sh.length) (hj : j < sh[i].d.length) : shAt (sdOf sh) i j = sh[i].d[j] := by
  simp [shAt, List.getD, hi, hj]
theorem shAt_bd {rs : List Ra} {sd : List (List Int)} (h : AirOk rs sd) (i j : Nat) : 0 ≤ shAt sd i j ∧ shAt sd i j ≤ 600 := by
  unfold shAt
  by_cases hi : i < sd.length
  · have e : sd.getD i [] = sd[i] := by simp [List.getD, hi]
    rw [e]
    by_cases hj : j < sd[i].length
    · have e2 : sd[i].getD j 0 = sd[i][j] := by simp [List.getD, hj]
      rw [e2]
      exact h.bd _ (List.getElem_mem hi) _ (List.getElem_mem hj)
    · simp [List.getD, hj]
  · simp [List.getD, hi]
/-- what of a world of radios lies in memory -/
def RdW (W : World) (pr : Option Addr) (rs : List Ra) (ps : Option Addr) (sh : List Row) : Prop := Rd W pr (rs.flatMap raC) ∧ Rd W ps (sh.flatMap rowC) ∧ ∀ r ∈ sh, Rd W r.p (r.d.flatMap intC)
theorem RdW.only0 {W0 W : World} {pr ps : Option Addr} {rs : List Ra} {sh : List Row} (h : RdW W0 pr rs ps sh) (ho : Only [] W0 W) : RdW W pr rs ps sh := ⟨h.1.only0 ho, h.2.1.only0 ho, fun r hr => (h.2.2 r hr).only0 ho⟩
/-- a sending, plain -/
structure Sd where
  n : Nat
  s : Int
  e : Int
  need : Int
def sdC (x : Sd) : List Value := [.int .i64 (x.n : Int), .int .i64 x.s, .int .i64 x.e, .int .i64 x.need]
theorem sdC_len (x : Sd) : (sdC x).length = 4 := rfl
theorem ixf_any {α : Type} {l : List α} {pr : α → Bool} {x : Int} (h : IXF l pr x) : decide (0 ≤ x) = l.any pr := by
  rcases h with ⟨rfl, h⟩ | ⟨i, hi, rfl, hp, _⟩
  · rw [show decide ((0 : Int) ≤ -1) = false from rfl]
    symm
    rw [List.any_eq_false]
    intro q hq
    obtain ⟨k, hk, rfl⟩ := List.getElem_of_mem hq
    simp [h k hk]
  · rw [decide_eq_true (by omega)]
    symm
    rw [List.any_eq_true]
    exact ⟨l[i], List.getElem_mem hi, hp⟩
theorem any_no {α : Type} {l : List α} {pr : α → Bool} (h : ∀ q ∈ l, pr q = false) : l.any pr = false := by
  rw [List.any_eq_false]
  intro q hq
  simp [h q hq]
theorem fm_at {α : Type} {f : α → List Value} (hf : ∀ x, (f x).length = 1) (l : List α) (k : Nat) (h : k < l.length) (v : Value) (hv : f l[k] = [v]) : (l.flatMap f)[k * 1]? = some v := fm_get hf l k h 0 v (by rw [hv]; rfl)

theorem within_c (x lo hi : Int) (h : lo ≤ x ∧ x ≤ hi) :
  Does Tryz.prog 60 [.int .i64 x, .int .i64 lo, .int .i64 hi] [] (fun _ => True) (X := Unit) (fun _ => True) (fun _ => .bool true) (fun _ => []) := by
 refine Does.enter Tryz.func60 rfl (m := 15) rfl (by simp) ?_
 intro W0 hro
 refine VC.seq ?_
 refine VC.region ?_
 refine VL.q (Q.assign rfl) ?_
 refine VL.nil ?_
 refine VE.seq ?_
 refine VC.seq ?_
 refine VC.region ?_
 refine VL.q (Q.move rfl) ?_
 refine VL.q (Q.move rfl) ?_
 refine VL.quietE (v' := .bool true) (by decide) (Q.ge rfl rfl) (congrArg Value.bool (decide_eq_true (by omega))) ?_
 refine VL.q (Q.move rfl) ?_
 refine VL.yes rfl rfl ?_
 refine VL.q (Q.move rfl) ?_
 refine VL.yes rfl rfl ?_
 refine VL.q (Q.move rfl) ?_
 refine VL.yes rfl rfl ?_
 refine VL.quietE (v' := .bool true) (by decide) (Q.le rfl rfl) (congrArg Value.bool (decide_eq_true (by omega))) ?_
 refine VL.quietE (v' := .bool true) (by decide) (Q.pick_true rfl rfl) (by rfl) ?_
 refine VL.q (Q.assign rfl) ?_
 refine VL.nil ?_
 refine VE.seq ?_
 refine VC.ret ?_
 refine VE.ret rfl (.tmp rfl .nil) () ?_ ?_ (List.nil_sublist _)
 ·
  trivial
 ·
  first | rfl | (exfalso; simp at *; omega)

theorem rvalid_c (r : Ra) (hr : RaOk r) :
  Does Tryz.prog 58 [.agg #[.int .i64 r.x, .int .i64 r.y, .int .i64 r.p, .int .i64 r.c]] [] (fun _ => True) (X := Unit) (fun _ => True) (fun _ => .bool true) (fun _ => []) := by
 refine Does.enter Tryz.func58 rfl (m := 21) rfl (by simp) ?_
 intro W0 hro
 refine VC.seq ?_
 refine VC.region ?_
 refine VL.eff (O.box rfl rfl (by decide) ?_)
 intro g1
 refine VL.q (Q.assign rfl) ?_
 refine VL.nil ?_
 refine VE.seq ?_
 refine VC.seq ?_
 refine VC.region ?_
 refine VL.q (Q.fieldAddr fa91_0 rfl) ?_
 refine VL.q (Q.load1 ty3 rfl zM rfl) ?_
 refine VL.eff (O.call0 ok60 rfl rfl (by decide) (within_c _ _ _ hr.x) (fun _ _ _ => trivial) ?_)
 intro x5 y5
 refine VL.q (Q.move rfl) ?_
 refine VL.yes rfl rfl ?_
 refine VL.q (Q.fieldAddr fa91_1 rfl) ?_
 refine VL.yes rfl rfl ?_
 refine VL.q (Q.load1 ty3 rfl zM rfl) ?_
 refine VL.yes rfl rfl ?_
 refine VL.eff (O.call0 ok60 rfl rfl (by decide) (within_c _ _ _ hr.y) (fun _ _ _ => trivial) ?_)
 intro x9 y9
 refine VL.quietE (v' := .bool true) (by decide) (Q.pick_true rfl rfl) (by rfl) ?_
 refine VL.q (Q.move rfl) ?_
 refine VL.yes rfl rfl ?_
 refine VL.q (Q.fieldAddr fa91_2 rfl) ?_
 refine VL.yes rfl rfl ?_
 refine VL.q (Q.load1 ty3 rfl zM rfl) ?_
 refine VL.yes rfl rfl ?_
 refine VL.eff (O.call0 ok60 rfl rfl (by decide) (within_c _ _ _ hr.p) (fun _ _ _ => trivial) ?_)
 intro x14 y14
 refine VL.quietE (v' := .bool true) (by decide) (Q.pick_true rfl rfl) (by rfl) ?_
 refine VL.q (Q.move rfl) ?_
 refine VL.yes rfl rfl ?_
 refine VL.q (Q.fieldAddr fa91_3 rfl) ?_
 refine VL.yes rfl rfl ?_
 refine VL.q (Q.load1 ty3 rfl zM rfl) ?_
 refine VL.yes rfl rfl ?_
 refine VL.eff (O.call0 ok60 rfl rfl (by decide) (within_c _ _ _ hr.c) (fun _ _ _ => trivial) ?_)
 intro x19 y19
 refine VL.quietE (v' := .bool true) (by decide) (Q.pick_true rfl rfl) (by rfl) ?_
 refine VL.q (Q.assign rfl) ?_
 refine VL.nil ?_
 refine VE.seq ?_
 refine VC.ret ?_
 refine VE.ret rfl (.tmp rfl .nil) () ?_ ?_ (List.nil_sublist _)
 ·
  trivial
 ·
  first | rfl | (exfalso; simp at *; omega)

theorem rchk1_c (r : Ra) (hr : RaOk r) :
  Does Tryz.prog 57 [.agg #[.int .i64 r.x, .int .i64 r.y, .int .i64 r.p, .int .i64 r.c]] [] (fun _ => True) (X := Unit) (fun _ => True) (fun _ => .bool false) (fun _ => []) := by
 refine Does.enter Tryz.func57 rfl (m := 6) rfl (by simp) ?_
 intro W0 hro
 refine VC.seq ?_
 refine VC.region ?_
 refine VL.eff (O.box rfl rfl (by decide) ?_)
 intro g1
 refine VL.q (Q.assign rfl) ?_
 refine VL.nil ?_
 refine VE.seq ?_
 refine VC.seq ?_
 refine VC.region ?_
 refine VL.q (Q.loadA ty91 rfl zM zS) ?_
 refine VL.eff (O.call0 ok58 rfl rfl (by decide) (rvalid_c r hr) (fun _ _ _ => trivial) ?_)
 intro x4 y4
 refine VL.quietE (v' := .bool false) (by decide) (Q.not rfl) (by rfl) ?_
 refine VL.q (Q.assign rfl) ?_
 refine VL.nil ?_
 refine VE.seq ?_
 refine VC.ret ?_
 refine VE.ret rfl (.tmp rfl .nil) () ?_ ?_ (List.nil_sublist _)
 ·
  trivial
 ·
  first | rfl | (exfalso; simp at *; omega)

theorem rchk2_c (z : Int) (hz : 0 ≤ z ∧ z ≤ 600) :
  Does Tryz.prog 59 [.int .i64 z] [] (fun _ => True) (X := Unit) (fun _ => True) (fun _ => .bool false) (fun _ => []) := by
 refine Does.enter Tryz.func59 rfl (m := 6) rfl (by simp) ?_
 intro W0 hro
 refine VC.seq ?_
 refine VC.region ?_
 refine VL.q (Q.assign rfl) ?_
 refine VL.nil ?_
 refine VE.seq ?_
 refine VC.seq ?_
 refine VC.region ?_
 refine VL.q (Q.move rfl) ?_
 refine VL.eff (O.call0 ok60 rfl rfl (by decide) (within_c _ _ _ hz) (fun _ _ _ => trivial) ?_)
 intro x4 y4
 refine VL.quietE (v' := .bool false) (by decide) (Q.not rfl) (by rfl) ?_
 refine VL.q (Q.assign rfl) ?_
 refine VL.nil ?_
 refine VE.seq ?_
 refine VC.ret ?_
 refine VE.ret rfl (.tmp rfl .nil) () ?_ ?_ (List.nil_sublist _)
 ·
  trivial
 ·
  first | rfl | (exfalso; simp at *; omega)

theorem idx_int (p : Option Addr) (n c : Nat) (l : List Int) (hl : l.length = n) (hn : n ≤ 100000) (fk : FuncId) (hok : okFunc Tryz.prog fk = true) (capt : List Value) (pr : Int → Bool) (RO1 : World → Prop) (hst : ∀ W W', RO1 W → Only [] W W' → RO1 W') (hc : ∀ q ∈ l, Does Tryz.prog fk ([.int .i64 q] ++ capt) [] RO1 (X := Unit) (fun _ => True) (fun _ => .bool (pr q)) (fun _ => [])) :
  Does Tryz.prog 136 [.slice p n c, .func (.func fk) #[] capt.toArray] [] (fun W => Rd W p (l.flatMap intC) ∧ RO1 W) (X := Int) (fun x => IXF l pr x) (fun x => .int .i64 x) (fun _ => []) := by
 subst hl
 refine Does.enter Tryz.func136 rfl (m := 19) rfl (by simp) ?_
 intro W0 hro
 refine VC.seq ?_
 refine VC.region ?_
 refine VL.q (Q.assign rfl) ?_
 refine VL.nil ?_
 refine VE.seq ?_
 refine VC.seq ?_
 refine VC.seq ?_
 refine VC.region ?_
 refine VL.q (Q.move rfl) ?_
 refine VL.q (Q.len sl78 rfl) ?_
 refine VL.q (Q.move rfl) ?_
 refine VL.nil ?_
 refine VE.seq ?_
 refine VC.block ?_
 refine VC.loop (X := Nat) (fun k => [(0, .slice p l.length c), (1, .func (.func fk) #[] capt.toArray), (7, .int .i64 (l.length : Int)), (8, .int .i64 (k : Int))]) (fun k => []) (fun k => IXB l pr k) (fun k => l.length - k) 0 IXB.zero ?_ ?_
 ·
  exact VS.mk zE (List.Sublist.refl _)
 ·
  intro k hk
  have hkl := hk.1
  refine VC.seq ?_
  refine VC.region ?_
  refine VL.q (Q.lt rfl rfl) ?_
  refine VL.nil ?_
  refine VE.seq ?_
  refine VC.seq ?_
  refine VC.cond rfl ?_ ?_
  ·
   intro h9
   have hlt : k < l.length := by have := of_decide_eq_true h9; omega
   obtain ⟨b0, o0, rfl⟩ := hro.1.pos (by rw [fm_length intC_len]; omega)
   refine VC.skip ?_
   refine VE.seq ?_
   refine VC.seq ?_
   refine VC.block ?_
   refine VC.seq ?_
   refine VC.region ?_
   refine VL.q (Q.move rfl) ?_
   refine VL.q (Q.assign rfl) ?_
   refine VL.nil ?_
   refine VE.seq ?_
   refine VC.seq ?_
   refine VC.region ?_
   refine VL.q (Q.move rfl) ?_
   refine VL.q (Q.move rfl) ?_
   refine VL.q (Q.move rfl) ?_
   refine VL.q (Q.indexAddr sl78 (j := k) rfl rfl rfl hlt) ?_
   refine VL.q (Q.load0 (v := .int .i64 l[k]) ty3 rfl (Rd.at hro.1 (fm_at intC_len l k hlt _ rfl)) (by simp)) ?_
   refine VL.eff (O.callV (first := []) hok rfl rfl (by decide) (hc l[k] (List.getElem_mem hlt)) (fun _ ho _ => hst _ _ hro.2 ho) ?_)
   intro x16 y16
   refine VL.nil ?_
   refine VE.seq ?_
   refine VC.cond rfl ?_ ?_
   ·
    intro h16
    refine VC.seq ?_
    refine VC.region ?_
    refine VL.q (Q.move rfl) ?_
    refine VL.q (Q.assign rfl) ?_
    refine VL.nil ?_
    refine VE.seq ?_
    refine VC.ret ?_
    refine VE.block_ret ?_
    refine VE.then_ret ?_
    refine VE.then_ret ?_
    refine VE.block_ret ?_
    refine VE.then_ret ?_
    exact VE.ret rfl (.tmp rfl .nil) _ (hk.some hlt h16) rfl zB
   ·
    intro h16
    refine VC.skip ?_
    refine VE.block_normal ?_
    refine VE.seq ?_
    refine VC.region ?_
    refine VL.q ((by first | exact Q.addI rfl rfl (by omega) (by omega) | exact Q.add rfl rfl)) ?_
    refine VL.q (Q.move rfl) ?_
    refine VL.nil ?_
    refine VE.then_normal ?_
    exact VE.round (k + 1) (hk.next hlt h16) (by omega) zE (List.Sublist.refl _)
  ·
   intro h9
   have hlt : ¬ k < l.length := by have := of_decide_eq_false h9; omega
   refine VC.exit ?_
   refine VE.then_exit ?_
   refine VE.then_exit ?_
   refine VE.block_here ?_
   refine VE.seq ?_
   refine VC.seq ?_
   refine VC.region ?_
   refine VL.q (Q.assign rfl) ?_
   refine VL.nil ?_
   refine VE.seq ?_
   refine VC.ret ?_
   exact VE.ret rfl (.tmp rfl .nil) _ (hk.none hlt) rfl zB

theorem has_int (p : Option Addr) (n c : Nat) (l : List Int) (hl : l.length = n) (hn : n ≤ 100000) (fk : FuncId) (hok : okFunc Tryz.prog fk = true) (capt : List Value) (pr : Int → Bool) (RO1 : World → Prop) (hst : ∀ W W', RO1 W → Only [] W W' → RO1 W') (hc : ∀ q ∈ l, Does Tryz.prog fk ([.int .i64 q] ++ capt) [] RO1 (X := Unit) (fun _ => True) (fun _ => .bool (pr q)) (fun _ => [])) :
  Does Tryz.prog 55 [.slice p n c, .func (.func fk) #[] capt.toArray] [] (fun W => Rd W p (l.flatMap intC) ∧ RO1 W) (X := Unit) (fun _ => True) (fun _ => .bool (l.any pr)) (fun _ => []) := by
 refine Does.enter Tryz.func55 rfl (m := 9) rfl (by simp) ?_
 intro W0 hro
 refine VC.seq ?_
 refine VC.region ?_
 refine VL.q (Q.assign rfl) ?_
 refine VL.nil ?_
 refine VE.seq ?_
 refine VC.seq ?_
 refine VC.region ?_
 refine VL.q (Q.move rfl) ?_
 refine VL.q (Q.move rfl) ?_
 refine VL.eff (O.call0 ok136 rfl rfl (by decide) (idx_int p n c l hl hn fk hok capt pr RO1 hst hc) (fun _ ho _ => ⟨hro.1.only0 ho, hst _ _ hro.2 ho⟩) ?_)
 intro x7 y7
 refine VL.quietE (v' := .bool (l.any pr)) (by decide) (Q.ge rfl rfl) (congrArg Value.bool (ixf_any y7)) ?_
 refine VL.q (Q.assign rfl) ?_
 refine VL.nil ?_
 refine VE.seq ?_
 refine VC.ret ?_
 refine VE.ret rfl (.tmp rfl .nil) () ?_ ?_ (List.nil_sublist _)
 ·
  trivial
 ·
  first | rfl | (exfalso; simp at *; omega)

theorem idx_radio (p : Option Addr) (n c : Nat) (l : List Ra) (hl : l.length = n) (hn : n ≤ 100000) (fk : FuncId) (hok : okFunc Tryz.prog fk = true) (capt : List Value) (pr : Ra → Bool) (RO1 : World → Prop) (hst : ∀ W W', RO1 W → Only [] W W' → RO1 W') (hc : ∀ q ∈ l, Does Tryz.prog fk ([.agg #[.int .i64 q.x, .int .i64 q.y, .int .i64 q.p, .int .i64 q.c]] ++ capt) [] RO1 (X := Unit) (fun _ => True) (fun _ => .bool (pr q)) (fun _ => [])) :
  Does Tryz.prog 137 [.slice p n c, .func (.func fk) #[] capt.toArray] [] (fun W => Rd W p (l.flatMap raC) ∧ RO1 W) (X := Int) (fun x => IXF l pr x) (fun x => .int .i64 x) (fun _ => []) := by
 subst hl
 refine Does.enter Tryz.func137 rfl (m := 19) rfl (by simp) ?_
 intro W0 hro
 refine VC.seq ?_
 refine VC.region ?_
 refine VL.q (Q.assign rfl) ?_
 refine VL.nil ?_
 refine VE.seq ?_
 refine VC.seq ?_
 refine VC.seq ?_
 refine VC.region ?_
 refine VL.q (Q.move rfl) ?_
 refine VL.q (Q.len sl65 rfl) ?_
 refine VL.q (Q.move rfl) ?_
 refine VL.nil ?_
 refine VE.seq ?_
 refine VC.block ?_
 refine VC.loop (X := Nat) (fun k => [(0, .slice p l.length c), (1, .func (.func fk) #[] capt.toArray), (7, .int .i64 (l.length : Int)), (8, .int .i64 (k : Int))]) (fun k => []) (fun k => IXB l pr k) (fun k => l.length - k) 0 IXB.zero ?_ ?_
 ·
  exact VS.mk zE (List.Sublist.refl _)
 ·
  intro k hk
  have hkl := hk.1
  refine VC.seq ?_
  refine VC.region ?_
  refine VL.q (Q.lt rfl rfl) ?_
  refine VL.nil ?_
  refine VE.seq ?_
  refine VC.seq ?_
  refine VC.cond rfl ?_ ?_
  ·
   intro h9
   have hlt : k < l.length := by have := of_decide_eq_true h9; omega
   obtain ⟨b0, o0, rfl⟩ := hro.1.pos (by rw [fm_length raC_len]; omega)
   refine VC.skip ?_
   refine VE.seq ?_
   refine VC.seq ?_
   refine VC.block ?_
   refine VC.seq ?_
   refine VC.region ?_
   refine VL.q (Q.move rfl) ?_
   refine VL.q (Q.assign rfl) ?_
   refine VL.nil ?_
   refine VE.seq ?_
   refine VC.seq ?_
   refine VC.region ?_
   refine VL.q (Q.move rfl) ?_
   refine VL.q (Q.move rfl) ?_
   refine VL.q (Q.move rfl) ?_
   refine VL.q (Q.indexAddr sl65 (j := k) rfl rfl rfl hlt) ?_
   refine VL.q (Q.load0A (xs := raC l[k]) ty91 rfl (Rd.sg hro.1 (fm_seg raC_len l k hlt)) (by simp)) ?_
   refine VL.eff (O.callV (first := []) hok rfl rfl (by decide) (hc l[k] (List.getElem_mem hlt)) (fun _ ho _ => hst _ _ hro.2 ho) ?_)
   intro x16 y16
   refine VL.nil ?_
   refine VE.seq ?_
   refine VC.cond rfl ?_ ?_
   ·
    intro h16
    refine VC.seq ?_
    refine VC.region ?_
    refine VL.q (Q.move rfl) ?_
    refine VL.q (Q.assign rfl) ?_
    refine VL.nil ?_
    refine VE.seq ?_
    refine VC.ret ?_
    refine VE.block_ret ?_
    refine VE.then_ret ?_
    refine VE.then_ret ?_
    refine VE.block_ret ?_
    refine VE.then_ret ?_
    exact VE.ret rfl (.tmp rfl .nil) _ (hk.some hlt h16) rfl zB
   ·
    intro h16
    refine VC.skip ?_
    refine VE.block_normal ?_
    refine VE.seq ?_
    refine VC.region ?_
    refine VL.q ((by first | exact Q.addI rfl rfl (by omega) (by omega) | exact Q.add rfl rfl)) ?_
    refine VL.q (Q.move rfl) ?_
    refine VL.nil ?_
    refine VE.then_normal ?_
    exact VE.round (k + 1) (hk.next hlt h16) (by omega) zE (List.Sublist.refl _)
  ·
   intro h9
   have hlt : ¬ k < l.length := by have := of_decide_eq_false h9; omega
   refine VC.exit ?_
   refine VE.then_exit ?_
   refine VE.then_exit ?_
   refine VE.block_here ?_
   refine VE.seq ?_
   refine VC.seq ?_
   refine VC.region ?_
   refine VL.q (Q.assign rfl) ?_
   refine VL.nil ?_
   refine VE.seq ?_
   refine VC.ret ?_
   exact VE.ret rfl (.tmp rfl .nil) _ (hk.none hlt) rfl zB

theorem has_radio (p : Option Addr) (n c : Nat) (l : List Ra) (hl : l.length = n) (hn : n ≤ 100000) (fk : FuncId) (hok : okFunc Tryz.prog fk = true) (capt : List Value) (pr : Ra → Bool) (RO1 : World → Prop) (hst : ∀ W W', RO1 W → Only [] W W' → RO1 W') (hc : ∀ q ∈ l, Does Tryz.prog fk ([.agg #[.int .i64 q.x, .int .i64 q.y, .int .i64 q.p, .int .i64 q.c]] ++ capt) [] RO1 (X := Unit) (fun _ => True) (fun _ => .bool (pr q)) (fun _ => [])) :
  Does Tryz.prog 56 [.slice p n c, .func (.func fk) #[] capt.toArray] [] (fun W => Rd W p (l.flatMap raC) ∧ RO1 W) (X := Unit) (fun _ => True) (fun _ => .bool (l.any pr)) (fun _ => []) := by
 refine Does.enter Tryz.func56 rfl (m := 9) rfl (by simp) ?_
 intro W0 hro
 refine VC.seq ?_
 refine VC.region ?_
 refine VL.q (Q.assign rfl) ?_
 refine VL.nil ?_
 refine VE.seq ?_
 refine VC.seq ?_
 refine VC.region ?_
 refine VL.q (Q.move rfl) ?_
 refine VL.q (Q.move rfl) ?_
 refine VL.eff (O.call0 ok137 rfl rfl (by decide) (idx_radio p n c l hl hn fk hok capt pr RO1 hst hc) (fun _ ho _ => ⟨hro.1.only0 ho, hst _ _ hro.2 ho⟩) ?_)
 intro x7 y7
 refine VL.quietE (v' := .bool (l.any pr)) (by decide) (Q.ge rfl rfl) (congrArg Value.bool (ixf_any y7)) ?_
 refine VL.q (Q.assign rfl) ?_
 refine VL.nil ?_
 refine VE.seq ?_
 refine VC.ret ?_
 refine VE.ret rfl (.tmp rfl .nil) () ?_ ?_ (List.nil_sublist _)
 ·
  trivial
 ·
  first | rfl | (exfalso; simp at *; omega)

theorem idx_sd (p : Option Addr) (n c : Nat) (l : List Sd) (hl : l.length = n) (hn : n ≤ 100000) (fk : FuncId) (hok : okFunc Tryz.prog fk = true) (capt : List Value) (pr : Sd → Bool) (RO1 : World → Prop) (hst : ∀ W W', RO1 W → Only [] W W' → RO1 W') (hc : ∀ q ∈ l, Does Tryz.prog fk ([.agg #[.int .i64 (q.n : Int), .int .i64 q.s, .int .i64 q.e, .int .i64 q.need]] ++ capt) [] RO1 (X := Unit) (fun _ => True) (fun _ => .bool (pr q)) (fun _ => [])) :
  Does Tryz.prog 197 [.slice p n c, .func (.func fk) #[] capt.toArray] [] (fun W => Rd W p (l.flatMap sdC) ∧ RO1 W) (X := Int) (fun x => IXF l pr x) (fun x => .int .i64 x) (fun _ => []) := by
 subst hl
 refine Does.enter Tryz.func197 rfl (m := 19) rfl (by simp) ?_
 intro W0 hro
 refine VC.seq ?_
 refine VC.region ?_
 refine VL.q (Q.assign rfl) ?_
 refine VL.nil ?_
 refine VE.seq ?_
 refine VC.seq ?_
 refine VC.seq ?_
 refine VC.region ?_
 refine VL.q (Q.move rfl) ?_
 refine VL.q (Q.len sl88 rfl) ?_
 refine VL.q (Q.move rfl) ?_
 refine VL.nil ?_
 refine VE.seq ?_
 refine VC.block ?_
 refine VC.loop (X := Nat) (fun k => [(0, .slice p l.length c), (1, .func (.func fk) #[] capt.toArray), (7, .int .i64 (l.length : Int)), (8, .int .i64 (k : Int))]) (fun k => []) (fun k => IXB l pr k) (fun k => l.length - k) 0 IXB.zero ?_ ?_
 ·
  exact VS.mk zE (List.Sublist.refl _)
 ·
  intro k hk
  have hkl := hk.1
  refine VC.seq ?_
  refine VC.region ?_
  refine VL.q (Q.lt rfl rfl) ?_
  refine VL.nil ?_
  refine VE.seq ?_
  refine VC.seq ?_
  refine VC.cond rfl ?_ ?_
  ·
   intro h9
   have hlt : k < l.length := by have := of_decide_eq_true h9; omega
   obtain ⟨b0, o0, rfl⟩ := hro.1.pos (by rw [fm_length sdC_len]; omega)
   refine VC.skip ?_
   refine VE.seq ?_
   refine VC.seq ?_
   refine VC.block ?_
   refine VC.seq ?_
   refine VC.region ?_
   refine VL.q (Q.move rfl) ?_
   refine VL.q (Q.assign rfl) ?_
   refine VL.nil ?_
   refine VE.seq ?_
   refine VC.seq ?_
   refine VC.region ?_
   refine VL.q (Q.move rfl) ?_
   refine VL.q (Q.move rfl) ?_
   refine VL.q (Q.move rfl) ?_
   refine VL.q (Q.indexAddr sl88 (j := k) rfl rfl rfl hlt) ?_
   refine VL.q (Q.load0A (xs := sdC l[k]) ty97 rfl (Rd.sg hro.1 (fm_seg sdC_len l k hlt)) (by simp)) ?_
   refine VL.eff (O.callV (first := []) hok rfl rfl (by decide) (hc l[k] (List.getElem_mem hlt)) (fun _ ho _ => hst _ _ hro.2 ho) ?_)
   intro x16 y16
   refine VL.nil ?_
   refine VE.seq ?_
   refine VC.cond rfl ?_ ?_
   ·
    intro h16
    refine VC.seq ?_
    refine VC.region ?_
    refine VL.q (Q.move rfl) ?_
    refine VL.q (Q.assign rfl) ?_
    refine VL.nil ?_
    refine VE.seq ?_
    refine VC.ret ?_
    refine VE.block_ret ?_
    refine VE.then_ret ?_
    refine VE.then_ret ?_
    refine VE.block_ret ?_
    refine VE.then_ret ?_
    exact VE.ret rfl (.tmp rfl .nil) _ (hk.some hlt h16) rfl zB
   ·
    intro h16
    refine VC.skip ?_
    refine VE.block_normal ?_
    refine VE.seq ?_
    refine VC.region ?_
    refine VL.q ((by first | exact Q.addI rfl rfl (by omega) (by omega) | exact Q.add rfl rfl)) ?_
    refine VL.q (Q.move rfl) ?_
    refine VL.nil ?_
    refine VE.then_normal ?_
    exact VE.round (k + 1) (hk.next hlt h16) (by omega) zE (List.Sublist.refl _)
  ·
   intro h9
   have hlt : ¬ k < l.length := by have := of_decide_eq_false h9; omega
   refine VC.exit ?_
   refine VE.then_exit ?_
   refine VE.then_exit ?_
   refine VE.block_here ?_
   refine VE.seq ?_
   refine VC.seq ?_
   refine VC.region ?_
   refine VL.q (Q.assign rfl) ?_
   refine VL.nil ?_
   refine VE.seq ?_
   refine VC.ret ?_
   exact VE.ret rfl (.tmp rfl .nil) _ (hk.none hlt) rfl zB

theorem has_sd (p : Option Addr) (n c : Nat) (l : List Sd) (hl : l.length = n) (hn : n ≤ 100000) (fk : FuncId) (hok : okFunc Tryz.prog fk = true) (capt : List Value) (pr : Sd → Bool) (RO1 : World → Prop) (hst : ∀ W W', RO1 W → Only [] W W' → RO1 W') (hc : ∀ q ∈ l, Does Tryz.prog fk ([.agg #[.int .i64 (q.n : Int), .int .i64 q.s, .int .i64 q.e, .int .i64 q.need]] ++ capt) [] RO1 (X := Unit) (fun _ => True) (fun _ => .bool (pr q)) (fun _ => [])) :
  Does Tryz.prog 147 [.slice p n c, .func (.func fk) #[] capt.toArray] [] (fun W => Rd W p (l.flatMap sdC) ∧ RO1 W) (X := Unit) (fun _ => True) (fun _ => .bool (l.any pr)) (fun _ => []) := by
 refine Does.enter Tryz.func147 rfl (m := 9) rfl (by simp) ?_
 intro W0 hro
 refine VC.seq ?_
 refine VC.region ?_
 refine VL.q (Q.assign rfl) ?_
 refine VL.nil ?_
 refine VE.seq ?_
 refine VC.seq ?_
 refine VC.region ?_
 refine VL.q (Q.move rfl) ?_
 refine VL.q (Q.move rfl) ?_
 refine VL.eff (O.call0 ok197 rfl rfl (by decide) (idx_sd p n c l hl hn fk hok capt pr RO1 hst hc) (fun _ ho _ => ⟨hro.1.only0 ho, hst _ _ hro.2 ho⟩) ?_)
 intro x7 y7
 refine VL.quietE (v' := .bool (l.any pr)) (by decide) (Q.ge rfl rfl) (congrArg Value.bool (ixf_any y7)) ?_
 refine VL.q (Q.assign rfl) ?_
 refine VL.nil ?_
 refine VE.seq ?_
 refine VC.ret ?_
 refine VE.ret rfl (.tmp rfl .nil) () ?_ ?_ (List.nil_sublist _)
 ·
  trivial
 ·
  first | rfl | (exfalso; simp at *; omega)

theorem rcheck_c (pr : Option Addr) (cr : Nat) (rs : List Ra) (ps : Option Addr) (cs : Nat) (sh : List Row) (hw : AirOk rs (sdOf sh)) :
  Does Tryz.prog 17 [.agg #[.slice pr rs.length cr, .slice ps sh.length cs]] [] (fun W => RdW W pr rs ps sh) (X := Unit) (fun _ => True) (fun _ => .int .i64 0) (fun _ => []) := by
 have hn0 := hw.n0
 have hn9 := hw.n9
 have hlen := hw.len'
 refine Does.enter Tryz.func17 rfl (m := 57) rfl (by simp) ?_
 intro W0 hro
 refine VC.seq ?_
 refine VC.region ?_
 refine VL.eff (O.box rfl rfl (by decide) ?_)
 intro g1
 refine VL.q (Q.assign rfl) ?_
 refine VL.nil ?_
 refine VE.seq ?_
 refine VC.seq ?_
 refine VC.region ?_
 refine VL.q (Q.fieldAddr fa68_0 rfl) ?_
 refine VL.q (Q.load1 ty65 rfl zM rfl) ?_
 refine VL.q (Q.len sl65 rfl) ?_
 refine VL.q (Q.assign rfl) ?_
 refine VL.nil ?_
 refine VE.seq ?_
 refine VC.seq ?_
 refine VC.seq ?_
 refine VC.region ?_
 refine VL.q (Q.move rfl) ?_
 refine VL.quietE (v' := .bool false) (by decide) (Q.lt rfl rfl) (congrArg Value.bool (decide_eq_false (by omega))) ?_
 refine VL.q (Q.move rfl) ?_
 refine VL.yes rfl rfl ?_
 refine VL.q (Q.move rfl) ?_
 refine VL.yes rfl rfl ?_
 refine VL.quietE (v' := .bool false) (by decide) (Q.gt rfl rfl) (congrArg Value.bool (decide_eq_false (by omega))) ?_
 refine VL.quietE (v' := .bool false) (by decide) (Q.pick_false rfl rfl) (by rfl) ?_
 refine VL.q (Q.move rfl) ?_
 refine VL.yes rfl rfl ?_
 refine VL.q (Q.fieldAddr fa68_1 rfl) ?_
 refine VL.yes rfl rfl ?_
 refine VL.q (Q.load1 ty66 rfl zM rfl) ?_
 refine VL.yes rfl rfl ?_
 refine VL.q (Q.len sl66 rfl) ?_
 refine VL.yes rfl rfl ?_
 refine VL.q (Q.ne rfl rfl) ?_
 refine VL.joinB 7 27 (false) ?_ ?_
 ·
  refine VL.yes rfl rfl ?_
  refine VL.q (Q.move rfl) ?_
  refine VK.case 21 rfl ?_ ?_
  ·
   intro h21
   refine VL.yes rfl rfl ?_
   refine VL.q (Q.fieldAddr fa68_1 rfl) ?_
   refine VL.yes rfl rfl ?_
   refine VL.q (Q.load1 ty66 rfl zM rfl) ?_
   refine VL.yes rfl rfl ?_
   refine VL.q (Q.len sl66 rfl) ?_
   refine VL.yes rfl rfl ?_
   refine VL.q (Q.move rfl) ?_
   refine VL.yes rfl rfl ?_
   refine VL.q (Q.ne rfl rfl) ?_
   refine VL.yes rfl rfl ?_
   refine VL.q (Q.pick_true rfl rfl) ?_
   refine VL.nil ?_
   exact VE.joinB rfl (by simp_all) (by repeat (first | exact Grow.refl | apply Grow.cons rfl))
  ·
   intro h21
   refine VL.no (by simp) rfl rfl (.inl rfl) ?_
   refine VL.no (by simp) rfl rfl (.inl rfl) ?_
   refine VL.no (by simp) rfl rfl (.inl rfl) ?_
   refine VL.no (by simp) rfl rfl (.inl rfl) ?_
   refine VL.no (by simp) rfl rfl (.inl rfl) ?_
   refine VL.yes rfl rfl ?_
   refine VL.quietE (v' := .bool false) (by decide) (Q.pick_false rfl rfl) (by rfl) ?_
   refine VL.nil ?_
   exact VE.joinB rfl (by simp_all) (by repeat (first | exact Grow.refl | apply Grow.cons rfl))
 ·
  refine VL.quietE (v' := .bool false) (by decide) (Q.pick_false rfl rfl) (by rfl) ?_
  refine VL.nil ?_
  refine VE.seq ?_
  refine VC.condF rfl ?_
  refine VC.skip ?_
  refine VE.seq ?_
  refine VC.seq ?_
  refine VC.seq ?_
  refine VC.region ?_
  refine VL.q (Q.fieldAddr fa68_0 rfl) ?_
  refine VL.q (Q.load1 ty65 rfl zM rfl) ?_
  refine VL.eff (O.call0 ok56 rfl rfl (by decide) (has_radio pr rs.length cr rs rfl (by omega) 57 ok57 [] (fun _ => false) (fun _ => True) (fun _ _ _ _ => trivial) (fun q hq => rchk1_c q (hw.ra q hq))) (fun _ ho _ => ⟨hro.1.only0 ho, trivial⟩) ?_)
  intro x31 y31
  rw [any_no fun _ _ => rfl]
  refine VL.nil ?_
  refine VE.seq ?_
  refine VC.condF rfl ?_
  refine VC.skip ?_
  refine VE.seq ?_
  refine VC.seq ?_
  refine VC.seq ?_
  refine VC.region ?_
  refine VL.q (Q.fieldAddr fa68_1 rfl) ?_
  refine VL.q (Q.load1 ty66 rfl zM rfl) ?_
  refine VL.q (Q.len sl66 rfl) ?_
  refine VL.q (Q.move rfl) ?_
  refine VL.nil ?_
  refine VE.seq ?_
  refine VC.block ?_
  refine VC.loop (X := Nat) (fun k => [(1, .pointer (some ⟨g1, 0, none⟩)), (3, .int .i64 (rs.length : Int)), (33, .slice ps sh.length cs), (34, .int .i64 (sh.length : Int)), (35, .int .i64 (k : Int))]) (fun k => [.blk g1 [.slice pr rs.length cr, .slice ps sh.length cs] 68]) (fun k => k ≤ sh.length) (fun k => sh.length - k) 0 (Nat.zero_le _) ?_ ?_
  ·
   exact VS.mk zE (List.Sublist.refl _)
  ·
   intro k hk
   refine VC.seq ?_
   refine VC.region ?_
   refine VL.q (Q.lt rfl rfl) ?_
   refine VL.nil ?_
   refine VE.seq ?_
   refine VC.seq ?_
   refine VC.cond rfl ?_ ?_
   ·
    intro h36
    have hlt : k < sh.length := by have := of_decide_eq_true h36; omega
    have hrl := hw.row' hlt
    have hrr := hro.2.2 _ (List.getElem_mem hlt)
    have hdia := hw.dia k
    rw [shAt_get hlt (by omega)] at hdia
    obtain ⟨b1, o1, rfl⟩ := hro.2.1.pos (by rw [fm_length rowC_len]; omega)
    obtain ⟨b2, o2, hrp⟩ := hrr.pos (by rw [fm_length intC_len]; omega)
    rw [hrp] at hrr
    refine VC.skip ?_
    refine VE.seq ?_
    refine VC.seq ?_
    refine VC.block ?_
    refine VC.seq ?_
    refine VC.region ?_
    refine VL.q (Q.move rfl) ?_
    refine VL.q (Q.indexAddr sl66 (j := k) rfl rfl rfl hlt) ?_
    refine VL.q (Q.load0 (v := .slice (some ⟨b2, o2, none⟩) sh[k].d.length sh[k].c) ty78 rfl (Rd.at hro.2.1 (fm_at rowC_len sh k hlt _ (by rw [rowC, hrp]))) (by simp)) ?_
    refine VL.q (Q.assign rfl) ?_
    refine VL.q (Q.assign rfl) ?_
    refine VL.nil ?_
    refine VE.seq ?_
    refine VC.seq ?_
    refine VC.region ?_
    refine VL.q (Q.assign rfl) ?_
    refine VL.nil ?_
    refine VE.seq ?_
    refine VC.seq ?_
    refine VC.region ?_
    refine VL.q (Q.move rfl) ?_
    refine VL.q (Q.len sl78 rfl) ?_
    refine VL.q (Q.move rfl) ?_
    refine VL.quietE (v' := .bool false) (by decide) (Q.ne rfl rfl) (congrArg Value.bool (by simp; omega)) ?_
    refine VL.q (Q.move rfl) ?_
    refine VL.yes rfl rfl ?_
    refine VL.q (Q.move rfl) ?_
    refine VL.yes rfl rfl ?_
    refine VL.q (Q.move rfl) ?_
    refine VL.yes rfl rfl ?_
    refine VL.q (Q.indexAddr sl78 (j := k) rfl rfl rfl (by omega)) ?_
    refine VL.yes rfl rfl ?_
    refine VL.q (Q.load0 (v := .int .i64 0) ty3 rfl (Rd.at hrr (fm_at intC_len sh[k].d k (by omega) _ (by rw [hdia]; rfl))) (by simp)) ?_
    refine VL.yes rfl rfl ?_
    refine VL.quietE (v' := .bool false) (by decide) (Q.ne rfl rfl) (by rfl) ?_
    refine VL.quietE (v' := .bool false) (by decide) (Q.pick_false rfl rfl) (by rfl) ?_
    refine VL.q (Q.move rfl) ?_
    refine VL.yes rfl rfl ?_
    refine VL.q (Q.move rfl) ?_
    refine VL.yes rfl rfl ?_
    refine VL.q (Q.move rfl) ?_
    refine VL.yes rfl rfl ?_
    refine VL.eff (O.call0 ok55 rfl rfl (by decide) (has_int (some ⟨b2, o2, none⟩) sh[k].d.length sh[k].c sh[k].d rfl (by omega) 59 ok59 [] (fun _ => false) (fun _ => True) (fun _ _ _ _ => trivial) (fun q hq => rchk2_c q (hw.bd' hlt q hq))) (fun _ ho _ => ⟨hrr.only0 ho, trivial⟩) ?_)
    intro x54 y54
    rw [any_no fun _ _ => rfl]
    refine VL.quietE (v' := .bool false) (by decide) (Q.pick_false rfl rfl) (by rfl) ?_
    refine VL.nil ?_
    refine VE.seq ?_
    refine VC.condF rfl ?_
    refine VC.skip ?_
    refine VE.block_normal ?_
    refine VE.seq ?_
    refine VC.region ?_
    refine VL.q ((by first | exact Q.addI rfl rfl (by omega) (by omega) | exact Q.add rfl rfl)) ?_
    refine VL.q (Q.move rfl) ?_
    refine VL.nil ?_
    refine VE.then_normal ?_
    exact VE.round (k + 1) (by omega) (by omega) zE (List.Sublist.refl _)
   ·
    intro h36
    refine VC.exit ?_
    refine VE.then_exit ?_
    refine VE.then_exit ?_
    refine VE.block_here ?_
    refine VE.seq ?_
    refine VC.seq ?_
    refine VC.region ?_
    refine VL.q (Q.assign rfl) ?_
    refine VL.nil ?_
    refine VE.seq ?_
    refine VC.ret ?_
    refine VE.ret rfl (.tmp rfl .nil) () ?_ ?_ (List.nil_sublist _)
    ·
     trivial
    ·
     first | rfl | (exfalso; simp at *; omega)

end Go.Proofs.YtencghlmckbmlaaGreat
