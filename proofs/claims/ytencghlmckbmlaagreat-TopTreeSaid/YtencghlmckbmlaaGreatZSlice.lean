/- The contracts of comparing addresses and of the generic functions of package slices. Conditions: those that each bears. -/
import Derived.Test.YtencghlmckbmlaaGreatRows
import Derived.Test.YtencghlmckbmlaaGreatZOctet
import Derived.Test.YtencghlmckbmlaaGreatCells
namespace Go.Proofs.YtencghlmckbmlaaGreat
open Go Go.RowKit Go.Sx
set_option maxRecDepth 100000

theorem fa151_0 : tyField Tryz.prog 151 0 = some 0 := by kernel_rfl
theorem fa252_0 : tyField Tryz.prog 252 0 = some 0 := by kernel_rfl
theorem ok135 : okFunc Tryz.prog 135 = true := by kernel_rfl
theorem ok161 : okFunc Tryz.prog 161 = true := by kernel_rfl
theorem ok177 : okFunc Tryz.prog 177 = true := by kernel_rfl
theorem ok182 : okFunc Tryz.prog 182 = true := by kernel_rfl
theorem sl47 : tySlice Tryz.prog 47 = some (151, 17, 56) := by kernel_rfl
theorem sl48 : tySlice Tryz.prog 48 = some (306, 13, 24) := by kernel_rfl
theorem sl52 : tySlice Tryz.prog 52 = some (258, 7, 16) := by kernel_rfl
theorem sl53 : tySlice Tryz.prog 53 = some (252, 12, 12) := by kernel_rfl
theorem ti191 : tyInt Tryz.prog 191 = some .u64 := by kernel_rfl
theorem ty151 : tySz Tryz.prog 151 = some (true, 17) := by kernel_rfl
theorem ty252 : tySz Tryz.prog 252 = some (true, 12) := by kernel_rfl
theorem ze151 : (Tryz.prog.info? 151).bind (·.zero) = some (.agg #[.int .u8 0, .int .u8 0, .int .u8 0, .int .u8 0, .int .u8 0, .int .u8 0, .int .u8 0, .int .u8 0, .int .u8 0, .int .u8 0, .int .u8 0, .int .u8 0, .int .i64 0, .int .i64 0, .int .i64 0, .bool false, .int .i64 0]) := by kernel_rfl
theorem ze252 : (Tryz.prog.info? 252).bind (·.zero) = some (.agg #[.int .u8 0, .int .u8 0, .int .u8 0, .int .u8 0, .int .u8 0, .int .u8 0, .int .u8 0, .int .u8 0, .int .u8 0, .int .u8 0, .int .u8 0, .int .u8 0]) := by kernel_rfl
theorem ze258 : (Tryz.prog.info? 258).bind (·.zero) = some (.agg #[.int .u8 0, .int .u8 0, .int .u8 0, .int .u8 0, .int .u8 0, .int .u8 0, .int .i64 0]) := by kernel_rfl
theorem ze306 : (Tryz.prog.info? 306).bind (·.zero) = some (.agg #[.int .u8 0, .int .u8 0, .int .u8 0, .int .u8 0, .int .u8 0, .int .u8 0, .int .u8 0, .int .u8 0, .int .u8 0, .int .u8 0, .int .u8 0, .int .u8 0, .int .i64 0]) := by kernel_rfl

open Go.Mesh
theorem ext_compare (args : Array Value) (W : World) : (callFunc 208 args).run Tryz.prog W = ((Extern.BytealgCompare.compare args).run Tryz.prog W).andThen fun v w' => .ok (.value v) w' :=
  run_callFunc_extern Tryz.func208 (by kernel_rfl) (by kernel_rfl) (by kernel_rfl) (e := Extern.BytealgCompare.compare) (by kernel_rfl) args W

theorem bcompare_c (g g2 a b : Nat) (ha : a ≤ 255) (hb : b ≤ 255) :
  Does Tryz.prog 161 [.slice (some ⟨g, 0, none⟩) 6 6, .slice (some ⟨g2, 0, none⟩) 6 6] [] (fun W => Rd W (some ⟨g, 0, none⟩) (nodeC a) ∧ Rd W (some ⟨g2, 0, none⟩) (nodeC b)) (X := Unit) (fun _ => True) (fun _ => .int .i64 (cmpN a b)) (fun _ => []) := by
 refine Does.enter Tryz.func161 rfl (m := 8) rfl (by simp) ?_
 intro W0 hro
 refine VC.seq ?_
 refine VC.region ?_
 refine VL.q (Q.assign rfl) ?_
 refine VL.nil ?_
 refine VE.seq ?_
 refine VC.seq ?_
 refine VC.region ?_
 refine VL.q (Q.move rfl) ?_
 refine VL.q (Q.move rfl) ?_
 refine VL.q (Q.ext (v := .int .i64 (cmpN a b)) rfl rfl (fun W ho _ => by
  have h1 := hro.1.only0 ho
  have h2 := hro.2.only0 ho
  rw [← nodeB_bs a ha] at h1
  rw [← nodeB_bs b hb] at h2
  have h3 := run_compare (P := Tryz.prog) (nodeB a) (nodeB b) g 0 g2 0 6 6 h1 h2
  rw [compare_node a b ha hb] at h3
  have h4 : (nodeB a).length = 6 := rfl
  have h5 : (nodeB b).length = 6 := rfl
  rw [h4, h5] at h3
  simp only [ext_compare, h3, Result.andThen_ok])) ?_
 refine VL.q (Q.assign rfl) ?_
 refine VL.nil ?_
 refine VE.seq ?_
 refine VC.ret ?_
 refine VE.ret rfl (.tmp rfl .nil) () ?_ ?_ (List.nil_sublist _)
 ·
  trivial
 ·
  first | rfl | (exfalso; simp at *; omega)

theorem acompare_c (a b : Nat) (ha : a ≤ 255) (hb : b ≤ 255) :
  Does Tryz.prog 135 [.agg #[.int .u8 2, .int .u8 0, .int .u8 0, .int .u8 0, .int .u8 2, .int .u8 (a : Int)], .agg #[.int .u8 2, .int .u8 0, .int .u8 0, .int .u8 0, .int .u8 2, .int .u8 (b : Int)]] [] (fun _ => True) (X := Unit) (fun _ => True) (fun _ => .int .i64 (cmpN a b)) (fun _ => []) := by
 refine Does.enter Tryz.func135 rfl (m := 8) rfl (by simp) ?_
 intro W0 hro
 refine VC.seq ?_
 refine VC.region ?_
 refine VL.eff (O.box rfl rfl (by decide) ?_)
 intro g2
 refine VL.eff (O.box rfl rfl (by decide) ?_)
 intro g3
 refine VL.q (Q.assign rfl) ?_
 refine VL.nil ?_
 refine VE.seq ?_
 refine VC.seq ?_
 refine VA.start (Ls := []) (Cs := []) mixed ?_
 refine VA.tk 0 rfl (Still.then Still.body) (List.nil_sublist _) Cells.nil (Quiet.c (Q.slcA0 ar44 (h := _) rfl rfl (by omega))) ?_
 refine VA.tk 1 rfl (Still.then Still.body) (List.nil_sublist _) Cells.nil (Quiet.c (Q.slcA0 ar44 (h := _) rfl rfl (by omega))) ?_
 refine VA.all (rs := [2]) (by kernel_rfl) (by simp) ?_
 refine VA.forall1 ?_
 ·
  refine VA.eff rfl ?_
  refine id (O.call0 ok161 rfl rfl (by decide) (bcompare_c g2 g3 a b ha hb) (fun _ _ hw => ⟨Rd.seg (k := 6) hw zM zS, Rd.seg (k := 6) hw zM zS⟩) ?_)
  intro x7 y7
  refine VA.next (List.nil_sublist _) Cells.nil ?_
  refine VA.tk 3 rfl (Still.then Still.body) (List.nil_sublist _) Cells.nil (Quiet.c (Q.assign rfl)) ?_
  refine VA.done (by kernel_rfl) ?_
  refine VE.seq ?_
  refine VC.ret ?_
  refine VE.ret rfl (.tmp rfl .nil) () ?_ ?_ (List.nil_sublist _)
  ·
   trivial
  ·
   first | rfl | (exfalso; simp at *; omega)

theorem clone_tree (p : Option Addr) (n c : Nat) (xs : List Value) (hl : xs.length = n * 17) (h1 : xs.all one = true) (hn : n ≤ 100000) :
  Does Tryz.prog 131 [.slice p n c] [] (fun W => Rd W p xs) (X := Option Addr × Nat) (fun x => n ≤ x.2) (fun x => .slice x.1 n x.2) (fun x => [.row (.slice x.1 n x.2) 151 17 n xs]) := by
 refine Does.enter Tryz.func131 rfl (m := 8) rfl (by simp) ?_
 intro W0 hro
 refine VC.seq ?_
 refine VC.region ?_
 refine VL.q (Q.assign rfl) ?_
 refine VL.nil ?_
 refine VE.seq ?_
 rcases p with _ | q
 ·
  have hx : xs = [] := by
   cases xs with
   | nil => rfl
   | cons u us =>
    obtain ⟨_, _, e, _⟩ := hro 0 u rfl
    cases e
  subst hx
  have hn0 : n = 0 := by simp at hl; omega
  subst hn0
  refine VK.addNil 151 17 ?_
  refine VC.seq ?_
  refine VC.seq ?_
  refine VC.region ?_
  refine VL.q (Q.move rfl) ?_
  refine VL.quietE (v' := .bool true) (by decide) (Q.eqNil sl47 rfl rfl rfl) (by rfl) ?_
  refine VL.nil ?_
  refine VE.seq ?_
  refine VC.condT rfl ?_
  refine VC.seq ?_
  refine VC.region ?_
  refine VL.q (Q.assign rfl) ?_
  refine VL.nil ?_
  refine VE.seq ?_
  refine VC.ret ?_
  refine VE.then_ret ?_
  exact VE.ret rfl (.tmp rfl .nil) (none, 0) (Nat.le_refl _) rfl zB
 ·
  refine VC.seq ?_
  refine VC.seq ?_
  refine VC.region ?_
  refine VL.q (Q.move rfl) ?_
  refine VL.quietE (v' := .bool false) (by decide) (Q.eqNil sl47 rfl rfl rfl) (by rfl) ?_
  refine VL.nil ?_
  refine VE.seq ?_
  refine VC.condF rfl ?_
  refine VC.skip ?_
  refine VE.seq ?_
  refine VC.seq ?_
  refine VC.region ?_
  refine VL.eff (O.buildSlice0 sl47 (by decide) ?_)
  intro g5
  refine VK.toRow (g := g5) (s := 17) (m := 0) (c := 0) zU rfl (by omega) (by unfold maxLen; omega) ?_
  refine VL.q (Q.move rfl) ?_
  refine VL.eff (O.append sl47 ze151 rfl (by decide) rfl rfl hl h1 (by decide) (by unfold maxLen; omega) (by rw [Nat.zero_add]; omega) zA (fun _ ho _ => hro.only0 ho) ?_)
  intro p7 c7 hc7
  rw [Nat.zero_add]
  refine VL.q (Q.assign rfl) ?_
  refine VL.nil ?_
  refine VE.seq ?_
  refine VC.ret ?_
  exact VE.ret rfl (.tmp rfl .nil) (p7, c7) (by simpa using hc7) rfl zB

theorem clone_hop (p : Option Addr) (n c : Nat) (xs : List Value) (hl : xs.length = n * 12) (h1 : xs.all one = true) (hn : n ≤ 100000) :
  Does Tryz.prog 183 [.slice p n c] [] (fun W => Rd W p xs) (X := Option Addr × Nat) (fun x => n ≤ x.2) (fun x => .slice x.1 n x.2) (fun x => [.row (.slice x.1 n x.2) 252 12 n xs]) := by
 refine Does.enter Tryz.func183 rfl (m := 8) rfl (by simp) ?_
 intro W0 hro
 refine VC.seq ?_
 refine VC.region ?_
 refine VL.q (Q.assign rfl) ?_
 refine VL.nil ?_
 refine VE.seq ?_
 rcases p with _ | q
 ·
  have hx : xs = [] := by
   cases xs with
   | nil => rfl
   | cons u us =>
    obtain ⟨_, _, e, _⟩ := hro 0 u rfl
    cases e
  subst hx
  have hn0 : n = 0 := by simp at hl; omega
  subst hn0
  refine VK.addNil 252 12 ?_
  refine VC.seq ?_
  refine VC.seq ?_
  refine VC.region ?_
  refine VL.q (Q.move rfl) ?_
  refine VL.quietE (v' := .bool true) (by decide) (Q.eqNil sl53 rfl rfl rfl) (by rfl) ?_
  refine VL.nil ?_
  refine VE.seq ?_
  refine VC.condT rfl ?_
  refine VC.seq ?_
  refine VC.region ?_
  refine VL.q (Q.assign rfl) ?_
  refine VL.nil ?_
  refine VE.seq ?_
  refine VC.ret ?_
  refine VE.then_ret ?_
  exact VE.ret rfl (.tmp rfl .nil) (none, 0) (Nat.le_refl _) rfl zB
 ·
  refine VC.seq ?_
  refine VC.seq ?_
  refine VC.region ?_
  refine VL.q (Q.move rfl) ?_
  refine VL.quietE (v' := .bool false) (by decide) (Q.eqNil sl53 rfl rfl rfl) (by rfl) ?_
  refine VL.nil ?_
  refine VE.seq ?_
  refine VC.condF rfl ?_
  refine VC.skip ?_
  refine VE.seq ?_
  refine VC.seq ?_
  refine VC.region ?_
  refine VL.eff (O.buildSlice0 sl53 (by decide) ?_)
  intro g5
  refine VK.toRow (g := g5) (s := 12) (m := 0) (c := 0) zU rfl (by omega) (by unfold maxLen; omega) ?_
  refine VL.q (Q.move rfl) ?_
  refine VL.eff (O.append sl53 ze252 rfl (by decide) rfl rfl hl h1 (by decide) (by unfold maxLen; omega) (by rw [Nat.zero_add]; omega) zA (fun _ ho _ => hro.only0 ho) ?_)
  intro p7 c7 hc7
  rw [Nat.zero_add]
  refine VL.q (Q.assign rfl) ?_
  refine VL.nil ?_
  refine VE.seq ?_
  refine VC.ret ?_
  exact VE.ret rfl (.tmp rfl .nil) (p7, c7) (by simpa using hc7) rfl zB

theorem clone_mark (p : Option Addr) (n c : Nat) (xs : List Value) (hl : xs.length = n * 7) (h1 : xs.all one = true) (hn : n ≤ 100000) :
  Does Tryz.prog 125 [.slice p n c] [] (fun W => Rd W p xs) (X := Option Addr × Nat) (fun x => n ≤ x.2) (fun x => .slice x.1 n x.2) (fun x => [.row (.slice x.1 n x.2) 258 7 n xs]) := by
 refine Does.enter Tryz.func125 rfl (m := 8) rfl (by simp) ?_
 intro W0 hro
 refine VC.seq ?_
 refine VC.region ?_
 refine VL.q (Q.assign rfl) ?_
 refine VL.nil ?_
 refine VE.seq ?_
 rcases p with _ | q
 ·
  have hx : xs = [] := by
   cases xs with
   | nil => rfl
   | cons u us =>
    obtain ⟨_, _, e, _⟩ := hro 0 u rfl
    cases e
  subst hx
  have hn0 : n = 0 := by simp at hl; omega
  subst hn0
  refine VK.addNil 258 7 ?_
  refine VC.seq ?_
  refine VC.seq ?_
  refine VC.region ?_
  refine VL.q (Q.move rfl) ?_
  refine VL.quietE (v' := .bool true) (by decide) (Q.eqNil sl52 rfl rfl rfl) (by rfl) ?_
  refine VL.nil ?_
  refine VE.seq ?_
  refine VC.condT rfl ?_
  refine VC.seq ?_
  refine VC.region ?_
  refine VL.q (Q.assign rfl) ?_
  refine VL.nil ?_
  refine VE.seq ?_
  refine VC.ret ?_
  refine VE.then_ret ?_
  exact VE.ret rfl (.tmp rfl .nil) (none, 0) (Nat.le_refl _) rfl zB
 ·
  refine VC.seq ?_
  refine VC.seq ?_
  refine VC.region ?_
  refine VL.q (Q.move rfl) ?_
  refine VL.quietE (v' := .bool false) (by decide) (Q.eqNil sl52 rfl rfl rfl) (by rfl) ?_
  refine VL.nil ?_
  refine VE.seq ?_
  refine VC.condF rfl ?_
  refine VC.skip ?_
  refine VE.seq ?_
  refine VC.seq ?_
  refine VC.region ?_
  refine VL.eff (O.buildSlice0 sl52 (by decide) ?_)
  intro g5
  refine VK.toRow (g := g5) (s := 7) (m := 0) (c := 0) zU rfl (by omega) (by unfold maxLen; omega) ?_
  refine VL.q (Q.move rfl) ?_
  refine VL.eff (O.append sl52 ze258 rfl (by decide) rfl rfl hl h1 (by decide) (by unfold maxLen; omega) (by rw [Nat.zero_add]; omega) zA (fun _ ho _ => hro.only0 ho) ?_)
  intro p7 c7 hc7
  rw [Nat.zero_add]
  refine VL.q (Q.assign rfl) ?_
  refine VL.nil ?_
  refine VE.seq ?_
  refine VC.ret ?_
  exact VE.ret rfl (.tmp rfl .nil) (p7, c7) (by simpa using hc7) rfl zB

theorem clone_prox (p : Option Addr) (n c : Nat) (xs : List Value) (hl : xs.length = n * 13) (h1 : xs.all one = true) (hn : n ≤ 100000) :
  Does Tryz.prog 167 [.slice p n c] [] (fun W => Rd W p xs) (X := Option Addr × Nat) (fun x => n ≤ x.2) (fun x => .slice x.1 n x.2) (fun x => [.row (.slice x.1 n x.2) 306 13 n xs]) := by
 refine Does.enter Tryz.func167 rfl (m := 8) rfl (by simp) ?_
 intro W0 hro
 refine VC.seq ?_
 refine VC.region ?_
 refine VL.q (Q.assign rfl) ?_
 refine VL.nil ?_
 refine VE.seq ?_
 rcases p with _ | q
 ·
  have hx : xs = [] := by
   cases xs with
   | nil => rfl
   | cons u us =>
    obtain ⟨_, _, e, _⟩ := hro 0 u rfl
    cases e
  subst hx
  have hn0 : n = 0 := by simp at hl; omega
  subst hn0
  refine VK.addNil 306 13 ?_
  refine VC.seq ?_
  refine VC.seq ?_
  refine VC.region ?_
  refine VL.q (Q.move rfl) ?_
  refine VL.quietE (v' := .bool true) (by decide) (Q.eqNil sl48 rfl rfl rfl) (by rfl) ?_
  refine VL.nil ?_
  refine VE.seq ?_
  refine VC.condT rfl ?_
  refine VC.seq ?_
  refine VC.region ?_
  refine VL.q (Q.assign rfl) ?_
  refine VL.nil ?_
  refine VE.seq ?_
  refine VC.ret ?_
  refine VE.then_ret ?_
  exact VE.ret rfl (.tmp rfl .nil) (none, 0) (Nat.le_refl _) rfl zB
 ·
  refine VC.seq ?_
  refine VC.seq ?_
  refine VC.region ?_
  refine VL.q (Q.move rfl) ?_
  refine VL.quietE (v' := .bool false) (by decide) (Q.eqNil sl48 rfl rfl rfl) (by rfl) ?_
  refine VL.nil ?_
  refine VE.seq ?_
  refine VC.condF rfl ?_
  refine VC.skip ?_
  refine VE.seq ?_
  refine VC.seq ?_
  refine VC.region ?_
  refine VL.eff (O.buildSlice0 sl48 (by decide) ?_)
  intro g5
  refine VK.toRow (g := g5) (s := 13) (m := 0) (c := 0) zU rfl (by omega) (by unfold maxLen; omega) ?_
  refine VL.q (Q.move rfl) ?_
  refine VL.eff (O.append sl48 ze306 rfl (by decide) rfl rfl hl h1 (by decide) (by unfold maxLen; omega) (by rw [Nat.zero_add]; omega) zA (fun _ ho _ => hro.only0 ho) ?_)
  intro p7 c7 hc7
  rw [Nat.zero_add]
  refine VL.q (Q.assign rfl) ?_
  refine VL.nil ?_
  refine VE.seq ?_
  refine VC.ret ?_
  exact VE.ret rfl (.tmp rfl .nil) (p7, c7) (by simpa using hc7) rfl zB

theorem clone_byte (p : Option Addr) (n c : Nat) (xs : List Value) (hl : xs.length = n * 1) (h1 : xs.all one = true) (hn : n ≤ 100000) :
  Does Tryz.prog 168 [.slice p n c] [] (fun W => Rd W p xs) (X := Option Addr × Nat) (fun x => n ≤ x.2) (fun x => .slice x.1 n x.2) (fun x => [.row (.slice x.1 n x.2) 5 1 n xs]) := by
 refine Does.enter Tryz.func168 rfl (m := 8) rfl (by simp) ?_
 intro W0 hro
 refine VC.seq ?_
 refine VC.region ?_
 refine VL.q (Q.assign rfl) ?_
 refine VL.nil ?_
 refine VE.seq ?_
 rcases p with _ | q
 ·
  have hx : xs = [] := by
   cases xs with
   | nil => rfl
   | cons u us =>
    obtain ⟨_, _, e, _⟩ := hro 0 u rfl
    cases e
  subst hx
  have hn0 : n = 0 := by simp at hl; omega
  subst hn0
  refine VK.addNil 5 1 ?_
  refine VC.seq ?_
  refine VC.seq ?_
  refine VC.region ?_
  refine VL.q (Q.move rfl) ?_
  refine VL.quietE (v' := .bool true) (by decide) (Q.eqNil sl23 rfl rfl rfl) (by rfl) ?_
  refine VL.nil ?_
  refine VE.seq ?_
  refine VC.condT rfl ?_
  refine VC.seq ?_
  refine VC.region ?_
  refine VL.q (Q.assign rfl) ?_
  refine VL.nil ?_
  refine VE.seq ?_
  refine VC.ret ?_
  refine VE.then_ret ?_
  exact VE.ret rfl (.tmp rfl .nil) (none, 0) (Nat.le_refl _) rfl zB
 ·
  refine VC.seq ?_
  refine VC.seq ?_
  refine VC.region ?_
  refine VL.q (Q.move rfl) ?_
  refine VL.quietE (v' := .bool false) (by decide) (Q.eqNil sl23 rfl rfl rfl) (by rfl) ?_
  refine VL.nil ?_
  refine VE.seq ?_
  refine VC.condF rfl ?_
  refine VC.skip ?_
  refine VE.seq ?_
  refine VC.seq ?_
  refine VC.region ?_
  refine VL.eff (O.buildSlice0 sl23 (by decide) ?_)
  intro g5
  refine VK.toRow (g := g5) (s := 1) (m := 0) (c := 0) zU rfl (by omega) (by unfold maxLen; omega) ?_
  refine VL.q (Q.move rfl) ?_
  refine VL.eff (O.append sl23 ze5 rfl (by decide) rfl rfl hl h1 (by decide) (by unfold maxLen; omega) (by rw [Nat.zero_add]; omega) zA (fun _ ho _ => hro.only0 ho) ?_)
  intro p7 c7 hc7
  rw [Nat.zero_add]
  refine VL.q (Q.assign rfl) ?_
  refine VL.nil ?_
  refine VE.seq ?_
  refine VC.ret ?_
  exact VE.ret rfl (.tmp rfl .nil) (p7, c7) (by simpa using hc7) rfl zB

theorem bclone_c (p : Option Addr) (n c : Nat) (xs : List Value) (hl : xs.length = n * 1) (h1 : xs.all one = true) (hn : n ≤ 100000) :
  Does Tryz.prog 123 [.slice p n c] [] (fun W => Rd W p xs) (X := Option Addr × Nat) (fun x => n ≤ x.2) (fun x => .slice x.1 n x.2) (fun x => [.row (.slice x.1 n x.2) 5 1 n xs]) := by
 refine Does.enter Tryz.func123 rfl (m := 8) rfl (by simp) ?_
 intro W0 hro
 refine VC.seq ?_
 refine VC.region ?_
 refine VL.q (Q.assign rfl) ?_
 refine VL.nil ?_
 refine VE.seq ?_
 rcases p with _ | q
 ·
  have hx : xs = [] := by
   cases xs with
   | nil => rfl
   | cons u us =>
    obtain ⟨_, _, e, _⟩ := hro 0 u rfl
    cases e
  subst hx
  have hn0 : n = 0 := by simp at hl; omega
  subst hn0
  refine VK.addNil 5 1 ?_
  refine VC.seq ?_
  refine VC.seq ?_
  refine VC.region ?_
  refine VL.q (Q.move rfl) ?_
  refine VL.quietE (v' := .bool true) (by decide) (Q.eqNil sl23 rfl rfl rfl) (by rfl) ?_
  refine VL.nil ?_
  refine VE.seq ?_
  refine VC.condT rfl ?_
  refine VC.seq ?_
  refine VC.region ?_
  refine VL.q (Q.assign rfl) ?_
  refine VL.nil ?_
  refine VE.seq ?_
  refine VC.ret ?_
  refine VE.then_ret ?_
  exact VE.ret rfl (.tmp rfl .nil) (none, 0) (Nat.le_refl _) rfl zB
 ·
  refine VC.seq ?_
  refine VC.seq ?_
  refine VC.region ?_
  refine VL.q (Q.move rfl) ?_
  refine VL.quietE (v' := .bool false) (by decide) (Q.eqNil sl23 rfl rfl rfl) (by rfl) ?_
  refine VL.nil ?_
  refine VE.seq ?_
  refine VC.condF rfl ?_
  refine VC.skip ?_
  refine VE.seq ?_
  refine VC.seq ?_
  refine VC.region ?_
  refine VL.eff (O.buildSlice0 sl23 (by decide) ?_)
  intro g5
  refine VK.toRow (g := g5) (s := 1) (m := 0) (c := 0) zU rfl (by omega) (by unfold maxLen; omega) ?_
  refine VL.q (Q.move rfl) ?_
  refine VL.eff (O.append sl23 ze5 rfl (by decide) rfl rfl hl h1 (by decide) (by unfold maxLen; omega) (by rw [Nat.zero_add]; omega) zA (fun _ ho _ => hro.only0 ho) ?_)
  intro p7 c7 hc7
  rw [Nat.zero_add]
  refine VL.q (Q.assign rfl) ?_
  refine VL.nil ?_
  refine VE.seq ?_
  refine VC.ret ?_
  exact VE.ret rfl (.tmp rfl .nil) (p7, c7) (by simpa using hc7) rfl zB

theorem treecmp_c (p : Nat × TreeV) (a : Nat) (hp : p.1 ≤ 255) (ha : a ≤ 255) :
  Does Tryz.prog 177 [.agg #[.int .u8 2, .int .u8 0, .int .u8 0, .int .u8 0, .int .u8 2, .int .u8 (p.1 : Int), .int .u8 2, .int .u8 0, .int .u8 0, .int .u8 0, .int .u8 2, .int .u8 (p.2.parent : Int), .int .i64 (p.2.seq : Int), .int .i64 (p.2.hops : Int), .int .i64 (p.2.cost : Int), .bool (decide (p.1 = 0)), .int .i64 (p.2.till : Int)], .agg #[.int .u8 2, .int .u8 0, .int .u8 0, .int .u8 0, .int .u8 2, .int .u8 (a : Int)]] [] (fun _ => True) (X := Unit) (fun _ => True) (fun _ => .int .i64 (cmpN p.1 a)) (fun _ => []) := by
 refine Does.enter Tryz.func177 rfl (m := 9) rfl (by simp) ?_
 intro W0 hro
 refine VC.seq ?_
 refine VC.region ?_
 refine VL.eff (O.box rfl rfl (by decide) ?_)
 intro g2
 refine VL.eff (O.box rfl rfl (by decide) ?_)
 intro g3
 refine VL.q (Q.assign rfl) ?_
 refine VL.nil ?_
 refine VE.seq ?_
 refine VC.seq ?_
 refine VC.region ?_
 refine VL.q (Q.fieldAddr fa151_0 rfl) ?_
 refine VL.q (Q.loadA ty44 rfl zM zS) ?_
 refine VL.q (Q.loadA ty44 rfl zM zS) ?_
 refine VL.eff (O.call0 ok135 rfl rfl (by decide) (acompare_c p.1 a hp ha) (fun _ _ _ => trivial) ?_)
 intro x8 y8
 refine VL.q (Q.assign rfl) ?_
 refine VL.nil ?_
 refine VE.seq ?_
 refine VC.ret ?_
 refine VE.ret rfl (.tmp rfl .nil) () ?_ ?_ (List.nil_sublist _)
 ·
  trivial
 ·
  first | rfl | (exfalso; simp at *; omega)

theorem bsearch_tree (p : Option Addr) (n c : Nat) (l : List (Nat × TreeV)) (hl : l.length = n) (r : Nat) (hr : r ≤ 255) (hn : n ≤ 100) (hk : ∀ q ∈ l, q.1 ≤ 255) (hs : Srt l) :
  Does Tryz.prog 176 [.slice p n c, .agg #[.int .u8 2, .int .u8 0, .int .u8 0, .int .u8 0, .int .u8 2, .int .u8 (r : Int)], .func (.func 177) #[] #[]] [] (fun W => Rd W p (l.flatMap treeC)) (X := Nat × Bool) (fun x => BS l r x) (fun x => .tuple #[.int .i64 (x.1 : Int), .bool x.2]) (fun _ => []) := by
 subst hl
 refine Does.enter Tryz.func176 rfl (m := 49) rfl (by simp) ?_
 intro W0 hro
 refine VC.seq ?_
 refine VC.region ?_
 refine VL.eff (O.box rfl rfl (by decide) ?_)
 intro g4
 refine VL.q (Q.assign rfl) ?_
 refine VL.q (Q.assign rfl) ?_
 refine VL.nil ?_
 refine VE.seq ?_
 refine VC.seq ?_
 refine VC.region ?_
 refine VL.q (Q.move rfl) ?_
 refine VL.q (Q.len sl47 rfl) ?_
 refine VL.q (Q.assign rfl) ?_
 refine VL.nil ?_
 refine VE.seq ?_
 refine VC.seq ?_
 refine VC.region ?_
 refine VL.q (Q.move rfl) ?_
 refine VL.q (Q.assign rfl) ?_
 refine VL.q (Q.assign rfl) ?_
 refine VL.nil ?_
 refine VE.seq ?_
 refine VC.seq ?_
 refine VC.block ?_
 refine VC.loop (X := Nat × Nat) (fun x => [(0, .slice p l.length c), (2, .func (.func 177) #[] #[]), (4, .pointer (some ⟨g4, 0, none⟩)), (8, .int .i64 (l.length : Int)), (9, .int .i64 (x.1 : Int)), (10, .int .i64 (x.2 : Int))]) (fun x => [.blk g4 [.int .u8 2, .int .u8 0, .int .u8 0, .int .u8 0, .int .u8 2, .int .u8 (r : Int)] 44]) (fun x => BSI l r x) (fun x => x.2 - x.1) (0, l.length) (BSI.start rfl) ?_ ?_
 ·
  exact VS.mk zE (List.Sublist.refl _)
 ·
  intro x hx
  obtain ⟨i, j⟩ := x
  have hxle := hx.le
  have hxln := hx.len
  dsimp only at hxle hxln
  refine VC.seq ?_
  refine VC.seq ?_
  refine VC.region ?_
  refine VL.q (Q.move rfl) ?_
  refine VL.q (Q.move rfl) ?_
  refine VL.q (Q.lt rfl rfl) ?_
  refine VL.nil ?_
  refine VE.seq ?_
  refine VC.cond rfl ?_ ?_
  ·
   intro h17
   have hlt : i < j := by have := of_decide_eq_true h17; omega
   obtain ⟨m, hmd⟩ : ∃ m, m = (i + j) / 2 := ⟨_, rfl⟩
   have hml : m < l.length := by omega
   obtain ⟨b0, o0, rfl⟩ := hro.pos (by rw [fm_length treeC_len]; omega)
   refine VC.skip ?_
   refine VE.seq ?_
   refine VC.block ?_
   refine VC.seq ?_
   refine VC.region ?_
   refine VL.q (Q.move rfl) ?_
   refine VL.q (Q.move rfl) ?_
   refine VL.q ((by first | exact Q.addI rfl rfl (by omega) (by omega) | exact Q.add rfl rfl)) ?_
   refine VL.q ((by first | exact Q.convF ti3 ti191 rfl (by simp only [klo]; omega) (by simp only [khi]; omega) | exact Q.convM (M := 18446744073709551616) ti3 ti191 rfl rfl rfl | exact Q.conv ti3 ti191 rfl)) ?_
   refine VL.quietE (v' := .int .u64 (m : Int)) (by decide) (Q.shrC (s := 1) (m := 2) rfl rfl (by decide) (by decide)) (congrArg (Value.int .u64) (by omega)) ?_
   refine VL.quietE (v' := .int .i64 (m : Int)) (by decide) ((by first | exact Q.convF ti191 ti3 rfl (by simp only [klo]; omega) (by simp only [khi]; omega) | exact Q.convM (M := 0) ti191 ti3 rfl rfl rfl | exact Q.conv ti191 ti3 rfl)) (by rfl) ?_
   refine VL.q (Q.assign rfl) ?_
   refine VL.nil ?_
   refine VE.seq ?_
   refine VC.seq ?_
   refine VA.start (Ls := [.blk g4 [.int .u8 2, .int .u8 0, .int .u8 0, .int .u8 0, .int .u8 2, .int .u8 (r : Int)] 44]) (Cs := []) mixed ?_
   refine VA.tk 0 rfl (Still.then (Still.block (Still.then (Still.block (Still.then Still.body))))) (List.singleton_sublist.2 zM) Cells.nil (Quiet.c (Q.move rfl)) ?_
   refine VA.tk 1 rfl (Still.then (Still.block (Still.then (Still.block (Still.then Still.body))))) (List.singleton_sublist.2 zM) Cells.nil (Quiet.c (Q.move rfl)) ?_
   refine VA.tk 2 rfl (Still.then (Still.block (Still.then (Still.block (Still.then Still.body))))) (List.singleton_sublist.2 zM) Cells.nil (Quiet.c (Q.move rfl)) ?_
   refine VA.tk 3 rfl (Still.then (Still.block (Still.then (Still.block (Still.then Still.body))))) (List.singleton_sublist.2 zM) Cells.nil (Quiet.c (Q.indexAddr sl47 (j := m) rfl rfl rfl hml)) ?_
   refine VA.tk 4 rfl (Still.then (Still.block (Still.then (Still.block (Still.then Still.body))))) (List.singleton_sublist.2 zM) Cells.nil (Quiet.c (Q.load0A (xs := treeC l[m]) ty151 rfl (Rd.sg hro (fm_seg treeC_len l m (by omega))) (by simp))) ?_
   refine VA.tk 5 rfl (Still.then (Still.block (Still.then (Still.block (Still.then Still.body))))) (List.singleton_sublist.2 zM) Cells.nil (Quiet.c (Q.loadA ty44 rfl zM zS)) ?_
   refine VA.all (rs := [6]) (by kernel_rfl) (by simp) ?_
   refine VA.forall1 ?_
   ·
    refine VA.eff rfl ?_
    refine id (O.call0 ok177 rfl rfl (by decide) (treecmp_c l[m] r (hk _ (List.getElem_mem hml)) hr) (fun _ _ _ => trivial) ?_)
    intro x30 y30
    refine VA.next (List.singleton_sublist.2 zM) Cells.nil ?_
    refine VA.tk 7 rfl (Still.then (Still.block (Still.then (Still.block (Still.then Still.body))))) (List.singleton_sublist.2 zM) Cells.nil (Quiet.c (Q.lt rfl rfl)) ?_
    refine VA.done (by kernel_rfl) ?_
    refine VE.seq ?_
    refine VC.cond rfl ?_ ?_
    ·
     intro h31
     have hkm : l[m].1 < r := by rw [cmpN_lt] at h31; exact of_decide_eq_true h31
     refine VC.region ?_
     refine VL.q (Q.move rfl) ?_
     refine VL.q ((by first | exact Q.addI rfl rfl (by omega) (by omega) | exact Q.add rfl rfl)) ?_
     refine VL.q (Q.assign rfl) ?_
     refine VL.nil ?_
     refine VE.block_normal ?_
     refine VE.then_normal ?_
     exact VE.round (m + 1, j) (hx.up hs hlt hmd hml hkm) (by omega) zE (List.Sublist.refl _)
    ·
     intro h31
     have hkm : ¬ l[m].1 < r := by rw [cmpN_lt] at h31; exact of_decide_eq_false h31
     refine VC.region ?_
     refine VL.q (Q.move rfl) ?_
     refine VL.q (Q.assign rfl) ?_
     refine VL.nil ?_
     refine VE.block_normal ?_
     refine VE.then_normal ?_
     exact VE.round (i, m) (hx.down hs hlt hmd hml hkm) (by omega) zE (List.Sublist.refl _)
  ·
   intro h17
   have hge : ¬ i < j := by have := of_decide_eq_false h17; omega
   refine VC.exit ?_
   refine VE.then_exit ?_
   refine VE.then_exit ?_
   refine VE.block_here ?_
   refine VE.seq ?_
   refine VC.seq ?_
   refine VA.start (Ls := [.blk g4 [.int .u8 2, .int .u8 0, .int .u8 0, .int .u8 0, .int .u8 2, .int .u8 (r : Int)] 44]) (Cs := []) mixed ?_
   refine VA.tk 0 rfl (Still.then Still.body) (List.singleton_sublist.2 zM) Cells.nil (Quiet.c (Q.move rfl)) ?_
   refine VA.tk 1 rfl (Still.then Still.body) (List.singleton_sublist.2 zM) Cells.nil (Quiet.c (Q.move rfl)) ?_
   refine VA.tk 2 rfl (Still.then Still.body) (List.singleton_sublist.2 zM) Cells.nil (Quiet.c (Q.move rfl)) ?_
   refine VA.tk 3 rfl (Still.then Still.body) (List.singleton_sublist.2 zM) Cells.nil (Quiet.c (Q.lt rfl rfl)) ?_
   refine VA.tk 4 rfl (Still.then Still.body) (List.singleton_sublist.2 zM) Cells.nil (Quiet.c (Q.move rfl)) ?_
   refine VK.case 39 rfl ?_ ?_
   ·
    intro h39
    have hil : i < l.length := by have := of_decide_eq_true h39; omega
    obtain ⟨b0, o0, rfl⟩ := hro.pos (by rw [fm_length treeC_len]; omega)
    refine VA.takeY 5 rfl rfl rfl (by kernel_rfl) (by kernel_rfl) (by kernel_rfl) (Still.then Still.body) (List.singleton_sublist.2 zM) Cells.nil (by decide) (Quiet.c (Q.move rfl)) ?_
    refine VA.takeY 6 rfl rfl rfl (by kernel_rfl) (by kernel_rfl) (by kernel_rfl) (Still.then Still.body) (List.singleton_sublist.2 zM) Cells.nil (by decide) (Quiet.c (Q.move rfl)) ?_
    refine VA.takeY 7 rfl rfl rfl (by kernel_rfl) (by kernel_rfl) (by kernel_rfl) (Still.then Still.body) (List.singleton_sublist.2 zM) Cells.nil (by decide) (Quiet.c (Q.move rfl)) ?_
    refine VA.takeY 8 rfl rfl rfl (by kernel_rfl) (by kernel_rfl) (by kernel_rfl) (Still.then Still.body) (List.singleton_sublist.2 zM) Cells.nil (by decide) (Quiet.c (Q.indexAddr sl47 (j := i) rfl rfl rfl hil)) ?_
    refine VA.takeY 9 rfl rfl rfl (by kernel_rfl) (by kernel_rfl) (by kernel_rfl) (Still.then Still.body) (List.singleton_sublist.2 zM) Cells.nil (by decide) (Quiet.c (Q.load0A (xs := treeC l[i]) ty151 rfl (Rd.sg hro (fm_seg treeC_len l i (by omega))) (by simp))) ?_
    refine VA.takeY 10 rfl rfl rfl (by kernel_rfl) (by kernel_rfl) (by kernel_rfl) (Still.then Still.body) (List.singleton_sublist.2 zM) Cells.nil (by decide) (Quiet.c (Q.loadA ty44 rfl zM zS)) ?_
    refine VA.all (rs := [11]) (by kernel_rfl) (by simp) ?_
    refine VA.forall1 ?_
    ·
     refine VA.effY rfl rfl rfl ?_
     refine id (O.call0 ok177 rfl rfl (by decide) (treecmp_c l[i] r (hk _ (List.getElem_mem hil)) hr) (fun _ _ _ => trivial) ?_)
     intro x46 y46
     refine VA.next (List.singleton_sublist.2 zM) Cells.nil ?_
     refine VA.takeY 12 rfl rfl rfl (by kernel_rfl) (by kernel_rfl) (by kernel_rfl) (Still.then Still.body) (List.singleton_sublist.2 zM) Cells.nil (by decide) (Quiet.c (Q.eq rfl rfl)) ?_
     refine VA.tk 13 rfl (Still.then Still.body) (List.singleton_sublist.2 zM) Cells.nil (Quiet.c (Q.pick_true rfl rfl)) ?_
     refine VA.tk 14 rfl (Still.then Still.body) (List.singleton_sublist.2 zM) Cells.nil (Quiet.c (Q.assign rfl)) ?_
     refine VA.tk 15 rfl (Still.then Still.body) (List.singleton_sublist.2 zM) Cells.nil (Quiet.c (Q.assign rfl)) ?_
     refine VA.done (by kernel_rfl) ?_
     refine VE.seq ?_
     refine VC.ret ?_
     exact VE.ret rfl (.tmp rfl (.tmp rfl .nil)) (i, _) (hx.is hge (fun e => ⟨hil, by rw [cmpN_eq] at e; exact eq_of_beq e⟩) (fun e h => by rw [cmpN_eq] at e; simpa using e)) rfl zB
   ·
    intro h39
    have hil : ¬ i < l.length := by have := of_decide_eq_false h39; omega
    refine VA.takeN 5 rfl rfl rfl (.inl rfl) (by kernel_rfl) (by kernel_rfl) (by kernel_rfl) (Still.then Still.body) (List.singleton_sublist.2 zM) Cells.nil (by decide) ?_
    refine VA.takeN 6 rfl rfl rfl (.inl rfl) (by kernel_rfl) (by kernel_rfl) (by kernel_rfl) (Still.then Still.body) (List.singleton_sublist.2 zM) Cells.nil (by decide) ?_
    refine VA.takeN 7 rfl rfl rfl (.inl rfl) (by kernel_rfl) (by kernel_rfl) (by kernel_rfl) (Still.then Still.body) (List.singleton_sublist.2 zM) Cells.nil (by decide) ?_
    refine VA.takeN 8 rfl rfl rfl (.inl rfl) (by kernel_rfl) (by kernel_rfl) (by kernel_rfl) (Still.then Still.body) (List.singleton_sublist.2 zM) Cells.nil (by decide) ?_
    refine VA.takeN 9 rfl rfl rfl (.inl rfl) (by kernel_rfl) (by kernel_rfl) (by kernel_rfl) (Still.then Still.body) (List.singleton_sublist.2 zM) Cells.nil (by decide) ?_
    refine VA.takeN 10 rfl rfl rfl (.inl rfl) (by kernel_rfl) (by kernel_rfl) (by kernel_rfl) (Still.then Still.body) (List.singleton_sublist.2 zM) Cells.nil (by decide) ?_
    refine VA.takeN 11 rfl rfl rfl (.inl rfl) (by kernel_rfl) (by kernel_rfl) (by kernel_rfl) (Still.then Still.body) (List.singleton_sublist.2 zM) Cells.nil (by decide) ?_
    refine VA.takeN 12 rfl rfl rfl (.inl rfl) (by kernel_rfl) (by kernel_rfl) (by kernel_rfl) (Still.then Still.body) (List.singleton_sublist.2 zM) Cells.nil (by decide) ?_
    refine VA.tk 13 rfl (Still.then Still.body) (List.singleton_sublist.2 zM) Cells.nil (Quiet.c (Q.pick_false rfl rfl)) ?_
    refine VA.tk 14 rfl (Still.then Still.body) (List.singleton_sublist.2 zM) Cells.nil (Quiet.c (Q.assign rfl)) ?_
    refine VA.tk 15 rfl (Still.then Still.body) (List.singleton_sublist.2 zM) Cells.nil (Quiet.c (Q.assign rfl)) ?_
    refine VA.done (by kernel_rfl) ?_
    refine VE.seq ?_
    refine VC.ret ?_
    exact VE.ret rfl (.tmp rfl (.tmp rfl .nil)) (i, false) (hx.is hge (fun e => by cases e) (fun _ h => absurd h hil)) rfl zB

theorem hopcmp_c (p : Nat × Nat) (a : Nat) (hp : p.1 ≤ 255) (ha : a ≤ 255) :
  Does Tryz.prog 182 [.agg #[.int .u8 2, .int .u8 0, .int .u8 0, .int .u8 0, .int .u8 2, .int .u8 (p.1 : Int), .int .u8 2, .int .u8 0, .int .u8 0, .int .u8 0, .int .u8 2, .int .u8 (p.2 : Int)], .agg #[.int .u8 2, .int .u8 0, .int .u8 0, .int .u8 0, .int .u8 2, .int .u8 (a : Int)]] [] (fun _ => True) (X := Unit) (fun _ => True) (fun _ => .int .i64 (cmpN p.1 a)) (fun _ => []) := by
 refine Does.enter Tryz.func182 rfl (m := 9) rfl (by simp) ?_
 intro W0 hro
 refine VC.seq ?_
 refine VC.region ?_
 refine VL.eff (O.box rfl rfl (by decide) ?_)
 intro g2
 refine VL.eff (O.box rfl rfl (by decide) ?_)
 intro g3
 refine VL.q (Q.assign rfl) ?_
 refine VL.nil ?_
 refine VE.seq ?_
 refine VC.seq ?_
 refine VC.region ?_
 refine VL.q (Q.fieldAddr fa252_0 rfl) ?_
 refine VL.q (Q.loadA ty44 rfl zM zS) ?_
 refine VL.q (Q.loadA ty44 rfl zM zS) ?_
 refine VL.eff (O.call0 ok135 rfl rfl (by decide) (acompare_c p.1 a hp ha) (fun _ _ _ => trivial) ?_)
 intro x8 y8
 refine VL.q (Q.assign rfl) ?_
 refine VL.nil ?_
 refine VE.seq ?_
 refine VC.ret ?_
 refine VE.ret rfl (.tmp rfl .nil) () ?_ ?_ (List.nil_sublist _)
 ·
  trivial
 ·
  first | rfl | (exfalso; simp at *; omega)

theorem bsearch_hop (p : Option Addr) (n c : Nat) (l : List (Nat × Nat)) (hl : l.length = n) (r : Nat) (hr : r ≤ 255) (hn : n ≤ 100) (hk : ∀ q ∈ l, q.1 ≤ 255) (hs : Srt l) :
  Does Tryz.prog 181 [.slice p n c, .agg #[.int .u8 2, .int .u8 0, .int .u8 0, .int .u8 0, .int .u8 2, .int .u8 (r : Int)], .func (.func 182) #[] #[]] [] (fun W => Rd W p (l.flatMap hopC)) (X := Nat × Bool) (fun x => BS l r x) (fun x => .tuple #[.int .i64 (x.1 : Int), .bool x.2]) (fun _ => []) := by
 subst hl
 refine Does.enter Tryz.func181 rfl (m := 49) rfl (by simp) ?_
 intro W0 hro
 refine VC.seq ?_
 refine VC.region ?_
 refine VL.eff (O.box rfl rfl (by decide) ?_)
 intro g4
 refine VL.q (Q.assign rfl) ?_
 refine VL.q (Q.assign rfl) ?_
 refine VL.nil ?_
 refine VE.seq ?_
 refine VC.seq ?_
 refine VC.region ?_
 refine VL.q (Q.move rfl) ?_
 refine VL.q (Q.len sl53 rfl) ?_
 refine VL.q (Q.assign rfl) ?_
 refine VL.nil ?_
 refine VE.seq ?_
 refine VC.seq ?_
 refine VC.region ?_
 refine VL.q (Q.move rfl) ?_
 refine VL.q (Q.assign rfl) ?_
 refine VL.q (Q.assign rfl) ?_
 refine VL.nil ?_
 refine VE.seq ?_
 refine VC.seq ?_
 refine VC.block ?_
 refine VC.loop (X := Nat × Nat) (fun x => [(0, .slice p l.length c), (2, .func (.func 182) #[] #[]), (4, .pointer (some ⟨g4, 0, none⟩)), (8, .int .i64 (l.length : Int)), (9, .int .i64 (x.1 : Int)), (10, .int .i64 (x.2 : Int))]) (fun x => [.blk g4 [.int .u8 2, .int .u8 0, .int .u8 0, .int .u8 0, .int .u8 2, .int .u8 (r : Int)] 44]) (fun x => BSI l r x) (fun x => x.2 - x.1) (0, l.length) (BSI.start rfl) ?_ ?_
 ·
  exact VS.mk zE (List.Sublist.refl _)
 ·
  intro x hx
  obtain ⟨i, j⟩ := x
  have hxle := hx.le
  have hxln := hx.len
  dsimp only at hxle hxln
  refine VC.seq ?_
  refine VC.seq ?_
  refine VC.region ?_
  refine VL.q (Q.move rfl) ?_
  refine VL.q (Q.move rfl) ?_
  refine VL.q (Q.lt rfl rfl) ?_
  refine VL.nil ?_
  refine VE.seq ?_
  refine VC.cond rfl ?_ ?_
  ·
   intro h17
   have hlt : i < j := by have := of_decide_eq_true h17; omega
   obtain ⟨m, hmd⟩ : ∃ m, m = (i + j) / 2 := ⟨_, rfl⟩
   have hml : m < l.length := by omega
   obtain ⟨b0, o0, rfl⟩ := hro.pos (by rw [fm_length hopC_len]; omega)
   refine VC.skip ?_
   refine VE.seq ?_
   refine VC.block ?_
   refine VC.seq ?_
   refine VC.region ?_
   refine VL.q (Q.move rfl) ?_
   refine VL.q (Q.move rfl) ?_
   refine VL.q ((by first | exact Q.addI rfl rfl (by omega) (by omega) | exact Q.add rfl rfl)) ?_
   refine VL.q ((by first | exact Q.convF ti3 ti191 rfl (by simp only [klo]; omega) (by simp only [khi]; omega) | exact Q.convM (M := 18446744073709551616) ti3 ti191 rfl rfl rfl | exact Q.conv ti3 ti191 rfl)) ?_
   refine VL.quietE (v' := .int .u64 (m : Int)) (by decide) (Q.shrC (s := 1) (m := 2) rfl rfl (by decide) (by decide)) (congrArg (Value.int .u64) (by omega)) ?_
   refine VL.quietE (v' := .int .i64 (m : Int)) (by decide) ((by first | exact Q.convF ti191 ti3 rfl (by simp only [klo]; omega) (by simp only [khi]; omega) | exact Q.convM (M := 0) ti191 ti3 rfl rfl rfl | exact Q.conv ti191 ti3 rfl)) (by rfl) ?_
   refine VL.q (Q.assign rfl) ?_
   refine VL.nil ?_
   refine VE.seq ?_
   refine VC.seq ?_
   refine VA.start (Ls := [.blk g4 [.int .u8 2, .int .u8 0, .int .u8 0, .int .u8 0, .int .u8 2, .int .u8 (r : Int)] 44]) (Cs := []) mixed ?_
   refine VA.tk 0 rfl (Still.then (Still.block (Still.then (Still.block (Still.then Still.body))))) (List.singleton_sublist.2 zM) Cells.nil (Quiet.c (Q.move rfl)) ?_
   refine VA.tk 1 rfl (Still.then (Still.block (Still.then (Still.block (Still.then Still.body))))) (List.singleton_sublist.2 zM) Cells.nil (Quiet.c (Q.move rfl)) ?_
   refine VA.tk 2 rfl (Still.then (Still.block (Still.then (Still.block (Still.then Still.body))))) (List.singleton_sublist.2 zM) Cells.nil (Quiet.c (Q.move rfl)) ?_
   refine VA.tk 3 rfl (Still.then (Still.block (Still.then (Still.block (Still.then Still.body))))) (List.singleton_sublist.2 zM) Cells.nil (Quiet.c (Q.indexAddr sl53 (j := m) rfl rfl rfl hml)) ?_
   refine VA.tk 4 rfl (Still.then (Still.block (Still.then (Still.block (Still.then Still.body))))) (List.singleton_sublist.2 zM) Cells.nil (Quiet.c (Q.load0A (xs := hopC l[m]) ty252 rfl (Rd.sg hro (fm_seg hopC_len l m (by omega))) (by simp))) ?_
   refine VA.tk 5 rfl (Still.then (Still.block (Still.then (Still.block (Still.then Still.body))))) (List.singleton_sublist.2 zM) Cells.nil (Quiet.c (Q.loadA ty44 rfl zM zS)) ?_
   refine VA.all (rs := [6]) (by kernel_rfl) (by simp) ?_
   refine VA.forall1 ?_
   ·
    refine VA.eff rfl ?_
    refine id (O.call0 ok182 rfl rfl (by decide) (hopcmp_c l[m] r (hk _ (List.getElem_mem hml)) hr) (fun _ _ _ => trivial) ?_)
    intro x30 y30
    refine VA.next (List.singleton_sublist.2 zM) Cells.nil ?_
    refine VA.tk 7 rfl (Still.then (Still.block (Still.then (Still.block (Still.then Still.body))))) (List.singleton_sublist.2 zM) Cells.nil (Quiet.c (Q.lt rfl rfl)) ?_
    refine VA.done (by kernel_rfl) ?_
    refine VE.seq ?_
    refine VC.cond rfl ?_ ?_
    ·
     intro h31
     have hkm : l[m].1 < r := by rw [cmpN_lt] at h31; exact of_decide_eq_true h31
     refine VC.region ?_
     refine VL.q (Q.move rfl) ?_
     refine VL.q ((by first | exact Q.addI rfl rfl (by omega) (by omega) | exact Q.add rfl rfl)) ?_
     refine VL.q (Q.assign rfl) ?_
     refine VL.nil ?_
     refine VE.block_normal ?_
     refine VE.then_normal ?_
     exact VE.round (m + 1, j) (hx.up hs hlt hmd hml hkm) (by omega) zE (List.Sublist.refl _)
    ·
     intro h31
     have hkm : ¬ l[m].1 < r := by rw [cmpN_lt] at h31; exact of_decide_eq_false h31
     refine VC.region ?_
     refine VL.q (Q.move rfl) ?_
     refine VL.q (Q.assign rfl) ?_
     refine VL.nil ?_
     refine VE.block_normal ?_
     refine VE.then_normal ?_
     exact VE.round (i, m) (hx.down hs hlt hmd hml hkm) (by omega) zE (List.Sublist.refl _)
  ·
   intro h17
   have hge : ¬ i < j := by have := of_decide_eq_false h17; omega
   refine VC.exit ?_
   refine VE.then_exit ?_
   refine VE.then_exit ?_
   refine VE.block_here ?_
   refine VE.seq ?_
   refine VC.seq ?_
   refine VA.start (Ls := [.blk g4 [.int .u8 2, .int .u8 0, .int .u8 0, .int .u8 0, .int .u8 2, .int .u8 (r : Int)] 44]) (Cs := []) mixed ?_
   refine VA.tk 0 rfl (Still.then Still.body) (List.singleton_sublist.2 zM) Cells.nil (Quiet.c (Q.move rfl)) ?_
   refine VA.tk 1 rfl (Still.then Still.body) (List.singleton_sublist.2 zM) Cells.nil (Quiet.c (Q.move rfl)) ?_
   refine VA.tk 2 rfl (Still.then Still.body) (List.singleton_sublist.2 zM) Cells.nil (Quiet.c (Q.move rfl)) ?_
   refine VA.tk 3 rfl (Still.then Still.body) (List.singleton_sublist.2 zM) Cells.nil (Quiet.c (Q.lt rfl rfl)) ?_
   refine VA.tk 4 rfl (Still.then Still.body) (List.singleton_sublist.2 zM) Cells.nil (Quiet.c (Q.move rfl)) ?_
   refine VK.case 39 rfl ?_ ?_
   ·
    intro h39
    have hil : i < l.length := by have := of_decide_eq_true h39; omega
    obtain ⟨b0, o0, rfl⟩ := hro.pos (by rw [fm_length hopC_len]; omega)
    refine VA.takeY 5 rfl rfl rfl (by kernel_rfl) (by kernel_rfl) (by kernel_rfl) (Still.then Still.body) (List.singleton_sublist.2 zM) Cells.nil (by decide) (Quiet.c (Q.move rfl)) ?_
    refine VA.takeY 6 rfl rfl rfl (by kernel_rfl) (by kernel_rfl) (by kernel_rfl) (Still.then Still.body) (List.singleton_sublist.2 zM) Cells.nil (by decide) (Quiet.c (Q.move rfl)) ?_
    refine VA.takeY 7 rfl rfl rfl (by kernel_rfl) (by kernel_rfl) (by kernel_rfl) (Still.then Still.body) (List.singleton_sublist.2 zM) Cells.nil (by decide) (Quiet.c (Q.move rfl)) ?_
    refine VA.takeY 8 rfl rfl rfl (by kernel_rfl) (by kernel_rfl) (by kernel_rfl) (Still.then Still.body) (List.singleton_sublist.2 zM) Cells.nil (by decide) (Quiet.c (Q.indexAddr sl53 (j := i) rfl rfl rfl hil)) ?_
    refine VA.takeY 9 rfl rfl rfl (by kernel_rfl) (by kernel_rfl) (by kernel_rfl) (Still.then Still.body) (List.singleton_sublist.2 zM) Cells.nil (by decide) (Quiet.c (Q.load0A (xs := hopC l[i]) ty252 rfl (Rd.sg hro (fm_seg hopC_len l i (by omega))) (by simp))) ?_
    refine VA.takeY 10 rfl rfl rfl (by kernel_rfl) (by kernel_rfl) (by kernel_rfl) (Still.then Still.body) (List.singleton_sublist.2 zM) Cells.nil (by decide) (Quiet.c (Q.loadA ty44 rfl zM zS)) ?_
    refine VA.all (rs := [11]) (by kernel_rfl) (by simp) ?_
    refine VA.forall1 ?_
    ·
     refine VA.effY rfl rfl rfl ?_
     refine id (O.call0 ok182 rfl rfl (by decide) (hopcmp_c l[i] r (hk _ (List.getElem_mem hil)) hr) (fun _ _ _ => trivial) ?_)
     intro x46 y46
     refine VA.next (List.singleton_sublist.2 zM) Cells.nil ?_
     refine VA.takeY 12 rfl rfl rfl (by kernel_rfl) (by kernel_rfl) (by kernel_rfl) (Still.then Still.body) (List.singleton_sublist.2 zM) Cells.nil (by decide) (Quiet.c (Q.eq rfl rfl)) ?_
     refine VA.tk 13 rfl (Still.then Still.body) (List.singleton_sublist.2 zM) Cells.nil (Quiet.c (Q.pick_true rfl rfl)) ?_
     refine VA.tk 14 rfl (Still.then Still.body) (List.singleton_sublist.2 zM) Cells.nil (Quiet.c (Q.assign rfl)) ?_
     refine VA.tk 15 rfl (Still.then Still.body) (List.singleton_sublist.2 zM) Cells.nil (Quiet.c (Q.assign rfl)) ?_
     refine VA.done (by kernel_rfl) ?_
     refine VE.seq ?_
     refine VC.ret ?_
     exact VE.ret rfl (.tmp rfl (.tmp rfl .nil)) (i, _) (hx.is hge (fun e => ⟨hil, by rw [cmpN_eq] at e; exact eq_of_beq e⟩) (fun e h => by rw [cmpN_eq] at e; simpa using e)) rfl zB
   ·
    intro h39
    have hil : ¬ i < l.length := by have := of_decide_eq_false h39; omega
    refine VA.takeN 5 rfl rfl rfl (.inl rfl) (by kernel_rfl) (by kernel_rfl) (by kernel_rfl) (Still.then Still.body) (List.singleton_sublist.2 zM) Cells.nil (by decide) ?_
    refine VA.takeN 6 rfl rfl rfl (.inl rfl) (by kernel_rfl) (by kernel_rfl) (by kernel_rfl) (Still.then Still.body) (List.singleton_sublist.2 zM) Cells.nil (by decide) ?_
    refine VA.takeN 7 rfl rfl rfl (.inl rfl) (by kernel_rfl) (by kernel_rfl) (by kernel_rfl) (Still.then Still.body) (List.singleton_sublist.2 zM) Cells.nil (by decide) ?_
    refine VA.takeN 8 rfl rfl rfl (.inl rfl) (by kernel_rfl) (by kernel_rfl) (by kernel_rfl) (Still.then Still.body) (List.singleton_sublist.2 zM) Cells.nil (by decide) ?_
    refine VA.takeN 9 rfl rfl rfl (.inl rfl) (by kernel_rfl) (by kernel_rfl) (by kernel_rfl) (Still.then Still.body) (List.singleton_sublist.2 zM) Cells.nil (by decide) ?_
    refine VA.takeN 10 rfl rfl rfl (.inl rfl) (by kernel_rfl) (by kernel_rfl) (by kernel_rfl) (Still.then Still.body) (List.singleton_sublist.2 zM) Cells.nil (by decide) ?_
    refine VA.takeN 11 rfl rfl rfl (.inl rfl) (by kernel_rfl) (by kernel_rfl) (by kernel_rfl) (Still.then Still.body) (List.singleton_sublist.2 zM) Cells.nil (by decide) ?_
    refine VA.takeN 12 rfl rfl rfl (.inl rfl) (by kernel_rfl) (by kernel_rfl) (by kernel_rfl) (Still.then Still.body) (List.singleton_sublist.2 zM) Cells.nil (by decide) ?_
    refine VA.tk 13 rfl (Still.then Still.body) (List.singleton_sublist.2 zM) Cells.nil (Quiet.c (Q.pick_false rfl rfl)) ?_
    refine VA.tk 14 rfl (Still.then Still.body) (List.singleton_sublist.2 zM) Cells.nil (Quiet.c (Q.assign rfl)) ?_
    refine VA.tk 15 rfl (Still.then Still.body) (List.singleton_sublist.2 zM) Cells.nil (Quiet.c (Q.assign rfl)) ?_
    refine VA.done (by kernel_rfl) ?_
    refine VE.seq ?_
    refine VC.ret ?_
    exact VE.ret rfl (.tmp rfl (.tmp rfl .nil)) (i, false) (hx.is hge (fun e => by cases e) (fun _ h => absurd h hil)) rfl zB

theorem ext_ov_tree (args : Array Value) (W : World) : (callFunc 178 args).run Tryz.prog W = ((Extern.SlicesOverlaps.overlaps #[47, 47] #[4] args).run Tryz.prog W).andThen fun v w' => .ok (.value v) w' :=
  run_callFunc_extern Tryz.func178 (by kernel_rfl) (by kernel_rfl) (by kernel_rfl) (e := Extern.SlicesOverlaps.overlaps #[47, 47] #[4]) (by kernel_rfl) args W

theorem insend_tree (p : Option Addr) (n c gv : Nat) (xs ys : List Value) (hy : ys.length = 17) (hy1 : ys.all one = true) (hn : n ≤ 1000) (hc : n ≤ c) :
  Does Tryz.prog 116 [.slice p n c, .int .i64 (n : Int), .slice (some ⟨gv, 0, none⟩) 1 1] [.row (.slice p n c) 151 17 n xs, .blk gv ys 151] (fun _ => True) (X := Option Addr × Nat) (fun x => n + 1 ≤ x.2) (fun x => .slice x.1 (n + 1) x.2) (fun x => [.row (.slice x.1 (n + 1) x.2) 151 17 (n + 1) (xs ++ ys)]) := by
 refine Does.enter Tryz.func116 rfl (m := 95) rfl (by simp) ?_
 intro W0 hro
 refine VC.seq ?_
 refine VC.region ?_
 refine VL.q (Q.assign rfl) ?_
 refine VL.nil ?_
 refine VE.seq ?_
 refine VC.seq ?_
 refine VC.region ?_
 refine VL.q (Q.move rfl) ?_
 refine VL.q (Q.move rfl) ?_
 refine VL.q (Q.slcP sl47 (l := n) (h := n) rfl ⟨_, _, rfl, rfl⟩ rfl (by omega) hc) ?_
 refine VL.nil ?_
 refine VE.seq ?_
 refine VC.seq ?_
 refine VC.region ?_
 refine VL.q (Q.move rfl) ?_
 refine VL.q (Q.len sl47 rfl) ?_
 refine VL.q (Q.assign rfl) ?_
 refine VL.nil ?_
 refine VE.seq ?_
 refine VC.seq ?_
 refine VC.seq ?_
 refine VC.region ?_
 refine VL.q (Q.move rfl) ?_
 refine VL.quietE (v' := .bool false) (by decide) (Q.eq rfl rfl) (by rfl) ?_
 refine VL.nil ?_
 refine VE.seq ?_
 refine VC.condF rfl ?_
 refine VC.skip ?_
 refine VE.seq ?_
 refine VC.seq ?_
 refine VC.region ?_
 refine VL.q (Q.move rfl) ?_
 refine VL.q (Q.len sl47 rfl) ?_
 refine VL.q (Q.assign rfl) ?_
 refine VL.nil ?_
 refine VE.seq ?_
 refine VC.seq ?_
 refine VC.seq ?_
 refine VC.region ?_
 refine VL.q (Q.move rfl) ?_
 refine VL.q (Q.move rfl) ?_
 refine VL.quietE (v' := .bool true) (by decide) (Q.eq rfl rfl) (congrArg Value.bool (decide_eq_true (by omega))) ?_
 refine VL.nil ?_
 refine VE.seq ?_
 refine VC.condT rfl ?_
 refine VC.seq ?_
 refine VC.region ?_
 refine VL.q (Q.move rfl) ?_
 refine VL.q (Q.move rfl) ?_
 refine VL.eff (O.append sl47 ze151 rfl (by decide) rfl rfl (by omega) hy1 (by decide) (by unfold maxLen; omega) (by omega) zA (fun _ _ hw => Rd.seg (k := 17) hw zM (by rw [← hy]; exact Seg.all)) ?_)
 intro p25 c25 hc25
 refine VL.q (Q.assign rfl) ?_
 refine VL.nil ?_
 refine VE.seq ?_
 refine VC.ret ?_
 refine VE.then_ret ?_
 exact VE.ret rfl (.tmp rfl .nil) (p25, c25) hc25 rfl zB

theorem insfront_tree (g c gv : Nat) (xs ys : List Value) (hx : xs.length = 17) (hx1 : xs.all one = true) (hy : ys.length = 17) (hy1 : ys.all one = true) (hc : 1 ≤ c) (hg : gv ≠ g) :
  Does Tryz.prog 116 [.slice (some ⟨g, 0, none⟩) 1 c, .int .i64 0, .slice (some ⟨gv, 0, none⟩) 1 1] [.row (.slice (some ⟨g, 0, none⟩) 1 c) 151 17 1 xs, .blk gv ys 151] (fun _ => True) (X := Option Addr × Nat) (fun x => 2 ≤ x.2) (fun x => .slice x.1 2 x.2) (fun x => [.row (.slice x.1 2 x.2) 151 17 2 (ys ++ xs)]) := by
 refine Does.enter Tryz.func116 rfl (m := 95) rfl (by simp) ?_
 intro W0 hro
 refine VC.seq ?_
 refine VC.region ?_
 refine VL.q (Q.assign rfl) ?_
 refine VL.nil ?_
 refine VE.seq ?_
 refine VC.seq ?_
 refine VC.region ?_
 refine VL.q (Q.move rfl) ?_
 refine VL.q (Q.move rfl) ?_
 refine VL.q (Q.slcL sl47 (l := 0) (h := _) rfl ⟨_, _, rfl, rfl⟩ rfl (by omega) (by omega) (by omega)) ?_
 refine VL.nil ?_
 refine VE.seq ?_
 refine VC.seq ?_
 refine VC.region ?_
 refine VL.q (Q.move rfl) ?_
 refine VL.q (Q.len sl47 rfl) ?_
 refine VL.q (Q.assign rfl) ?_
 refine VL.nil ?_
 refine VE.seq ?_
 refine VC.seq ?_
 refine VC.seq ?_
 refine VC.region ?_
 refine VL.q (Q.move rfl) ?_
 refine VL.quietE (v' := .bool false) (by decide) (Q.eq rfl rfl) (by rfl) ?_
 refine VL.nil ?_
 refine VE.seq ?_
 refine VC.condF rfl ?_
 refine VC.skip ?_
 refine VE.seq ?_
 refine VC.seq ?_
 refine VC.region ?_
 refine VL.q (Q.move rfl) ?_
 refine VL.q (Q.len sl47 rfl) ?_
 refine VL.q (Q.assign rfl) ?_
 refine VL.nil ?_
 refine VE.seq ?_
 refine VC.seq ?_
 refine VC.seq ?_
 refine VC.region ?_
 refine VL.q (Q.move rfl) ?_
 refine VL.q (Q.move rfl) ?_
 refine VL.quietE (v' := .bool false) (by decide) (Q.eq rfl rfl) (by rfl) ?_
 refine VL.nil ?_
 refine VE.seq ?_
 refine VC.condF rfl ?_
 refine VC.skip ?_
 refine VE.seq ?_
 refine VC.seq ?_
 refine VC.seq ?_
 refine VC.region ?_
 refine VL.q (Q.move rfl) ?_
 refine VL.q (Q.move rfl) ?_
 refine VL.quietE (v' := .int .i64 2) (by decide) ((by first | exact Q.addI rfl rfl (by omega) (by omega) | exact Q.add rfl rfl)) (by rfl) ?_
 refine VL.q (Q.move rfl) ?_
 refine VL.q (Q.cap sl47 rfl) ?_
 refine VL.q (Q.gt rfl rfl) ?_
 refine VL.nil ?_
 refine VE.seq ?_
 refine VC.cond rfl ?_ ?_
 ·
  intro h31
  have hlt : c < 2 := by have := of_decide_eq_true h31; omega
  refine VC.seq ?_
  refine VC.region ?_
  refine VL.q (Q.move rfl) ?_
  refine VL.q (Q.move rfl) ?_
  refine VL.q (Q.slc0 sl47 (h := 0) rfl ⟨_, _, rfl, rfl⟩ (by omega)) ?_
  refine VL.q (Q.move rfl) ?_
  refine VL.q (Q.move rfl) ?_
  refine VL.quietE (v' := .int .i64 2) (by decide) ((by first | exact Q.addI rfl rfl (by omega) (by omega) | exact Q.add rfl rfl)) (by rfl) ?_
  refine VL.q (Q.move rfl) ?_
  refine VL.quietE (v' := .int .i64 2) (by decide) ((by first | exact Q.subI rfl rfl (by omega) (by omega) | exact Q.sub rfl rfl)) (by rfl) ?_
  refine VL.eff (O.appendMake (m := 2) sl47 ti3 ze151 rfl (by decide) rfl rfl hlt (by decide) (by decide) (by decide) ?_)
  intro g40 C40 c40 hc40 hx40 hC40
  refine VL.q (Q.assign rfl) ?_
  refine VL.nil ?_
  refine VE.seq ?_
  refine VC.seq ?_
  refine VC.region ?_
  refine VL.q (Q.move rfl) ?_
  refine VL.q (Q.move rfl) ?_
  refine VL.q (Q.slcL sl47 (l := 0) (h := _) rfl ⟨_, _, rfl, rfl⟩ rfl (by omega) (by omega) (by omega)) ?_
  refine VL.q (Q.move rfl) ?_
  refine VL.eff (O.copy (news := ys) (C' := ys ++ C40.drop ys.length) sl47 rfl rfl (by rw [hy]; decide) hy1 (by decide) (fun _ _ hw => Rd.seg (k := 17) hw zM (by rw [← hy]; exact Seg.all)) zU (Put.front (by omega)) ?_)
  refine VL.nil ?_
  refine VE.seq ?_
  refine VC.seq ?_
  refine VA.start (Ls := []) (Cs := []) mixed ?_
  refine VA.tk 0 rfl (Still.then (Still.then Still.body)) (List.nil_sublist _) Cells.nil (Quiet.c (Q.move rfl)) ?_
  refine VA.tk 1 rfl (Still.then (Still.then Still.body)) (List.nil_sublist _) Cells.nil (Quiet.c (Q.move rfl)) ?_
  refine VA.tk 2 rfl (Still.then (Still.then Still.body)) (List.nil_sublist _) Cells.nil (Quiet.c (Q.move rfl)) ?_
  refine VA.tk 3 rfl (Still.then (Still.then Still.body)) (List.nil_sublist _) Cells.nil (Quiet.c ((by first | exact Q.addI rfl rfl (by omega) (by omega) | exact Q.add rfl rfl))) ?_
  refine VA.tk 4 rfl (Still.then (Still.then Still.body)) (List.nil_sublist _) Cells.nil (Quiet.c (Q.slcL sl47 (l := 1) (h := _) rfl ⟨_, _, rfl, rfl⟩ rfl (by omega) (by omega) (by omega))) ?_
  refine VA.tk 5 rfl (Still.then (Still.then Still.body)) (List.nil_sublist _) Cells.nil (Quiet.c (Q.move rfl)) ?_
  refine VA.tk 6 rfl (Still.then (Still.then Still.body)) (List.nil_sublist _) Cells.nil (Quiet.c (Q.move rfl)) ?_
  refine VA.tk 7 rfl (Still.then (Still.then Still.body)) (List.nil_sublist _) Cells.nil (Quiet.c (Q.slcL sl47 (l := 0) (h := _) rfl ⟨_, _, rfl, rfl⟩ rfl (by omega) (by omega) (by omega))) ?_
  refine VA.all (rs := [8]) (by kernel_rfl) (by simp) ?_
  refine VA.forall1 ?_
  ·
   refine VA.eff rfl ?_
   refine id (O.copy (news := xs) (C' := ys ++ (xs ++ (C40.drop ys.length).drop xs.length)) sl47 rfl rfl (by rw [hx]; decide) hx1 (by decide) (fun _ _ hw => Rd.row hw zM) zU (put_back hy (by rw [List.length_drop]; omega)) ?_)
   refine VA.next (List.nil_sublist _) Cells.nil ?_
   refine VA.done (by kernel_rfl) ?_
   refine VE.seq ?_
   refine VC.seq ?_
   refine VK.keep (by exact .cons (i := 0) rfl (.cons (i := 1) rfl (.cons (i := 2) rfl (.cons (i := 6) rfl (.cons (i := 7) rfl (.cons (i := 8) rfl (.cons (i := 9) rfl ( .nil)))))))) ?_
   refine VC.region ?_
   refine VL.q (Q.move rfl) ?_
   refine VL.q (Q.assign rfl) ?_
   refine VL.nil ?_
   refine VE.seq ?_
   refine VC.ret ?_
   refine VE.then_ret ?_
   refine VK.toRow (g := g40) (s := 17) (m := 2) (c := c40) zU (by simp only [List.length_append, List.length_drop]; omega) (by omega) hx40 ?_
   rw [take_two hy hx]
   exact VE.ret rfl (.tmp rfl .nil) (_, c40) hc40 rfl zB
 ·
  intro h31
  have hge : 2 ≤ c := by have := of_decide_eq_false h31; omega
  refine VK.openAt (g := g) (m := 1) (c := c) (s := 17) (xs := xs) zA ?_
  intro D hD _ hcc hcx
  refine VC.skip ?_
  refine VE.seq ?_
  refine VC.seq ?_
  refine VC.region ?_
  refine VL.q (Q.move rfl) ?_
  refine VL.q (Q.move rfl) ?_
  refine VL.q (Q.move rfl) ?_
  refine VL.quietE (v' := .int .i64 2) (by decide) ((by first | exact Q.addI rfl rfl (by omega) (by omega) | exact Q.add rfl rfl)) (by rfl) ?_
  refine VL.q (Q.slc0 sl47 (h := 2) rfl ⟨_, _, rfl, rfl⟩ (by omega)) ?_
  refine VL.q (Q.assign rfl) ?_
  refine VL.nil ?_
  refine VE.seq ?_
  refine VC.seq ?_
  refine VC.seq ?_
  refine VC.region ?_
  refine VL.q (Q.move rfl) ?_
  refine VL.q (Q.move rfl) ?_
  refine VL.q (Q.move rfl) ?_
  refine VL.q (Q.move rfl) ?_
  refine VL.quietE (v' := .int .i64 1) (by decide) ((by first | exact Q.addI rfl rfl (by omega) (by omega) | exact Q.add rfl rfl)) (by rfl) ?_
  refine VL.q (Q.slcL sl47 (l := 1) (h := _) rfl ⟨_, _, rfl, rfl⟩ rfl (by omega) (by omega) (by omega)) ?_
  refine VL.q (Q.ext (v := .bool false) rfl rfl (fun W _ hw => by rw [ext_ov_tree]; have h3 := own_overlaps (tR := 4) (o := 0) (o' := 0 + 1 * 17) (m := 1) (c := 1) (m' := 2 - 1) (c' := c - 1) sl47 hw (g := gv) (g' := g) (C := ys) (C' := xs ++ D) zM zM hg (by rw [List.length_append]; omega); exact (congrArg (fun r => Result.andThen r _) h3))) ?_
  refine VL.quietE (v' := .bool true) (by decide) (Q.not rfl) (by rfl) ?_
  refine VL.nil ?_
  refine VE.seq ?_
  refine VC.condT rfl ?_
  refine VC.seq ?_
  refine VA.start (Ls := []) (Cs := []) mixed ?_
  refine VA.tk 0 rfl (Still.then (Still.then Still.body)) (List.nil_sublist _) Cells.nil (Quiet.c (Q.move rfl)) ?_
  refine VA.tk 1 rfl (Still.then (Still.then Still.body)) (List.nil_sublist _) Cells.nil (Quiet.c (Q.move rfl)) ?_
  refine VA.tk 2 rfl (Still.then (Still.then Still.body)) (List.nil_sublist _) Cells.nil (Quiet.c (Q.move rfl)) ?_
  refine VA.tk 3 rfl (Still.then (Still.then Still.body)) (List.nil_sublist _) Cells.nil (Quiet.c ((by first | exact Q.addI rfl rfl (by omega) (by omega) | exact Q.add rfl rfl))) ?_
  refine VA.tk 4 rfl (Still.then (Still.then Still.body)) (List.nil_sublist _) Cells.nil (Quiet.c (Q.slcL sl47 (l := 1) (h := _) rfl ⟨_, _, rfl, rfl⟩ rfl (by omega) (by omega) (by omega))) ?_
  refine VA.tk 5 rfl (Still.then (Still.then Still.body)) (List.nil_sublist _) Cells.nil (Quiet.c (Q.move rfl)) ?_
  refine VA.tk 6 rfl (Still.then (Still.then Still.body)) (List.nil_sublist _) Cells.nil (Quiet.c (Q.move rfl)) ?_
  refine VA.tk 7 rfl (Still.then (Still.then Still.body)) (List.nil_sublist _) Cells.nil (Quiet.c (Q.slcL sl47 (l := 0) (h := _) rfl ⟨_, _, rfl, rfl⟩ rfl (by omega) (by omega) (by omega))) ?_
  refine VA.all (rs := [8]) (by kernel_rfl) (by simp) ?_
  refine VA.forall1 ?_
  ·
   refine VA.eff rfl ?_
   refine id (O.copy (news := xs) (C' := xs ++ (xs ++ D.drop xs.length)) sl47 rfl rfl (by rw [hx]; decide) hx1 (by decide) (fun _ _ hw => Rd.seg (k := 17) hw zM (seg_front hx)) zU (put_back hx (by omega)) ?_)
   refine VA.next (List.nil_sublist _) Cells.nil ?_
   refine VA.done (by kernel_rfl) ?_
   refine VE.seq ?_
   refine VC.seq ?_
   refine VK.keep (by exact .cons (i := 0) rfl (.cons (i := 1) rfl (.cons (i := 2) rfl (.cons (i := 6) rfl (.cons (i := 7) rfl (.cons (i := 8) rfl ( .nil))))))) ?_
   refine VC.region ?_
   refine VL.q (Q.move rfl) ?_
   refine VL.q (Q.move rfl) ?_
   refine VL.q (Q.slcL sl47 (l := 0) (h := _) rfl ⟨_, _, rfl, rfl⟩ rfl (by omega) (by omega) (by omega)) ?_
   refine VL.q (Q.move rfl) ?_
   refine VL.eff (O.copy (news := ys) (C' := ys ++ (xs ++ D.drop xs.length)) sl47 rfl rfl (by rw [hy]; decide) hy1 (by decide) (fun _ _ hw => Rd.seg (k := 17) hw zM (by rw [← hy]; exact Seg.all)) zU (put_over (by omega)) ?_)
   refine VL.nil ?_
   refine VE.seq ?_
   refine VC.seq ?_
   refine VC.region ?_
   refine VL.q (Q.move rfl) ?_
   refine VL.q (Q.assign rfl) ?_
   refine VL.nil ?_
   refine VE.seq ?_
   refine VC.ret ?_
   refine VE.then_ret ?_
   refine VK.toRow (g := g) (s := 17) (m := 2) (c := c) zU (by simp only [List.length_append, List.length_drop]; omega) (by omega) hcx ?_
   rw [take_two hy hx]
   exact VE.ret rfl (.tmp rfl .nil) (_, c) hge rfl zB

theorem ext_ov_hop (args : Array Value) (W : World) : (callFunc 184 args).run Tryz.prog W = ((Extern.SlicesOverlaps.overlaps #[53, 53] #[4] args).run Tryz.prog W).andThen fun v w' => .ok (.value v) w' :=
  run_callFunc_extern Tryz.func184 (by kernel_rfl) (by kernel_rfl) (by kernel_rfl) (e := Extern.SlicesOverlaps.overlaps #[53, 53] #[4]) (by kernel_rfl) args W

theorem insend_hop (p : Option Addr) (n c gv : Nat) (xs ys : List Value) (hy : ys.length = 12) (hy1 : ys.all one = true) (hn : n ≤ 1000) (hc : n ≤ c) :
  Does Tryz.prog 121 [.slice p n c, .int .i64 (n : Int), .slice (some ⟨gv, 0, none⟩) 1 1] [.row (.slice p n c) 252 12 n xs, .blk gv ys 252] (fun _ => True) (X := Option Addr × Nat) (fun x => n + 1 ≤ x.2) (fun x => .slice x.1 (n + 1) x.2) (fun x => [.row (.slice x.1 (n + 1) x.2) 252 12 (n + 1) (xs ++ ys)]) := by
 refine Does.enter Tryz.func121 rfl (m := 95) rfl (by simp) ?_
 intro W0 hro
 refine VC.seq ?_
 refine VC.region ?_
 refine VL.q (Q.assign rfl) ?_
 refine VL.nil ?_
 refine VE.seq ?_
 refine VC.seq ?_
 refine VC.region ?_
 refine VL.q (Q.move rfl) ?_
 refine VL.q (Q.move rfl) ?_
 refine VL.q (Q.slcP sl53 (l := n) (h := n) rfl ⟨_, _, rfl, rfl⟩ rfl (by omega) hc) ?_
 refine VL.nil ?_
 refine VE.seq ?_
 refine VC.seq ?_
 refine VC.region ?_
 refine VL.q (Q.move rfl) ?_
 refine VL.q (Q.len sl53 rfl) ?_
 refine VL.q (Q.assign rfl) ?_
 refine VL.nil ?_
 refine VE.seq ?_
 refine VC.seq ?_
 refine VC.seq ?_
 refine VC.region ?_
 refine VL.q (Q.move rfl) ?_
 refine VL.quietE (v' := .bool false) (by decide) (Q.eq rfl rfl) (by rfl) ?_
 refine VL.nil ?_
 refine VE.seq ?_
 refine VC.condF rfl ?_
 refine VC.skip ?_
 refine VE.seq ?_
 refine VC.seq ?_
 refine VC.region ?_
 refine VL.q (Q.move rfl) ?_
 refine VL.q (Q.len sl53 rfl) ?_
 refine VL.q (Q.assign rfl) ?_
 refine VL.nil ?_
 refine VE.seq ?_
 refine VC.seq ?_
 refine VC.seq ?_
 refine VC.region ?_
 refine VL.q (Q.move rfl) ?_
 refine VL.q (Q.move rfl) ?_
 refine VL.quietE (v' := .bool true) (by decide) (Q.eq rfl rfl) (congrArg Value.bool (decide_eq_true (by omega))) ?_
 refine VL.nil ?_
 refine VE.seq ?_
 refine VC.condT rfl ?_
 refine VC.seq ?_
 refine VC.region ?_
 refine VL.q (Q.move rfl) ?_
 refine VL.q (Q.move rfl) ?_
 refine VL.eff (O.append sl53 ze252 rfl (by decide) rfl rfl (by omega) hy1 (by decide) (by unfold maxLen; omega) (by omega) zA (fun _ _ hw => Rd.seg (k := 12) hw zM (by rw [← hy]; exact Seg.all)) ?_)
 intro p25 c25 hc25
 refine VL.q (Q.assign rfl) ?_
 refine VL.nil ?_
 refine VE.seq ?_
 refine VC.ret ?_
 refine VE.then_ret ?_
 exact VE.ret rfl (.tmp rfl .nil) (p25, c25) hc25 rfl zB

theorem insfront_hop (g c gv : Nat) (xs ys : List Value) (hx : xs.length = 12) (hx1 : xs.all one = true) (hy : ys.length = 12) (hy1 : ys.all one = true) (hc : 1 ≤ c) (hg : gv ≠ g) :
  Does Tryz.prog 121 [.slice (some ⟨g, 0, none⟩) 1 c, .int .i64 0, .slice (some ⟨gv, 0, none⟩) 1 1] [.row (.slice (some ⟨g, 0, none⟩) 1 c) 252 12 1 xs, .blk gv ys 252] (fun _ => True) (X := Option Addr × Nat) (fun x => 2 ≤ x.2) (fun x => .slice x.1 2 x.2) (fun x => [.row (.slice x.1 2 x.2) 252 12 2 (ys ++ xs)]) := by
 refine Does.enter Tryz.func121 rfl (m := 95) rfl (by simp) ?_
 intro W0 hro
 refine VC.seq ?_
 refine VC.region ?_
 refine VL.q (Q.assign rfl) ?_
 refine VL.nil ?_
 refine VE.seq ?_
 refine VC.seq ?_
 refine VC.region ?_
 refine VL.q (Q.move rfl) ?_
 refine VL.q (Q.move rfl) ?_
 refine VL.q (Q.slcL sl53 (l := 0) (h := _) rfl ⟨_, _, rfl, rfl⟩ rfl (by omega) (by omega) (by omega)) ?_
 refine VL.nil ?_
 refine VE.seq ?_
 refine VC.seq ?_
 refine VC.region ?_
 refine VL.q (Q.move rfl) ?_
 refine VL.q (Q.len sl53 rfl) ?_
 refine VL.q (Q.assign rfl) ?_
 refine VL.nil ?_
 refine VE.seq ?_
 refine VC.seq ?_
 refine VC.seq ?_
 refine VC.region ?_
 refine VL.q (Q.move rfl) ?_
 refine VL.quietE (v' := .bool false) (by decide) (Q.eq rfl rfl) (by rfl) ?_
 refine VL.nil ?_
 refine VE.seq ?_
 refine VC.condF rfl ?_
 refine VC.skip ?_
 refine VE.seq ?_
 refine VC.seq ?_
 refine VC.region ?_
 refine VL.q (Q.move rfl) ?_
 refine VL.q (Q.len sl53 rfl) ?_
 refine VL.q (Q.assign rfl) ?_
 refine VL.nil ?_
 refine VE.seq ?_
 refine VC.seq ?_
 refine VC.seq ?_
 refine VC.region ?_
 refine VL.q (Q.move rfl) ?_
 refine VL.q (Q.move rfl) ?_
 refine VL.quietE (v' := .bool false) (by decide) (Q.eq rfl rfl) (by rfl) ?_
 refine VL.nil ?_
 refine VE.seq ?_
 refine VC.condF rfl ?_
 refine VC.skip ?_
 refine VE.seq ?_
 refine VC.seq ?_
 refine VC.seq ?_
 refine VC.region ?_
 refine VL.q (Q.move rfl) ?_
 refine VL.q (Q.move rfl) ?_
 refine VL.quietE (v' := .int .i64 2) (by decide) ((by first | exact Q.addI rfl rfl (by omega) (by omega) | exact Q.add rfl rfl)) (by rfl) ?_
 refine VL.q (Q.move rfl) ?_
 refine VL.q (Q.cap sl53 rfl) ?_
 refine VL.q (Q.gt rfl rfl) ?_
 refine VL.nil ?_
 refine VE.seq ?_
 refine VC.cond rfl ?_ ?_
 ·
  intro h31
  have hlt : c < 2 := by have := of_decide_eq_true h31; omega
  refine VC.seq ?_
  refine VC.region ?_
  refine VL.q (Q.move rfl) ?_
  refine VL.q (Q.move rfl) ?_
  refine VL.q (Q.slc0 sl53 (h := 0) rfl ⟨_, _, rfl, rfl⟩ (by omega)) ?_
  refine VL.q (Q.move rfl) ?_
  refine VL.q (Q.move rfl) ?_
  refine VL.quietE (v' := .int .i64 2) (by decide) ((by first | exact Q.addI rfl rfl (by omega) (by omega) | exact Q.add rfl rfl)) (by rfl) ?_
  refine VL.q (Q.move rfl) ?_
  refine VL.quietE (v' := .int .i64 2) (by decide) ((by first | exact Q.subI rfl rfl (by omega) (by omega) | exact Q.sub rfl rfl)) (by rfl) ?_
  refine VL.eff (O.appendMake (m := 2) sl53 ti3 ze252 rfl (by decide) rfl rfl hlt (by decide) (by decide) (by decide) ?_)
  intro g40 C40 c40 hc40 hx40 hC40
  refine VL.q (Q.assign rfl) ?_
  refine VL.nil ?_
  refine VE.seq ?_
  refine VC.seq ?_
  refine VC.region ?_
  refine VL.q (Q.move rfl) ?_
  refine VL.q (Q.move rfl) ?_
  refine VL.q (Q.slcL sl53 (l := 0) (h := _) rfl ⟨_, _, rfl, rfl⟩ rfl (by omega) (by omega) (by omega)) ?_
  refine VL.q (Q.move rfl) ?_
  refine VL.eff (O.copy (news := ys) (C' := ys ++ C40.drop ys.length) sl53 rfl rfl (by rw [hy]; decide) hy1 (by decide) (fun _ _ hw => Rd.seg (k := 12) hw zM (by rw [← hy]; exact Seg.all)) zU (Put.front (by omega)) ?_)
  refine VL.nil ?_
  refine VE.seq ?_
  refine VC.seq ?_
  refine VA.start (Ls := []) (Cs := []) mixed ?_
  refine VA.tk 0 rfl (Still.then (Still.then Still.body)) (List.nil_sublist _) Cells.nil (Quiet.c (Q.move rfl)) ?_
  refine VA.tk 1 rfl (Still.then (Still.then Still.body)) (List.nil_sublist _) Cells.nil (Quiet.c (Q.move rfl)) ?_
  refine VA.tk 2 rfl (Still.then (Still.then Still.body)) (List.nil_sublist _) Cells.nil (Quiet.c (Q.move rfl)) ?_
  refine VA.tk 3 rfl (Still.then (Still.then Still.body)) (List.nil_sublist _) Cells.nil (Quiet.c ((by first | exact Q.addI rfl rfl (by omega) (by omega) | exact Q.add rfl rfl))) ?_
  refine VA.tk 4 rfl (Still.then (Still.then Still.body)) (List.nil_sublist _) Cells.nil (Quiet.c (Q.slcL sl53 (l := 1) (h := _) rfl ⟨_, _, rfl, rfl⟩ rfl (by omega) (by omega) (by omega))) ?_
  refine VA.tk 5 rfl (Still.then (Still.then Still.body)) (List.nil_sublist _) Cells.nil (Quiet.c (Q.move rfl)) ?_
  refine VA.tk 6 rfl (Still.then (Still.then Still.body)) (List.nil_sublist _) Cells.nil (Quiet.c (Q.move rfl)) ?_
  refine VA.tk 7 rfl (Still.then (Still.then Still.body)) (List.nil_sublist _) Cells.nil (Quiet.c (Q.slcL sl53 (l := 0) (h := _) rfl ⟨_, _, rfl, rfl⟩ rfl (by omega) (by omega) (by omega))) ?_
  refine VA.all (rs := [8]) (by kernel_rfl) (by simp) ?_
  refine VA.forall1 ?_
  ·
   refine VA.eff rfl ?_
   refine id (O.copy (news := xs) (C' := ys ++ (xs ++ (C40.drop ys.length).drop xs.length)) sl53 rfl rfl (by rw [hx]; decide) hx1 (by decide) (fun _ _ hw => Rd.row hw zM) zU (put_back hy (by rw [List.length_drop]; omega)) ?_)
   refine VA.next (List.nil_sublist _) Cells.nil ?_
   refine VA.done (by kernel_rfl) ?_
   refine VE.seq ?_
   refine VC.seq ?_
   refine VK.keep (by exact .cons (i := 0) rfl (.cons (i := 1) rfl (.cons (i := 2) rfl (.cons (i := 6) rfl (.cons (i := 7) rfl (.cons (i := 8) rfl (.cons (i := 9) rfl ( .nil)))))))) ?_
   refine VC.region ?_
   refine VL.q (Q.move rfl) ?_
   refine VL.q (Q.assign rfl) ?_
   refine VL.nil ?_
   refine VE.seq ?_
   refine VC.ret ?_
   refine VE.then_ret ?_
   refine VK.toRow (g := g40) (s := 12) (m := 2) (c := c40) zU (by simp only [List.length_append, List.length_drop]; omega) (by omega) hx40 ?_
   rw [take_two hy hx]
   exact VE.ret rfl (.tmp rfl .nil) (_, c40) hc40 rfl zB
 ·
  intro h31
  have hge : 2 ≤ c := by have := of_decide_eq_false h31; omega
  refine VK.openAt (g := g) (m := 1) (c := c) (s := 12) (xs := xs) zA ?_
  intro D hD _ hcc hcx
  refine VC.skip ?_
  refine VE.seq ?_
  refine VC.seq ?_
  refine VC.region ?_
  refine VL.q (Q.move rfl) ?_
  refine VL.q (Q.move rfl) ?_
  refine VL.q (Q.move rfl) ?_
  refine VL.quietE (v' := .int .i64 2) (by decide) ((by first | exact Q.addI rfl rfl (by omega) (by omega) | exact Q.add rfl rfl)) (by rfl) ?_
  refine VL.q (Q.slc0 sl53 (h := 2) rfl ⟨_, _, rfl, rfl⟩ (by omega)) ?_
  refine VL.q (Q.assign rfl) ?_
  refine VL.nil ?_
  refine VE.seq ?_
  refine VC.seq ?_
  refine VC.seq ?_
  refine VC.region ?_
  refine VL.q (Q.move rfl) ?_
  refine VL.q (Q.move rfl) ?_
  refine VL.q (Q.move rfl) ?_
  refine VL.q (Q.move rfl) ?_
  refine VL.quietE (v' := .int .i64 1) (by decide) ((by first | exact Q.addI rfl rfl (by omega) (by omega) | exact Q.add rfl rfl)) (by rfl) ?_
  refine VL.q (Q.slcL sl53 (l := 1) (h := _) rfl ⟨_, _, rfl, rfl⟩ rfl (by omega) (by omega) (by omega)) ?_
  refine VL.q (Q.ext (v := .bool false) rfl rfl (fun W _ hw => by rw [ext_ov_hop]; have h3 := own_overlaps (tR := 4) (o := 0) (o' := 0 + 1 * 12) (m := 1) (c := 1) (m' := 2 - 1) (c' := c - 1) sl53 hw (g := gv) (g' := g) (C := ys) (C' := xs ++ D) zM zM hg (by rw [List.length_append]; omega); exact (congrArg (fun r => Result.andThen r _) h3))) ?_
  refine VL.quietE (v' := .bool true) (by decide) (Q.not rfl) (by rfl) ?_
  refine VL.nil ?_
  refine VE.seq ?_
  refine VC.condT rfl ?_
  refine VC.seq ?_
  refine VA.start (Ls := []) (Cs := []) mixed ?_
  refine VA.tk 0 rfl (Still.then (Still.then Still.body)) (List.nil_sublist _) Cells.nil (Quiet.c (Q.move rfl)) ?_
  refine VA.tk 1 rfl (Still.then (Still.then Still.body)) (List.nil_sublist _) Cells.nil (Quiet.c (Q.move rfl)) ?_
  refine VA.tk 2 rfl (Still.then (Still.then Still.body)) (List.nil_sublist _) Cells.nil (Quiet.c (Q.move rfl)) ?_
  refine VA.tk 3 rfl (Still.then (Still.then Still.body)) (List.nil_sublist _) Cells.nil (Quiet.c ((by first | exact Q.addI rfl rfl (by omega) (by omega) | exact Q.add rfl rfl))) ?_
  refine VA.tk 4 rfl (Still.then (Still.then Still.body)) (List.nil_sublist _) Cells.nil (Quiet.c (Q.slcL sl53 (l := 1) (h := _) rfl ⟨_, _, rfl, rfl⟩ rfl (by omega) (by omega) (by omega))) ?_
  refine VA.tk 5 rfl (Still.then (Still.then Still.body)) (List.nil_sublist _) Cells.nil (Quiet.c (Q.move rfl)) ?_
  refine VA.tk 6 rfl (Still.then (Still.then Still.body)) (List.nil_sublist _) Cells.nil (Quiet.c (Q.move rfl)) ?_
  refine VA.tk 7 rfl (Still.then (Still.then Still.body)) (List.nil_sublist _) Cells.nil (Quiet.c (Q.slcL sl53 (l := 0) (h := _) rfl ⟨_, _, rfl, rfl⟩ rfl (by omega) (by omega) (by omega))) ?_
  refine VA.all (rs := [8]) (by kernel_rfl) (by simp) ?_
  refine VA.forall1 ?_
  ·
   refine VA.eff rfl ?_
   refine id (O.copy (news := xs) (C' := xs ++ (xs ++ D.drop xs.length)) sl53 rfl rfl (by rw [hx]; decide) hx1 (by decide) (fun _ _ hw => Rd.seg (k := 12) hw zM (seg_front hx)) zU (put_back hx (by omega)) ?_)
   refine VA.next (List.nil_sublist _) Cells.nil ?_
   refine VA.done (by kernel_rfl) ?_
   refine VE.seq ?_
   refine VC.seq ?_
   refine VK.keep (by exact .cons (i := 0) rfl (.cons (i := 1) rfl (.cons (i := 2) rfl (.cons (i := 6) rfl (.cons (i := 7) rfl (.cons (i := 8) rfl ( .nil))))))) ?_
   refine VC.region ?_
   refine VL.q (Q.move rfl) ?_
   refine VL.q (Q.move rfl) ?_
   refine VL.q (Q.slcL sl53 (l := 0) (h := _) rfl ⟨_, _, rfl, rfl⟩ rfl (by omega) (by omega) (by omega)) ?_
   refine VL.q (Q.move rfl) ?_
   refine VL.eff (O.copy (news := ys) (C' := ys ++ (xs ++ D.drop xs.length)) sl53 rfl rfl (by rw [hy]; decide) hy1 (by decide) (fun _ _ hw => Rd.seg (k := 12) hw zM (by rw [← hy]; exact Seg.all)) zU (put_over (by omega)) ?_)
   refine VL.nil ?_
   refine VE.seq ?_
   refine VC.seq ?_
   refine VC.region ?_
   refine VL.q (Q.move rfl) ?_
   refine VL.q (Q.assign rfl) ?_
   refine VL.nil ?_
   refine VE.seq ?_
   refine VC.ret ?_
   refine VE.then_ret ?_
   refine VK.toRow (g := g) (s := 12) (m := 2) (c := c) zU (by simp only [List.length_append, List.length_drop]; omega) (by omega) hcx ?_
   rw [take_two hy hx]
   exact VE.ret rfl (.tmp rfl .nil) (_, c) hge rfl zB

end Go.Proofs.YtencghlmckbmlaaGreat
