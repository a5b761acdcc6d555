/- The contracts of choosing the best tree. Conditions: those that each bears. -/
import Derived.Test.YtencghlmckbmlaaGreatRows
import Derived.Test.YtencghlmckbmlaaGreatZRoot
namespace Go.Proofs.YtencghlmckbmlaaGreat
open Go Go.RowKit Go.Sx
set_option maxRecDepth 100000

theorem lay151 : laysOf Tryz.prog 151 = some ([.int .u8 0, .int .u8 0, .int .u8 0, .int .u8 0, .int .u8 0, .int .u8 0, .int .u8 0, .int .u8 0, .int .u8 0, .int .u8 0, .int .u8 0, .int .u8 0, .int .i64 0, .int .i64 0, .int .i64 0, .bool false, .int .i64 0], [(0, 6), (6, 6), (12, 1), (13, 1), (14, 1), (15, 1), (16, 1)]) := by kernel_rfl
theorem ok130 : okFunc Tryz.prog 130 = true := by kernel_rfl
theorem ok133 : okFunc Tryz.prog 133 = true := by kernel_rfl
theorem ok134 : okFunc Tryz.prog 134 = true := by kernel_rfl
theorem ok164 : okFunc Tryz.prog 164 = true := by kernel_rfl
theorem ok191 : okFunc Tryz.prog 191 = true := by kernel_rfl
theorem ok93 : okFunc Tryz.prog 93 = true := by kernel_rfl
theorem ok98 : okFunc Tryz.prog 98 = true := by kernel_rfl
theorem sl78 : tySlice Tryz.prog 78 = some (3, 1, 8) := by kernel_rfl
theorem ze3 : (Tryz.prog.info? 3).bind (·.zero) = some (.int .i64 0) := by kernel_rfl

open Go.Mesh
theorem isnan_c (a : Int) :
  Does Tryz.prog 164 [.int .i64 a] [] (fun _ => True) (X := Unit) (fun _ => True) (fun _ => .bool false) (fun _ => []) := by
 refine Does.enter Tryz.func164 rfl (m := 6) rfl (by simp) ?_
 intro W0 hro
 refine VC.seq ?_
 refine VC.region ?_
 refine VL.q (Q.assign rfl) ?_
 refine VL.nil ?_
 refine VE.seq ?_
 refine VC.seq ?_
 refine VC.region ?_
 refine VL.q (Q.move rfl) ?_
 refine VL.q (Q.move rfl) ?_
 refine VL.quietE (v' := .bool false) (by decide) (Q.ne rfl rfl) (congrArg Value.bool (by simp)) ?_
 refine VL.q (Q.assign rfl) ?_
 refine VL.nil ?_
 refine VE.seq ?_
 refine VC.ret ?_
 refine VE.ret rfl (.tmp rfl .nil) () ?_ ?_ (List.nil_sublist _)
 ·
  trivial
 ·
  first | rfl | (exfalso; simp at *; omega)

theorem cmpcompare_c (a b : Int) :
  Does Tryz.prog 93 [.int .i64 a, .int .i64 b] [] (fun _ => True) (X := Unit) (fun _ => True) (fun _ => .int .i64 (cmpZ a b)) (fun _ => []) := by
 refine Does.enter Tryz.func93 rfl (m := 20) rfl (by simp) ?_
 intro W0 hro
 refine VC.seq ?_
 refine VC.region ?_
 refine VL.q (Q.assign rfl) ?_
 refine VL.nil ?_
 refine VE.seq ?_
 refine VC.seq ?_
 refine VC.region ?_
 refine VL.q (Q.move rfl) ?_
 refine VL.eff (O.call0 ok164 rfl rfl (by decide) (isnan_c _) (fun _ _ _ => trivial) ?_)
 intro x8 y8
 refine VL.q (Q.assign rfl) ?_
 refine VL.nil ?_
 refine VE.seq ?_
 refine VC.seq ?_
 refine VC.region ?_
 refine VL.q (Q.move rfl) ?_
 refine VL.eff (O.call0 ok164 rfl rfl (by decide) (isnan_c _) (fun _ _ _ => trivial) ?_)
 intro x10 y10
 refine VL.q (Q.assign rfl) ?_
 refine VL.nil ?_
 refine VE.seq ?_
 refine VC.seq ?_
 refine VC.seq ?_
 refine VC.region ?_
 refine VL.q (Q.move rfl) ?_
 refine VL.nil ?_
 refine VE.seq ?_
 refine VC.condF rfl ?_
 refine VC.skip ?_
 refine VE.seq ?_
 refine VC.seq ?_
 refine VC.seq ?_
 refine VC.region ?_
 refine VL.q (Q.move rfl) ?_
 refine VL.nil ?_
 refine VE.seq ?_
 refine VC.condF rfl ?_
 refine VC.skip ?_
 refine VE.seq ?_
 refine VC.seq ?_
 refine VC.seq ?_
 refine VC.region ?_
 refine VL.q (Q.move rfl) ?_
 refine VL.q (Q.move rfl) ?_
 refine VL.q (Q.lt rfl rfl) ?_
 refine VL.nil ?_
 refine VE.seq ?_
 refine VC.cond rfl ?_ ?_
 ·
  intro h16
  have e : cmpZ a b = -1 := by unfold cmpZ; rw [if_pos (of_decide_eq_true h16)]
  refine VC.seq ?_
  refine VC.region ?_
  refine VL.q (Q.assign rfl) ?_
  refine VL.nil ?_
  refine VE.seq ?_
  refine VC.ret ?_
  refine VE.then_ret ?_
  refine VE.ret rfl (.tmp rfl .nil) () ?_ ?_ (List.nil_sublist _)
  ·
   trivial
  ·
   rw [e]; rfl
 ·
  intro h16
  have hn := of_decide_eq_false h16
  refine VC.skip ?_
  refine VE.seq ?_
  refine VC.seq ?_
  refine VC.seq ?_
  refine VC.region ?_
  refine VL.q (Q.move rfl) ?_
  refine VL.q (Q.move rfl) ?_
  refine VL.q (Q.gt rfl rfl) ?_
  refine VL.nil ?_
  refine VE.seq ?_
  refine VC.cond rfl ?_ ?_
  ·
   intro h19
   have e : cmpZ a b = 1 := by unfold cmpZ; rw [if_neg hn, if_pos (of_decide_eq_true h19)]
   refine VC.seq ?_
   refine VC.region ?_
   refine VL.q (Q.assign rfl) ?_
   refine VL.nil ?_
   refine VE.seq ?_
   refine VC.ret ?_
   refine VE.then_ret ?_
   refine VE.ret rfl (.tmp rfl .nil) () ?_ ?_ (List.nil_sublist _)
   ·
    trivial
   ·
    rw [e]; rfl
  ·
   intro h19
   have e : cmpZ a b = 0 := by unfold cmpZ; rw [if_neg hn, if_neg (of_decide_eq_false h19)]
   refine VC.skip ?_
   refine VE.seq ?_
   refine VC.seq ?_
   refine VC.region ?_
   refine VL.q (Q.assign rfl) ?_
   refine VL.nil ?_
   refine VE.seq ?_
   refine VC.ret ?_
   refine VE.ret rfl (.tmp rfl .nil) () ?_ ?_ (List.nil_sublist _)
   ·
    trivial
   ·
    rw [e]; rfl

theorem cmpor_c (g : Nat) (x y z : Int) :
  Does Tryz.prog 98 [.slice (some ⟨g, 0, none⟩) 3 3] [] (fun W => Rd W (some ⟨g, 0, none⟩) [.int .i64 x, .int .i64 y, .int .i64 z]) (X := Unit) (fun _ => True) (fun _ => .int .i64 (or3 x y z)) (fun _ => []) := by
 refine Does.enter Tryz.func98 rfl (m := 18) rfl (by simp) ?_
 intro W0 hro
 refine VC.seq ?_
 refine VC.region ?_
 refine VL.q (Q.assign rfl) ?_
 refine VL.nil ?_
 refine VE.seq ?_
 refine VC.seq ?_
 refine VC.region ?_
 refine VL.q (Q.assign rfl) ?_
 refine VL.nil ?_
 refine VE.seq ?_
 refine VC.seq ?_
 refine VC.seq ?_
 refine VC.region ?_
 refine VL.q (Q.move rfl) ?_
 refine VL.q (Q.len sl78 rfl) ?_
 refine VL.q (Q.move rfl) ?_
 refine VL.nil ?_
 refine VE.seq ?_
 refine VC.block ?_
 refine VC.rounds 5 ?_
 refine VC.rnd (m := 4) ?_
 refine VC.seq ?_
 refine VC.region ?_
 refine VL.q (Q.lt rfl rfl) ?_
 refine VL.nil ?_
 refine VE.seq ?_
 refine VC.seq ?_
 refine VC.condT rfl ?_
 refine VC.skip ?_
 refine VE.seq ?_
 refine VC.seq ?_
 refine VC.block ?_
 refine VC.seq ?_
 refine VC.region ?_
 refine VL.q (Q.indexAddr sl78 (j := 0) rfl rfl rfl (by omega)) ?_
 refine VL.q (Q.load0 ty3 rfl (Rd.at (j := 0) hro rfl) (by simp)) ?_
 refine VL.q (Q.assign rfl) ?_
 refine VL.nil ?_
 refine VE.seq ?_
 refine VC.seq ?_
 refine VC.region ?_
 refine VL.q (Q.move rfl) ?_
 refine VL.q (Q.move rfl) ?_
 refine VL.q (Q.ne rfl rfl) ?_
 refine VL.nil ?_
 refine VE.seq ?_
 refine VC.cond rfl ?_ ?_
 ·
  intro h14
  refine VC.seq ?_
  refine VC.region ?_
  refine VL.q (Q.move rfl) ?_
  refine VL.q (Q.assign rfl) ?_
  refine VL.nil ?_
  refine VE.seq ?_
  refine VC.ret ?_
  refine VE.block_ret ?_
  refine VE.then_ret ?_
  refine VE.then_ret ?_
  refine VE.block_ret ?_
  refine VE.then_ret ?_
  refine VE.ret rfl (.tmp rfl .nil) () ?_ ?_ (List.nil_sublist _)
  ·
   trivial
  ·
   unfold or3; simp_all [pack]
 ·
  intro h14
  refine VC.skip ?_
  refine VE.block_normal ?_
  refine VE.seq ?_
  refine VC.region ?_
  refine VL.quietE (v' := .int .i64 1) (by decide) ((by first | exact Q.addI rfl rfl (by omega) (by omega) | exact Q.add rfl rfl)) (by rfl) ?_
  refine VL.q (Q.move rfl) ?_
  refine VL.nil ?_
  refine VE.then_normal ?_
  refine VC.rnd (m := 3) ?_
  refine VC.seq ?_
  refine VC.region ?_
  refine VL.q (Q.lt rfl rfl) ?_
  refine VL.nil ?_
  refine VE.seq ?_
  refine VC.seq ?_
  refine VC.condT rfl ?_
  refine VC.skip ?_
  refine VE.seq ?_
  refine VC.seq ?_
  refine VC.block ?_
  refine VC.seq ?_
  refine VC.region ?_
  refine VL.q (Q.indexAddr sl78 (j := 1) rfl rfl rfl (by omega)) ?_
  refine VL.q (Q.load0 ty3 rfl (Rd.at (j := 1) hro rfl) (by simp)) ?_
  refine VL.q (Q.assign rfl) ?_
  refine VL.nil ?_
  refine VE.seq ?_
  refine VC.seq ?_
  refine VC.region ?_
  refine VL.q (Q.move rfl) ?_
  refine VL.q (Q.move rfl) ?_
  refine VL.q (Q.ne rfl rfl) ?_
  refine VL.nil ?_
  refine VE.seq ?_
  refine VC.cond rfl ?_ ?_
  ·
   intro h14
   refine VC.seq ?_
   refine VC.region ?_
   refine VL.q (Q.move rfl) ?_
   refine VL.q (Q.assign rfl) ?_
   refine VL.nil ?_
   refine VE.seq ?_
   refine VC.ret ?_
   refine VE.block_ret ?_
   refine VE.then_ret ?_
   refine VE.then_ret ?_
   refine VE.block_ret ?_
   refine VE.then_ret ?_
   refine VE.ret rfl (.tmp rfl .nil) () ?_ ?_ (List.nil_sublist _)
   ·
    trivial
   ·
    unfold or3; simp_all [pack]
  ·
   intro h14
   refine VC.skip ?_
   refine VE.block_normal ?_
   refine VE.seq ?_
   refine VC.region ?_
   refine VL.quietE (v' := .int .i64 2) (by decide) ((by first | exact Q.addI rfl rfl (by omega) (by omega) | exact Q.add rfl rfl)) (by rfl) ?_
   refine VL.q (Q.move rfl) ?_
   refine VL.nil ?_
   refine VE.then_normal ?_
   refine VC.rnd (m := 2) ?_
   refine VC.seq ?_
   refine VC.region ?_
   refine VL.q (Q.lt rfl rfl) ?_
   refine VL.nil ?_
   refine VE.seq ?_
   refine VC.seq ?_
   refine VC.condT rfl ?_
   refine VC.skip ?_
   refine VE.seq ?_
   refine VC.seq ?_
   refine VC.block ?_
   refine VC.seq ?_
   refine VC.region ?_
   refine VL.q (Q.indexAddr sl78 (j := 2) rfl rfl rfl (by omega)) ?_
   refine VL.q (Q.load0 ty3 rfl (Rd.at (j := 2) hro rfl) (by simp)) ?_
   refine VL.q (Q.assign rfl) ?_
   refine VL.nil ?_
   refine VE.seq ?_
   refine VC.seq ?_
   refine VC.region ?_
   refine VL.q (Q.move rfl) ?_
   refine VL.q (Q.move rfl) ?_
   refine VL.q (Q.ne rfl rfl) ?_
   refine VL.nil ?_
   refine VE.seq ?_
   refine VC.cond rfl ?_ ?_
   ·
    intro h14
    refine VC.seq ?_
    refine VC.region ?_
    refine VL.q (Q.move rfl) ?_
    refine VL.q (Q.assign rfl) ?_
    refine VL.nil ?_
    refine VE.seq ?_
    refine VC.ret ?_
    refine VE.block_ret ?_
    refine VE.then_ret ?_
    refine VE.then_ret ?_
    refine VE.block_ret ?_
    refine VE.then_ret ?_
    refine VE.ret rfl (.tmp rfl .nil) () ?_ ?_ (List.nil_sublist _)
    ·
     trivial
    ·
     unfold or3; simp_all [pack]
   ·
    intro h14
    refine VC.skip ?_
    refine VE.block_normal ?_
    refine VE.seq ?_
    refine VC.region ?_
    refine VL.quietE (v' := .int .i64 3) (by decide) ((by first | exact Q.addI rfl rfl (by omega) (by omega) | exact Q.add rfl rfl)) (by rfl) ?_
    refine VL.q (Q.move rfl) ?_
    refine VL.nil ?_
    refine VE.then_normal ?_
    refine VC.rnd (m := 1) ?_
    refine VC.seq ?_
    refine VC.region ?_
    refine VL.q (Q.lt rfl rfl) ?_
    refine VL.nil ?_
    refine VE.seq ?_
    refine VC.seq ?_
    refine VC.condF rfl ?_
    refine VC.exit ?_
    refine VE.then_exit ?_
    refine VE.then_exit ?_
    refine VE.block_here ?_
    refine VE.seq ?_
    refine VC.seq ?_
    refine VC.region ?_
    refine VL.q (Q.move rfl) ?_
    refine VL.q (Q.assign rfl) ?_
    refine VL.nil ?_
    refine VE.seq ?_
    refine VC.ret ?_
    refine VE.ret rfl (.tmp rfl .nil) () ?_ ?_ (List.nil_sublist _)
    ·
     trivial
    ·
     unfold or3; simp_all [pack]

theorem besthow_c (p q : Nat × TreeV) (hp : p.1 ≤ 255) (hq : q.1 ≤ 255) :
  Does Tryz.prog 134 [.agg #[.int .u8 2, .int .u8 0, .int .u8 0, .int .u8 0, .int .u8 2, .int .u8 (p.1 : Int), .int .u8 2, .int .u8 0, .int .u8 0, .int .u8 0, .int .u8 2, .int .u8 (p.2.parent : Int), .int .i64 (p.2.seq : Int), .int .i64 (p.2.hops : Int), .int .i64 (p.2.cost : Int), .bool (decide (p.1 = 0)), .int .i64 (p.2.till : Int)], .agg #[.int .u8 2, .int .u8 0, .int .u8 0, .int .u8 0, .int .u8 2, .int .u8 (q.1 : Int), .int .u8 2, .int .u8 0, .int .u8 0, .int .u8 0, .int .u8 2, .int .u8 (q.2.parent : Int), .int .i64 (q.2.seq : Int), .int .i64 (q.2.hops : Int), .int .i64 (q.2.cost : Int), .bool (decide (q.1 = 0)), .int .i64 (q.2.till : Int)]] [] (fun _ => True) (X := Unit) (fun _ => True) (fun _ => .int .i64 (cmpT p q)) (fun _ => []) := by
 refine Does.enter Tryz.func134 rfl (m := 22) rfl (by simp) ?_
 intro W0 hro
 refine VC.seq ?_
 refine VC.region ?_
 refine VL.eff (O.box rfl rfl (by decide) ?_)
 intro g2
 refine VL.eff (O.box rfl rfl (by decide) ?_)
 intro g3
 refine VL.q (Q.assign rfl) ?_
 refine VL.nil ?_
 refine VE.seq ?_
 refine VC.seq ?_
 refine VA.start (Ls := [.blk g3 [.int .u8 2, .int .u8 0, .int .u8 0, .int .u8 0, .int .u8 2, .int .u8 (q.1 : Int), .int .u8 2, .int .u8 0, .int .u8 0, .int .u8 0, .int .u8 2, .int .u8 (q.2.parent : Int), .int .i64 (q.2.seq : Int), .int .i64 (q.2.hops : Int), .int .i64 (q.2.cost : Int), .bool (decide (q.1 = 0)), .int .i64 (q.2.till : Int)] 151, .blk g2 [.int .u8 2, .int .u8 0, .int .u8 0, .int .u8 0, .int .u8 2, .int .u8 (p.1 : Int), .int .u8 2, .int .u8 0, .int .u8 0, .int .u8 0, .int .u8 2, .int .u8 (p.2.parent : Int), .int .i64 (p.2.seq : Int), .int .i64 (p.2.hops : Int), .int .i64 (p.2.cost : Int), .bool (decide (p.1 = 0)), .int .i64 (p.2.till : Int)] 151]) (Cs := []) mixed ?_
 refine VA.tk 0 rfl (Still.then Still.body) zB Cells.nil (Quiet.c (Q.fieldAddr fa151_4 rfl)) ?_
 refine VA.tk 1 rfl (Still.then Still.body) zB Cells.nil (Quiet.c (Q.load1 ty3 rfl zM rfl)) ?_
 refine VA.tk 2 rfl (Still.then Still.body) zB Cells.nil (Quiet.c (Q.fieldAddr fa151_4 rfl)) ?_
 refine VA.tk 3 rfl (Still.then Still.body) zB Cells.nil (Quiet.c (Q.load1 ty3 rfl zM rfl)) ?_
 refine VA.tk 5 rfl (Still.then Still.body) zB Cells.nil (Quiet.c (Q.fieldAddr fa151_3 rfl)) ?_
 refine VA.tk 6 rfl (Still.then Still.body) zB Cells.nil (Quiet.c (Q.load1 ty3 rfl zM rfl)) ?_
 refine VA.tk 7 rfl (Still.then Still.body) zB Cells.nil (Quiet.c (Q.fieldAddr fa151_3 rfl)) ?_
 refine VA.tk 8 rfl (Still.then Still.body) zB Cells.nil (Quiet.c (Q.load1 ty3 rfl zM rfl)) ?_
 refine VA.tk 10 rfl (Still.then Still.body) zB Cells.nil (Quiet.c (Q.fieldAddr fa151_0 rfl)) ?_
 refine VA.tk 11 rfl (Still.then Still.body) zB Cells.nil (Quiet.c (Q.loadA ty44 rfl zM zS)) ?_
 refine VA.tk 12 rfl (Still.then Still.body) zB Cells.nil (Quiet.c (Q.fieldAddr fa151_0 rfl)) ?_
 refine VA.tk 13 rfl (Still.then Still.body) zB Cells.nil (Quiet.c (Q.loadA ty44 rfl zM zS)) ?_
 refine VA.all (rs := [4]) (by kernel_rfl) (by simp) ?_
 refine VA.forall1 ?_
 ·
  refine VA.eff rfl ?_
  refine id (O.call0 ok93 rfl rfl (by decide) (cmpcompare_c _ _) (fun _ _ _ => trivial) ?_)
  intro x9 y9
  refine VA.next zB Cells.nil ?_
  refine VA.all (rs := [9]) (by kernel_rfl) (by simp) ?_
  refine VA.forall1 ?_
  ·
   refine VA.eff rfl ?_
   refine id (O.call0 ok93 rfl rfl (by decide) (cmpcompare_c _ _) (fun _ _ _ => trivial) ?_)
   intro x14 y14
   refine VA.next zB Cells.nil ?_
   refine VA.all (rs := [14]) (by kernel_rfl) (by simp) ?_
   refine VA.forall1 ?_
   ·
    refine VA.eff rfl ?_
    refine id (O.call0 ok135 rfl rfl (by decide) (acompare_c p.1 q.1 hp hq) (fun _ _ _ => trivial) ?_)
    intro x19 y19
    refine VA.next zB Cells.nil ?_
    refine VA.all (rs := [15]) (by kernel_rfl) (by simp) ?_
    refine VA.forall1 ?_
    ·
     refine VA.eff rfl ?_
     refine id (O.buildSlice sl78 ze3 (by decide) zF (by decide) ?_)
     intro g20
     refine VA.next zB Cells.nil ?_
     refine VA.all (rs := [16]) (by kernel_rfl) (by simp) ?_
     refine VA.forall1 ?_
     ·
      refine VA.eff rfl ?_
      refine id (O.call0 ok98 rfl rfl (by decide) (cmpor_c g20 _ _ _) (fun _ _ hw => Rd.seg (k := 3) hw zM zS) ?_)
      intro x21 y21
      refine VA.next zB Cells.nil ?_
      refine VA.tk 17 rfl (Still.then Still.body) zB Cells.nil (Quiet.c (Q.assign rfl)) ?_
      refine VA.done (by kernel_rfl) ?_
      refine VE.seq ?_
      refine VC.ret ?_
      refine VE.ret rfl (.tmp rfl .nil) () ?_ ?_ (List.nil_sublist _)
      ·
       trivial
      ·
       first | rfl | (exfalso; simp at *; omega)

theorem minfunc_c (p : Option Addr) (n c : Nat) (l : List (Nat × TreeV)) (hl : l.length = n) (h1 : 1 ≤ n) (hn : n ≤ 100) (hk : ∀ q ∈ l, q.1 ≤ 255) :
  Does Tryz.prog 133 [.slice p n c, .func (.func 134) #[] #[]] [] (fun W => Rd W p (l.flatMap treeC)) (X := Nat × TreeV) (fun x => x ∈ l ∧ ∀ y ∈ l, x.2.cost ≤ y.2.cost) (fun x => .agg #[.int .u8 2, .int .u8 0, .int .u8 0, .int .u8 0, .int .u8 2, .int .u8 (x.1 : Int), .int .u8 2, .int .u8 0, .int .u8 0, .int .u8 0, .int .u8 2, .int .u8 (x.2.parent : Int), .int .i64 (x.2.seq : Int), .int .i64 (x.2.hops : Int), .int .i64 (x.2.cost : Int), .bool (decide (x.1 = 0)), .int .i64 (x.2.till : Int)]) (fun _ => []) := by
 subst hl
 refine Does.enter Tryz.func133 rfl (m := 33) rfl (by simp) ?_
 intro W0 hro
 obtain ⟨b0, o0, rfl⟩ := hro.pos (by rw [fm_length treeC_len]; omega)
 refine VC.seq ?_
 refine VC.region ?_
 refine VL.eff (O.alloc zo151 (by decide) ?_)
 intro g4
 refine VL.nil ?_
 refine VE.seq ?_
 refine VC.seq ?_
 refine VC.seq ?_
 refine VC.region ?_
 refine VL.q (Q.move rfl) ?_
 refine VL.q (Q.len sl47 rfl) ?_
 refine VL.quietE (v' := .bool false) (by decide) (Q.lt rfl rfl) (congrArg Value.bool (decide_eq_false (by omega))) ?_
 refine VL.nil ?_
 refine VE.seq ?_
 refine VC.condF rfl ?_
 refine VC.skip ?_
 refine VE.seq ?_
 refine VC.seq ?_
 refine VC.region ?_
 refine VL.q (Q.move rfl) ?_
 refine VL.q (Q.indexAddr sl47 (j := 0) rfl rfl rfl (by omega)) ?_
 refine VL.q (Q.load0A (xs := treeC l[0]) ty151 rfl (Rd.sg hro (fm_seg treeC_len l 0 (by omega))) (by simp)) ?_
 refine VL.eff (O.alloc zo151 (by decide) ?_)
 intro g5
 refine VL.eff (O.store ty151 rfl rfl rfl rfl zU zP ?_)
 refine VL.nil ?_
 refine VE.seq ?_
 refine VC.seq ?_
 refine VC.seq ?_
 refine VC.region ?_
 refine VL.q (Q.assign rfl) ?_
 refine VL.nil ?_
 refine VE.seq ?_
 refine VC.block ?_
 refine VC.loop (X := Nat × (Nat × TreeV)) (fun x => [(0, .slice (some ⟨b0, o0, none⟩) l.length c), (1, .func (.func 134) #[] #[]), (4, .pointer (some ⟨g4, 0, none⟩)), (5, .pointer (some ⟨g5, 0, none⟩)), (6, .int .i64 (x.1 : Int))]) (fun x => [.blk g5 [.int .u8 2, .int .u8 0, .int .u8 0, .int .u8 0, .int .u8 2, .int .u8 (x.2.1 : Int), .int .u8 2, .int .u8 0, .int .u8 0, .int .u8 0, .int .u8 2, .int .u8 (x.2.2.parent : Int), .int .i64 (x.2.2.seq : Int), .int .i64 (x.2.2.hops : Int), .int .i64 (x.2.2.cost : Int), .bool (decide (x.2.1 = 0)), .int .i64 (x.2.2.till : Int)] 151, .blk g4 [.int .u8 0, .int .u8 0, .int .u8 0, .int .u8 0, .int .u8 0, .int .u8 0, .int .u8 0, .int .u8 0, .int .u8 0, .int .u8 0, .int .u8 0, .int .u8 0, .int .i64 0, .int .i64 0, .int .i64 0, .bool false, .int .i64 0] 151]) (fun x => MinI l x) (fun x => l.length - x.1) (1, l[0]) (MinI.start (by omega)) ?_ ?_
 ·
  exact VS.mk zE (List.Sublist.refl _)
 ·
  intro x hx
  obtain ⟨k, t⟩ := x
  have hk2 := hx.le
  have hk3 := hx.pos
  dsimp only at hk2 hk3
  refine VC.seq ?_
  refine VC.seq ?_
  refine VC.region ?_
  refine VL.q (Q.move rfl) ?_
  refine VL.q (Q.move rfl) ?_
  refine VL.q (Q.len sl47 rfl) ?_
  refine VL.q (Q.lt rfl rfl) ?_
  refine VL.nil ?_
  refine VE.seq ?_
  refine VC.cond rfl ?_ ?_
  ·
   intro h17
   have hlt : k < l.length := by have := of_decide_eq_true h17; omega
   refine VC.skip ?_
   refine VE.seq ?_
   refine VC.seq ?_
   refine VC.block ?_
   refine VC.seq ?_
   refine VA.start (Ls := [.blk g5 [.int .u8 2, .int .u8 0, .int .u8 0, .int .u8 0, .int .u8 2, .int .u8 (t.1 : Int), .int .u8 2, .int .u8 0, .int .u8 0, .int .u8 0, .int .u8 2, .int .u8 (t.2.parent : Int), .int .i64 (t.2.seq : Int), .int .i64 (t.2.hops : Int), .int .i64 (t.2.cost : Int), .bool (decide (t.1 = 0)), .int .i64 (t.2.till : Int)] 151]) (Cs := []) mixed ?_
   refine VA.tk 0 rfl (Still.then (Still.block (Still.then (Still.then (Still.block (Still.then Still.body)))))) (List.singleton_sublist.2 zM) Cells.nil (Quiet.c (Q.move rfl)) ?_
   refine VA.tk 1 rfl (Still.then (Still.block (Still.then (Still.then (Still.block (Still.then Still.body)))))) (List.singleton_sublist.2 zM) Cells.nil (Quiet.c (Q.move rfl)) ?_
   refine VA.tk 2 rfl (Still.then (Still.block (Still.then (Still.then (Still.block (Still.then Still.body)))))) (List.singleton_sublist.2 zM) Cells.nil (Quiet.c (Q.move rfl)) ?_
   refine VA.tk 3 rfl (Still.then (Still.block (Still.then (Still.then (Still.block (Still.then Still.body)))))) (List.singleton_sublist.2 zM) Cells.nil (Quiet.c (Q.indexAddr sl47 (j := k) rfl rfl rfl hlt)) ?_
   refine VA.tk 4 rfl (Still.then (Still.block (Still.then (Still.then (Still.block (Still.then Still.body)))))) (List.singleton_sublist.2 zM) Cells.nil (Quiet.c (Q.load0A (xs := treeC l[k]) ty151 rfl (Rd.sg hro (fm_seg treeC_len l k hlt)) (by simp))) ?_
   refine VA.tk 5 rfl (Still.then (Still.block (Still.then (Still.then (Still.block (Still.then Still.body)))))) (List.singleton_sublist.2 zM) Cells.nil (Quiet.c (Q.loadA ty151 rfl zM zS)) ?_
   refine VA.all (rs := [6]) (by kernel_rfl) (by simp) ?_
   refine VA.forall1 ?_
   ·
    refine VA.eff rfl ?_
    refine id (O.call0 ok134 rfl rfl (by decide) (besthow_c l[k] t (hk _ (List.getElem_mem hlt)) (hk _ hx.mem)) (fun _ _ _ => trivial) ?_)
    intro x26 y26
    refine VA.next (List.singleton_sublist.2 zM) Cells.nil ?_
    refine VA.tk 7 rfl (Still.then (Still.block (Still.then (Still.then (Still.block (Still.then Still.body)))))) (List.singleton_sublist.2 zM) Cells.nil (Quiet.c (Q.lt rfl rfl)) ?_
    refine VA.done (by kernel_rfl) ?_
    refine VE.seq ?_
    refine VC.cond rfl ?_ ?_
    ·
     intro h27
     refine VC.region ?_
     refine VL.q (Q.move rfl) ?_
     refine VL.q (Q.move rfl) ?_
     refine VL.q (Q.indexAddr sl47 (j := k) rfl rfl rfl hlt) ?_
     refine VL.q (Q.load0A (xs := treeC l[k]) ty151 rfl (Rd.sg hro (fm_seg treeC_len l k hlt)) (by simp)) ?_
     refine VL.eff (O.store ty151 rfl rfl rfl rfl zU zP ?_)
     refine VL.nil ?_
     refine VE.block_normal ?_
     refine VE.seq ?_
     refine VC.region ?_
     refine VL.q (Q.move rfl) ?_
     refine VL.q ((by first | exact Q.addI rfl rfl (by omega) (by omega) | exact Q.add rfl rfl)) ?_
     refine VL.q (Q.assign rfl) ?_
     refine VL.nil ?_
     refine VE.then_normal ?_
     exact VE.round (k + 1, l[k]) (hx.take hlt (of_decide_eq_true h27)) (by omega) zE (List.Sublist.refl _)
    ·
     intro h27
     refine VC.skip ?_
     refine VE.block_normal ?_
     refine VE.seq ?_
     refine VC.region ?_
     refine VL.q (Q.move rfl) ?_
     refine VL.q ((by first | exact Q.addI rfl rfl (by omega) (by omega) | exact Q.add rfl rfl)) ?_
     refine VL.q (Q.assign rfl) ?_
     refine VL.nil ?_
     refine VE.then_normal ?_
     exact VE.round (k + 1, t) (hx.pass hlt (of_decide_eq_false h27)) (by omega) zE (List.Sublist.refl _)
  ·
   intro h17
   have hlt : ¬ k < l.length := by have := of_decide_eq_false h17; omega
   refine VC.exit ?_
   refine VE.then_exit ?_
   refine VE.then_exit ?_
   refine VE.block_here ?_
   refine VE.seq ?_
   refine VC.seq ?_
   refine VC.region ?_
   refine VL.q (Q.loadA ty151 rfl zM zS) ?_
   refine VL.eff (O.store ty151 rfl rfl rfl rfl zU zP ?_)
   refine VL.nil ?_
   refine VE.seq ?_
   refine VC.ret ?_
   exact VE.ret rfl (.cell ty151 rfl zM rfl .nil) t (hx.done hlt) rfl zB

theorem deltree_c (p : Option Addr) (n c : Nat) (l : List (Nat × TreeV)) (hl : l.length = n) (hn : n ≤ 100) (hc : n ≤ c) (gq : Nat) (gt : Bool) (hlast : ∀ i, ∀ h : i < l.length, (gt && !decide (l[i].1 = 0)) = true → i + 1 = l.length) :
  Does Tryz.prog 130 [.slice p n c, .func (.func 132) #[] #[.pointer (some ⟨gq, 0, none⟩)]] [.row (.slice p n c) 151 17 n ((l).flatMap treeC)] (fun W => W.cell? ⟨gq, 0, none⟩ = some (.bool gt) ∧ gq ∉ [Rs.row (.slice p n c) 151 17 n (l.flatMap treeC)].flatMap Rs.ids) (X := Nat) (fun x => x ≤ l.length ∧ IXF l (fun m => gt && !decide (m.1 = 0)) (if x = l.length then -1 else x) ∧ (x = l.length ∨ x + 1 = l.length)) (fun x => .slice p x c) (fun x => [.row (.slice p x c) 151 17 x ((l.take x).flatMap treeC)]) := by
 subst hl
 refine Does.enter Tryz.func130 rfl (m := 42) rfl (by simp) ?_
 rintro W0 ⟨hro, hgq⟩
 refine VC.seq ?_
 refine VC.region ?_
 refine VL.q (Q.assign rfl) ?_
 refine VL.nil ?_
 refine VE.seq ?_
 refine VC.seq ?_
 refine VC.region ?_
 refine VL.q (Q.move rfl) ?_
 refine VL.q (Q.move rfl) ?_
 refine VL.eff (O.call0 ok191 rfl rfl (by decide) (idx_isbest_c p l.length c l rfl (by omega) gq gt) (fun _ ho hw => ⟨Rd.row hw zM, only_cell ho hro hgq⟩) ?_)
 intro x10 y10
 refine VL.q (Q.assign rfl) ?_
 refine VL.nil ?_
 refine VE.seq ?_
 refine VC.seq ?_
 refine VC.seq ?_
 refine VC.region ?_
 refine VL.q (Q.move rfl) ?_
 refine VL.q (Q.eq rfl rfl) ?_
 refine VL.nil ?_
 refine VE.seq ?_
 refine VC.cond rfl ?_ ?_
 ·
  intro h12
  have hm1 : x10 = -1 := by simpa using h12
  refine VC.seq ?_
  refine VC.region ?_
  refine VL.q (Q.move rfl) ?_
  refine VL.q (Q.assign rfl) ?_
  refine VL.nil ?_
  refine VE.seq ?_
  refine VC.ret ?_
  refine VE.then_ret ?_
  refine VE.ret rfl (.tmp rfl .nil) l.length ⟨Nat.le_refl _, by rw [if_pos rfl]; exact hm1 ▸ y10, .inl rfl⟩ rfl ?_
  rw [List.take_length]
  exact zB
 ·
  intro h12
  have hm1 : x10 ≠ -1 := by intro e; simp [e] at h12
  rcases y10 with ⟨e, _⟩ | ⟨i, hi, rfl, hpi, hbe⟩
  ·
   exact absurd e hm1
  have hil := hlast i hi hpi
  refine VK.rowHead (m := l.length) (p := p) (c := c) zM (by omega) ?_
  intro g hg _ hcx
  subst hg
  refine VK.openAt (g := g) (m := l.length) (c := c) (s := 17) (xs := l.flatMap treeC) zA ?_
  intro D hD hxl _ _
  refine VC.skip ?_
  refine VE.seq ?_
  refine VC.seq ?_
  refine VC.seq ?_
  refine VC.region ?_
  refine VL.q (Q.move rfl) ?_
  refine VL.q ((by first | exact Q.addI rfl rfl (by omega) (by omega) | exact Q.add rfl rfl)) ?_
  refine VL.q (Q.assign rfl) ?_
  refine VL.nil ?_
  refine VE.seq ?_
  refine VC.block ?_
  refine VC.rounds 40 ?_
  refine VC.rnd (m := 39) ?_
  refine VC.seq ?_
  refine VC.seq ?_
  refine VC.region ?_
  refine VL.q (Q.move rfl) ?_
  refine VL.q (Q.move rfl) ?_
  refine VL.q (Q.len sl47 rfl) ?_
  refine VL.quietE (v' := .bool false) (by decide) (Q.lt rfl rfl) (congrArg Value.bool (decide_eq_false (by omega))) ?_
  refine VL.nil ?_
  refine VE.seq ?_
  refine VC.condF rfl ?_
  refine VC.exit ?_
  refine VE.then_exit ?_
  refine VE.then_exit ?_
  refine VE.block_here ?_
  refine VE.seq ?_
  refine VC.seq ?_
  refine VC.region ?_
  refine VL.q (Q.move rfl) ?_
  refine VL.q (Q.move rfl) ?_
  refine VL.quietE (v' := .slice (some ⟨g, 0 + i * 17, none⟩) 1 (c - i)) (by decide) (Q.slcL sl47 (l := i) (h := l.length) rfl ⟨_, _, rfl, rfl⟩ rfl (by omega) (by omega) (by omega)) (by rw [show l.length - i = 1 from by omega]) ?_
  refine VL.eff (O.clear (m := 1) (C' := (l.take i).flatMap treeC ++ ((Builtin.zeroCells (Value.agg #[.int .u8 0, .int .u8 0, .int .u8 0, .int .u8 0, .int .u8 0, .int .u8 0, .int .u8 0, .int .u8 0, .int .u8 0, .int .u8 0, .int .u8 0, .int .u8 0, .int .i64 0, .int .i64 0, .int .i64 0, .bool false, .int .i64 0]).cells 1).toList ++ D)) sl47 ze151 rfl (by decide) zU (by rw [Nat.zero_add]; exact put_last treeC_len l i hi hil D _ (by rw [Array.length_toList, size_zeroCells]; rfl)) (zeroCells_one _ _ rfl (by decide)) ?_)
  refine VL.nil ?_
  refine VE.seq ?_
  refine VC.seq ?_
  refine VC.region ?_
  refine VL.q (Q.move rfl) ?_
  refine VL.q (Q.move rfl) ?_
  refine VL.q (Q.slc0 sl47 (h := i) rfl ⟨_, _, rfl, rfl⟩ (by omega)) ?_
  refine VL.q (Q.assign rfl) ?_
  refine VL.nil ?_
  refine VE.seq ?_
  refine VC.ret ?_
  refine VK.toRow (g := g) (s := 17) (m := i) (c := c) zU (by have e1 := fm_take_len treeC_len l i (by omega); have e2 : (Builtin.zeroCells (Value.agg #[.int .u8 0, .int .u8 0, .int .u8 0, .int .u8 0, .int .u8 0, .int .u8 0, .int .u8 0, .int .u8 0, .int .u8 0, .int .u8 0, .int .u8 0, .int .u8 0, .int .i64 0, .int .i64 0, .int .i64 0, .bool false, .int .i64 0]).cells 1).toList.length = 17 := (by rw [Array.length_toList, size_zeroCells]; rfl); simp only [List.length_append, e1, e2]; omega) (by omega) hcx ?_
  rw [List.take_left' (fm_take_len treeC_len l i (by omega))]
  exact VE.ret rfl (.tmp rfl .nil) i ⟨by omega, by rw [if_neg (by omega)]; exact .inr ⟨i, hi, rfl, hpi, hbe⟩, .inr hil⟩ rfl zB

theorem del_spec {l : List (Nat × TreeV)} {pr : Nat × TreeV → Bool} {m : Nat} (h : IXF l pr (if m = l.length then -1 else m)) (hm : m = l.length ∨ m + 1 = l.length) (q : Nat × TreeV) : q ∈ l.take m ↔ q ∈ l ∧ pr q = false := by
  by_cases e : m = l.length
  · rw [if_pos e] at h
    subst e
    rw [List.take_length]
    have key : ∀ x ∈ l, pr x = false := by
      intro x hx
      obtain ⟨k, hk, rfl⟩ := List.mem_iff_getElem.1 hx
      rcases h with ⟨_, h⟩ | ⟨i, _, h, _⟩
      · exact h k hk
      · omega
    exact ⟨fun hq => ⟨hq, key q hq⟩, fun hq => hq.1⟩
  · rw [if_neg e] at h
    have hm : m + 1 = l.length := by omega
    rcases h with ⟨h, _⟩ | ⟨i, hi, h, hp, hb⟩
    · omega
    · have : i = m := by omega
      subst this
      constructor
      · intro hq
        obtain ⟨k, hk, rfl⟩ := List.mem_iff_getElem.1 hq
        rw [List.length_take] at hk
        rw [List.getElem_take]
        exact ⟨List.getElem_mem _, hb k (by omega) (by omega)⟩
      · rintro ⟨hq, hp2⟩
        obtain ⟨k, hk, rfl⟩ := List.mem_iff_getElem.1 hq
        have hki : k ≠ i := fun e => by subst e; rw [hp] at hp2; cases hp2
        exact List.mem_iff_getElem.2 ⟨k, by rw [List.length_take]; omega, by rw [List.getElem_take]⟩
theorem tsok_last {o : Nat} {l : List (Nat × TreeV)} (h : TsOk o l) (gt : Bool) (i : Nat) (hi : i < l.length) (hp : (gt && !decide (l[i].1 = 0)) = true) : i + 1 = l.length := by
  have h1 := h.len
  have h2 := (h.el _ (List.getElem_mem hi)).root
  have h3 : l[i].1 ≠ 0 := by intro e; simp [e] at hp
  by_cases e : i + 1 = l.length
  · exact e
  · have h4 : i + 1 < l.length := by omega
    have h5 := h.srt i (i + 1) (by omega) hi h4
    have h6 := (h.el _ (List.getElem_mem h4)).root
    omega
structure BestOk (gt : Bool) (l : List (Nat × TreeV)) (x : Option (Nat × TreeV)) : Prop where
  is : ∀ t, x = some t → t ∈ l ∧ (gt && !decide (t.1 = 0)) = false ∧ ∀ y ∈ l, (gt && !decide (y.1 = 0)) = false → t.2.cost ≤ y.2.cost
  no : x = none → ∀ q ∈ l, (gt && !decide (q.1 = 0)) = true
theorem bestok_no {gt : Bool} {l : List (Nat × TreeV)} {m : Nat} (h : IXF l (fun m => gt && !decide (m.1 = 0)) (if m = l.length then -1 else m)) (hm : m = l.length ∨ m + 1 = l.length) (h0 : m = 0) : BestOk gt l none :=
  ⟨(fun t e => by cases e), (fun _ q hq => by
    cases hc : (gt && !decide (q.1 = 0)) with
    | true => rfl
    | false =>
      have := (del_spec h hm q).2 ⟨hq, hc⟩
      subst h0
      simp at this)⟩
theorem bestok_is {gt : Bool} {l : List (Nat × TreeV)} {m : Nat} (h : IXF l (fun m => gt && !decide (m.1 = 0)) (if m = l.length then -1 else m)) (hm : m = l.length ∨ m + 1 = l.length) {t : Nat × TreeV} (ht : t ∈ l.take m) (hmin : ∀ y ∈ l.take m, t.2.cost ≤ y.2.cost) : BestOk gt l (some t) :=
  ⟨(fun t' e => by
    cases e
    have h1 := (del_spec h hm t).1 ht
    exact ⟨h1.1, h1.2, fun y hy hp => hmin y ((del_spec h hm y).2 ⟨hy, hp⟩)⟩), (fun e => by cases e)⟩

theorem best_c (o sq : Nat) (p : Option Addr) (n c : Nat) (l : List (Nat × TreeV)) (hl : l.length = n) (hok : TsOk o l) (hsq : sq ≤ 2147483647) (gt : Bool) :
  Does Tryz.prog 51 [.agg #[.int .u8 2, .int .u8 0, .int .u8 0, .int .u8 0, .int .u8 2, .int .u8 (o : Int), .bool (decide (o < 2)), .bool (decide (o = 0)), .int .i64 (sq : Int), .slice p n c, .slice none 0 0], .bool gt] [] (fun W => Rd W p (l.flatMap treeC)) (X := Option (Nat × TreeV)) (fun x => BestOk gt l x) (fun x => match x with | none => .tuple #[.agg #[.int .u8 0, .int .u8 0, .int .u8 0, .int .u8 0, .int .u8 0, .int .u8 0, .int .u8 0, .int .u8 0, .int .u8 0, .int .u8 0, .int .u8 0, .int .u8 0, .int .i64 0, .int .i64 0, .int .i64 0, .bool false, .int .i64 0], .bool false] | some t => .tuple #[.agg #[.int .u8 2, .int .u8 0, .int .u8 0, .int .u8 0, .int .u8 2, .int .u8 (t.1 : Int), .int .u8 2, .int .u8 0, .int .u8 0, .int .u8 0, .int .u8 2, .int .u8 (t.2.parent : Int), .int .i64 (t.2.seq : Int), .int .i64 (t.2.hops : Int), .int .i64 (t.2.cost : Int), .bool (decide (t.1 = 0)), .int .i64 (t.2.till : Int)], .bool true]) (fun _ => []) := by
 subst hl
 have hlen := hok.len
 refine Does.enter Tryz.func51 rfl (m := 22) rfl (by simp) ?_
 intro W0 hro
 refine VC.seq ?_
 refine VC.region ?_
 refine VL.eff (O.box rfl rfl (by decide) ?_)
 intro g2
 refine VL.eff (O.box rfl rfl (by decide) ?_)
 intro g3
 refine VL.eff (O.alloc zo151 (by decide) ?_)
 intro g4
 refine VL.q (Q.assign rfl) ?_
 refine VL.nil ?_
 refine VE.seq ?_
 refine VC.seq ?_
 refine VC.seq ?_
 refine VC.region ?_
 refine VL.q (Q.loadA ty50 rfl zM zS) ?_
 refine VL.eff (O.call0 ok101 rfl rfl (by decide) (rcheck_c o sq p l.length c l rfl hok hsq) (fun _ ho _ => hro.only0 ho) ?_)
 intro x8 y8
 refine VL.quietE (v' := .bool false) (by decide) (Q.ne rfl rfl) (by rfl) ?_
 refine VL.nil ?_
 refine VE.seq ?_
 refine VC.condF rfl ?_
 refine VC.skip ?_
 refine VE.seq ?_
 refine VC.seq ?_
 refine VC.region ?_
 refine VL.q (Q.fieldAddr fa50_4 rfl) ?_
 refine VL.q (Q.load1 ty47 rfl zM rfl) ?_
 refine VL.eff (O.call0 ok131 rfl rfl (by decide) (clone_tree p l.length c (l.flatMap treeC) (fm_length treeC_len l) (fm_one treeC_one l) (by omega)) (fun _ ho _ => hro.only0 ho) ?_)
 intro x13 y13
 obtain ⟨p13, c13⟩ := x13
 dsimp only at y13
 refine VL.q (Q.makeFunc rfl rfl) ?_
 refine VK.apart (r := .blk g3 [.bool gt] 4) (r' := .row (.slice p13 l.length c13) 151 17 l.length (l.flatMap treeC)) (by repeat (first | exact Two.here zM | exact Two.swap zM | apply Two.there)) ?_
 intro hap
 have hng := hap g3 (by simp [Rs.ids])
 refine VL.eff (O.callB ok130 rfl rfl (by decide) (deltree_c p13 l.length c13 l rfl (by omega) y13 g3 gt (tsok_last hok gt)) zK (fun _ _ hw => ⟨(own_cell hw zM 0).trans rfl, by simpa using hng⟩) ?_)
 intro x15 y15
 have hm1 := y15.2.1
 have hm2 := y15.2.2
 have hm3 := y15.1
 refine VL.q (Q.assign rfl) ?_
 refine VL.nil ?_
 refine VE.seq ?_
 refine VC.seq ?_
 refine VC.seq ?_
 refine VC.region ?_
 refine VL.q (Q.move rfl) ?_
 refine VL.q (Q.len sl47 rfl) ?_
 refine VL.q (Q.eq rfl rfl) ?_
 refine VL.nil ?_
 refine VE.seq ?_
 refine VC.cond rfl ?_ ?_
 ·
  intro h18
  have h0 : x15 = 0 := by simp at h18; omega
  refine VC.seq ?_
  refine VC.region ?_
  refine VL.q (Q.build lay151 zF) ?_
  refine VL.eff (O.store ty151 rfl rfl rfl rfl zU zP ?_)
  refine VL.q (Q.assign rfl) ?_
  refine VL.nil ?_
  refine VE.seq ?_
  refine VC.ret ?_
  refine VE.then_ret ?_
  exact VE.ret rfl (.cell ty151 rfl zM rfl (.tmp rfl .nil)) none (bestok_no hm1 hm2 h0) rfl zB
 ·
  intro h18
  have h0 : x15 ≠ 0 := by intro e; simp [e] at h18
  refine VC.skip ?_
  refine VE.seq ?_
  refine VC.seq ?_
  refine VC.region ?_
  refine VL.q (Q.move rfl) ?_
  refine VL.eff (O.call0 ok133 rfl rfl (by decide) (minfunc_c p13 x15 c13 (l.take x15) (by rw [List.length_take]; omega) (by omega) (by omega) (fun q hq => hok.key q (List.mem_of_mem_take hq))) (fun _ _ hw => Rd.row hw zM) ?_)
  intro x21 y21
  refine VL.eff (O.store ty151 rfl rfl rfl rfl zU zP ?_)
  refine VL.q (Q.assign rfl) ?_
  refine VL.nil ?_
  refine VE.seq ?_
  refine VC.ret ?_
  exact VE.ret rfl (.cell ty151 rfl zM rfl (.tmp rfl .nil)) (some x21) (bestok_is hm1 hm2 y21.1 y21.2) rfl zB

end Go.Proofs.YtencghlmckbmlaaGreat
