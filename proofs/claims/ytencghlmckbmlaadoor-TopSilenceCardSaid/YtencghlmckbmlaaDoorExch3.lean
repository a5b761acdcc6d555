/- The contracts of package exchange. Conditions: those that each bears. -/
import Derived.Test.YtencghlmckbmlaaDoorRows
import Derived.Test.YtencghlmckbmlaaDoorExch2
import Derived.Test.YtencghlmckbmlaaDoorHeader
namespace Go.Proofs.YtencghlmckbmlaaDoor
open Go Go.RowKit Go.Sx
set_option maxRecDepth 100000

theorem ar76 : tyArr Tryd.prog 76 = some (2, 5, 1) := by kernel_rfl
theorem fa37_2 : tyField Tryd.prog 37 2 = some 2 := by kernel_rfl
theorem fa48_0 : tyField Tryd.prog 48 0 = some 0 := by kernel_rfl
theorem fa48_1 : tyField Tryd.prog 48 1 = some 1 := by kernel_rfl
theorem ok11 : okFunc Tryd.prog 11 = true := by kernel_rfl
theorem ok25 : okFunc Tryd.prog 25 = true := by kernel_rfl
theorem ok27 : okFunc Tryd.prog 27 = true := by kernel_rfl
theorem ty37 : tySz Tryd.prog 37 = some (true, 9) := by kernel_rfl
theorem ty48 : tySz Tryd.prog 48 = some (true, 6) := by kernel_rfl
theorem ty76 : tySz Tryd.prog 76 = some (true, 2) := by kernel_rfl
theorem ty78 : tySz Tryd.prog 78 = some (false, 1) := by kernel_rfl
theorem ze3 : (Tryd.prog.info? 3).bind (·.zero) = some (.int .i64 0) := by kernel_rfl
theorem zo43 : tyZero Tryd.prog 43 = some [.int .u8 0, .int .u8 0, .int .u8 0, .int .u8 0, .int .u8 0, .int .u8 0] := by kernel_rfl
theorem zo48 : tyZero Tryd.prog 48 = some [.int .u8 0, .bool false, .int .i64 0, .int .i64 0, .int .i64 0, .int .i64 0] := by kernel_rfl
theorem zo76 : tyZero Tryd.prog 76 = some [.int .u8 0, .int .u8 0] := by kernel_rfl

theorem length_c (p : Option Addr) (n c : Nat) (l : List Part) (hn : l.length = n) (hb : ∀ p ∈ l, 0 ≤ p.start ∧ 1 ≤ p.air ∧ p.start + p.air ≤ 2000000) (h6 : n ≤ 1000) :
    Does Tryd.prog 11 [.slice p n c] [] (fun W => Rd W p (pcs l)) (X := Unit) (fun _ => True) (fun _ => .int .i64 (lenP l)) (fun _ => []) := by
  subst hn
  refine Does.enter Tryd.func11 rfl (m := 21) rfl (by simp) ?_
  intro W0 hro
  refine VC.seq ?_
  refine VC.region ?_
  refine VL.q (Q.assign rfl) ?_
  refine VL.nil ?_
  refine VE.seq ?_
  refine VC.seq ?_
  refine VC.region ?_
  refine VL.q (Q.assign rfl) ?_
  refine VL.nil ?_
  refine VE.seq ?_
  refine VC.seq ?_
  refine VC.seq ?_
  refine VC.region ?_
  refine VL.q (Q.move rfl) ?_
  refine VL.q (Q.len sl39 rfl) ?_
  refine VL.q (Q.move rfl) ?_
  refine VL.nil ?_
  refine VE.seq ?_
  refine VC.block ?_
  refine VC.loopK (X := Nat) (fun k => [(6, .slice p l.length c), (7, .int .i64 (l.length : Int)), (8, .int .i64 (k : Int)), (3, .int .i64 (lenP (l.take k)))]) (fun k => k ≤ l.length) (fun k => l.length - k) 0 (Nat.zero_le _) ?_ ?_
  · exact VS.mk zE (List.Sublist.refl _)
  · intro k hk
    refine VC.seq ?_
    refine VC.region ?_
    refine VL.q (Q.lt rfl rfl) ?_
    refine VL.nil ?_
    refine VE.seq ?_
    refine VC.seq ?_
    refine VC.cond rfl ?_ ?_
    · intro h9
      have hlt : k < l.length := by have := of_decide_eq_true h9; omega
      obtain ⟨b1, b2, b3⟩ := hb _ (List.getElem_mem hlt)
      obtain ⟨b0, o0, rfl, _⟩ := hro _ _ (pcs_get l k hlt 0 _ rfl)
      refine VC.skip ?_
      refine VE.seq ?_
      refine VC.seq ?_
      refine VC.block ?_
      refine VC.seq ?_
      refine VC.region ?_
      refine VL.q (Q.indexAddr sl39 (j := k) rfl rfl rfl hlt) ?_
      refine VL.q (Q.load0A (xs := partC l[k]) ty48 rfl (fun j u hj => by have := Rd.at hro (pcs_get l k hlt j u hj); rw [Nat.add_assoc]; exact this) (by simp)) ?_
      refine VL.eff (O.alloc zo48 (by decide) ?_)
      intro g5
      refine VL.eff (O.store (xs := partC l[k]) (C' := partC l[k]) ty48 rfl rfl rfl rfl zU (by exact Put.all rfl) ?_)
      refine VL.nil ?_
      refine VE.seq ?_
      refine VC.region ?_
      refine VL.q (Q.move rfl) ?_
      refine VL.q (Q.fieldAddr fa48_3 rfl) ?_
      refine VL.q (Q.load1 (v := .int .i64 l[k].start) ty3 rfl zM rfl) ?_
      refine VL.q (Q.fieldAddr fa48_4 rfl) ?_
      refine VL.q (Q.load1 (v := .int .i64 l[k].air) ty3 rfl zM rfl) ?_
      refine VL.q ((by first | exact Q.addI rfl rfl (by omega) (by omega) | exact Q.add rfl rfl)) ?_
      refine VL.q (Q.max2 rfl rfl) ?_
      refine VL.q (Q.assign rfl) ?_
      refine VL.nil ?_
      refine VE.block_normal ?_
      refine VE.seq ?_
      refine VC.region ?_
      refine VL.q ((by first | exact Q.addI rfl rfl (by omega) (by omega) | exact Q.add rfl rfl)) ?_
      refine VL.q (Q.move rfl) ?_
      refine VL.nil ?_
      refine VE.then_normal ?_
      exact VE.roundK (k + 1) (by omega) (by omega) (.cons rfl (.cons rfl (.cons rfl (.cons (eInt (lenP_snoc l k hlt).symm) .nil)))) (.cons _ (List.Sublist.refl _))
    · intro h9
      have hge : k = l.length := by have := of_decide_eq_false h9; omega
      subst hge
      refine VC.exit ?_
      refine VE.then_exit ?_
      refine VE.then_exit ?_
      refine VE.block_here ?_
      refine VE.seq ?_
      refine VC.seq ?_
      refine VC.region ?_
      refine VL.q (Q.move rfl) ?_
      refine VL.q (Q.assign rfl) ?_
      refine VL.nil ?_
      refine VE.seq ?_
      refine VC.ret ?_
      refine VE.ret rfl (.tmp rfl .nil) () ?_ ?_ (List.nil_sublist _)
      · trivial
      · exact congrArg (fun l => Value.int .i64 (lenP l)) List.take_length

structure PlanR where
  n : Nat
  p : Option Addr
  m : Nat
  c : Nat
  e : Int
  l : List Part

theorem five_ok {q : Exch} (hq : q.Ok) : ∀ a ∈ [q.rts, q.cts, q.ack, q.bar, q.back], 1 ≤ a ∧ a ≤ 32767 := by
  intro a ha
  simp only [List.mem_cons, List.not_mem_nil, or_false] at ha
  rcases ha with rfl | rfl | rfl | rfl | rfl
  · exact hq.rts
  · exact hq.cts
  · exact hq.ack
  · exact hq.bar
  · exact hq.back

theorem plan_c (q : Exch) (hq : q.Ok) (p : Option Addr) (n c : Nat) (l : List Int) (hn : l.length = n) (hl : ∀ a ∈ l, 1 ≤ a ∧ a ≤ 32767) (h16 : n ≤ 16) (hc : n ≤ c) (lim : Int) (hlim : 0 ≤ lim ∧ lim ≤ 32767) (h1 : 1 ≤ n) :
    Does Tryd.prog 10 [.agg #[.int .u8 (q.prot : Int), .int .u8 (q.pol : Int), .int .i64 lim, .slice p n c, .int .i64 q.rts, .int .i64 q.cts, .int .i64 q.ack, .int .i64 q.bar, .int .i64 q.back]] [] (fun W => Rd W p (is l)) (X := PlanR) (fun x => 1 ≤ x.n ∧ x.n ≤ n ∧ ((x.e = 4 ∧ decide (32767 < q.d0 l x.n) = true) ∨ (x.e = 0 ∧ decide (32767 < q.d0 l x.n) = false ∧ x.l = q.seq l x.n ∧ x.m = (q.raw l x.n).1.length))) (fun x => .tuple #[.slice x.p x.m x.c, .int .i64 x.e]) (fun x => [.row (.slice x.p x.m x.c) 48 6 x.m (pcs x.l)]) := by
  subst hn
  have hpr := hq.prot
  have hpo := hq.pol
  refine Does.enter Tryd.func10 rfl (m := 79) rfl (by simp) ?_
  intro W0 hro
  refine VC.seq ?_
  refine VC.region ?_
  refine VL.eff (O.box rfl rfl (by decide) ?_)
  intro g1
  refine VL.q (Q.assign rfl) ?_
  refine VL.q (Q.assign rfl) ?_
  refine VL.nil ?_
  refine VE.seq ?_
  refine VC.seq ?_
  refine VC.seq ?_
  refine VC.region ?_
  refine VL.q (Q.fieldAddr fa37_0 rfl) ?_
  refine VL.q (Q.load1 ty5 rfl zM rfl) ?_
  refine VL.quietE (v' := .bool false) (by decide) (Q.gt rfl rfl) (congrArg Value.bool (decide_eq_false (by omega))) ?_
  refine VL.q (Q.move rfl) ?_
  refine VL.yes rfl rfl ?_
  refine VL.q (Q.fieldAddr fa37_1 rfl) ?_
  refine VL.yes rfl rfl ?_
  refine VL.q (Q.load1 ty5 rfl zM rfl) ?_
  refine VL.yes rfl rfl ?_
  refine VL.quietE (v' := .bool false) (by decide) (Q.gt rfl rfl) (congrArg Value.bool (decide_eq_false (by omega))) ?_
  refine VL.quietE (v' := .bool false) (by decide) (Q.pick_false rfl rfl) (by rfl) ?_
  refine VL.q (Q.move rfl) ?_
  refine VL.yes rfl rfl ?_
  refine VL.q (Q.fieldAddr fa37_2 rfl) ?_
  refine VL.yes rfl rfl ?_
  refine VL.q (Q.load1 ty3 rfl zM rfl) ?_
  refine VL.yes rfl rfl ?_
  refine VL.quietE (v' := .bool false) (by decide) (Q.lt rfl rfl) (congrArg Value.bool (decide_eq_false (by omega))) ?_
  refine VL.quietE (v' := .bool false) (by decide) (Q.pick_false rfl rfl) (by rfl) ?_
  refine VL.q (Q.move rfl) ?_
  refine VL.yes rfl rfl ?_
  refine VL.q (Q.fieldAddr fa37_2 rfl) ?_
  refine VL.yes rfl rfl ?_
  refine VL.q (Q.load1 ty3 rfl zM rfl) ?_
  refine VL.yes rfl rfl ?_
  refine VL.quietE (v' := .bool false) (by decide) (Q.gt rfl rfl) (congrArg Value.bool (decide_eq_false (by omega))) ?_
  refine VL.quietE (v' := .bool false) (by decide) (Q.pick_false rfl rfl) (by rfl) ?_
  refine VL.q (Q.move rfl) ?_
  refine VL.yes rfl rfl ?_
  refine VL.q (Q.fieldAddr fa37_3 rfl) ?_
  refine VL.yes rfl rfl ?_
  refine VL.q (Q.load1 ty35 rfl zM rfl) ?_
  refine VL.yes rfl rfl ?_
  refine VL.q (Q.len sl35 rfl) ?_
  refine VL.yes rfl rfl ?_
  refine VL.quietE (v' := .bool false) (by decide) (Q.lt rfl rfl) (congrArg Value.bool (decide_eq_false (by omega))) ?_
  refine VL.quietE (v' := .bool false) (by decide) (Q.pick_false rfl rfl) (by rfl) ?_
  refine VL.q (Q.move rfl) ?_
  refine VL.yes rfl rfl ?_
  refine VL.q (Q.fieldAddr fa37_3 rfl) ?_
  refine VL.yes rfl rfl ?_
  refine VL.q (Q.load1 ty35 rfl zM rfl) ?_
  refine VL.yes rfl rfl ?_
  refine VL.q (Q.len sl35 rfl) ?_
  refine VL.yes rfl rfl ?_
  refine VL.quietE (v' := .bool false) (by decide) (Q.gt rfl rfl) (congrArg Value.bool (decide_eq_false (by omega))) ?_
  refine VL.quietE (v' := .bool false) (by decide) (Q.pick_false rfl rfl) (by rfl) ?_
  refine VL.nil ?_
  refine VE.seq ?_
  refine VC.condF rfl ?_
  refine VC.skip ?_
  refine VE.seq ?_
  refine VC.seq ?_
  refine VC.seq ?_
  refine VC.region ?_
  refine VL.q (Q.fieldAddr fa37_3 rfl) ?_
  refine VL.q (Q.load1 ty35 rfl zM rfl) ?_
  refine VL.eff (O.call0 ok25 rfl rfl (by decide) (contains_c _ _ _ l rfl hl (by omega)) (fun _ ho _ => hro.only0 ho) ?_)
  intro x38 y38
  refine VL.q (Q.move rfl) ?_
  refine VL.yes rfl rfl ?_
  refine VL.q (Q.fieldAddr fa37_4 rfl) ?_
  refine VL.yes rfl rfl ?_
  refine VL.q (Q.load1 ty3 rfl zM rfl) ?_
  refine VL.yes rfl rfl ?_
  refine VL.q (Q.fieldAddr fa37_5 rfl) ?_
  refine VL.yes rfl rfl ?_
  refine VL.q (Q.load1 ty3 rfl zM rfl) ?_
  refine VL.yes rfl rfl ?_
  refine VL.q (Q.fieldAddr fa37_6 rfl) ?_
  refine VL.yes rfl rfl ?_
  refine VL.q (Q.load1 ty3 rfl zM rfl) ?_
  refine VL.yes rfl rfl ?_
  refine VL.q (Q.fieldAddr fa37_7 rfl) ?_
  refine VL.yes rfl rfl ?_
  refine VL.q (Q.load1 ty3 rfl zM rfl) ?_
  refine VL.yes rfl rfl ?_
  refine VL.q (Q.fieldAddr fa37_8 rfl) ?_
  refine VL.yes rfl rfl ?_
  refine VL.q (Q.load1 ty3 rfl zM rfl) ?_
  refine VL.yes rfl rfl ?_
  refine VL.eff (O.buildSlice sl35 ze3 (by decide) zF (by decide) ?_)
  intro g50
  refine VL.yes rfl rfl ?_
  refine VL.eff (O.call0 ok25 rfl rfl (by decide) (contains_c _ _ _ [q.rts, q.cts, q.ack, q.bar, q.back] rfl (five_ok hq) (by omega)) (fun _ _ hw => Rd.own hw zM (fun j u hj => by rw [Nat.zero_add]; exact hj)) ?_)
  intro x51 y51
  refine VL.quietE (v' := .bool false) (by decide) (Q.pick_false rfl rfl) (by rfl) ?_
  refine VL.nil ?_
  refine VE.seq ?_
  refine VC.condF rfl ?_
  refine VC.skip ?_
  refine VE.seq ?_
  refine VC.seq ?_
  refine VK.keep (by exact .cons (i := 1) rfl (.cons (i := 2) rfl (.cons (i := 3) rfl ( .nil)))) ?_
  refine VC.region ?_
  refine VL.q (Q.assign rfl) ?_
  refine VL.nil ?_
  refine VE.seq ?_
  refine VC.seq ?_
  refine VC.block ?_
  refine VC.loop (X := Nat) (fun k => [(1, .pointer (some ⟨g1, 0, none⟩)), (4, .int .i64 (k : Int))]) (fun k => [.blk g1 [.int .u8 (q.prot : Int), .int .u8 (q.pol : Int), .int .i64 lim, .slice p l.length c, .int .i64 q.rts, .int .i64 q.cts, .int .i64 q.ack, .int .i64 q.bar, .int .i64 q.back] 37]) (fun k => 1 ≤ k ∧ k ≤ l.length) (fun k => l.length - k) 1 ⟨Nat.le_refl _, h1⟩ ?_ ?_
  · exact VS.mk zE (.cons _ (List.Sublist.refl _))
  · intro k hk
    obtain ⟨hk1, hk2⟩ := hk
    refine VC.seq ?_
    refine VC.seq ?_
    refine VA.start (Ls := [.blk g1 [.int .u8 (q.prot : Int), .int .u8 (q.pol : Int), .int .i64 lim, .slice p l.length c, .int .i64 q.rts, .int .i64 q.cts, .int .i64 q.ack, .int .i64 q.bar, .int .i64 q.back] 37]) (Cs := []) mixed ?_
    refine VA.take 0 rfl (by kernel_rfl) (by kernel_rfl) (by kernel_rfl) (Still.then (Still.then (Still.then (Still.block (Still.then Still.body))))) (List.singleton_sublist.2 zM) Cells.nil (by decide) (Quiet.c (Q.move rfl)) ?_
    refine VA.take 1 rfl (by kernel_rfl) (by kernel_rfl) (by kernel_rfl) (Still.then (Still.then (Still.then (Still.block (Still.then Still.body))))) (List.singleton_sublist.2 zM) Cells.nil (by decide) (Quiet.c (Q.fieldAddr fa37_3 rfl)) ?_
    refine VA.take 2 rfl (by kernel_rfl) (by kernel_rfl) (by kernel_rfl) (Still.then (Still.then (Still.then (Still.block (Still.then Still.body))))) (List.singleton_sublist.2 zM) Cells.nil (by decide) (Quiet.c (Q.load1 ty35 rfl zM rfl)) ?_
    refine VA.take 3 rfl (by kernel_rfl) (by kernel_rfl) (by kernel_rfl) (Still.then (Still.then (Still.then (Still.block (Still.then Still.body))))) (List.singleton_sublist.2 zM) Cells.nil (by decide) (Quiet.c (Q.len sl35 rfl)) ?_
    refine VA.take 4 rfl (by kernel_rfl) (by kernel_rfl) (by kernel_rfl) (Still.then (Still.then (Still.then (Still.block (Still.then Still.body))))) (List.singleton_sublist.2 zM) Cells.nil (by decide) (Quiet.c (Q.lt rfl rfl)) ?_
    refine VA.take 5 rfl (by kernel_rfl) (by kernel_rfl) (by kernel_rfl) (Still.then (Still.then (Still.then (Still.block (Still.then Still.body))))) (List.singleton_sublist.2 zM) Cells.nil (by decide) (Quiet.c (Q.move rfl)) ?_
    refine VK.case 58 rfl ?_ ?_
    · intro h58
      have hlt : k < l.length := by have := of_decide_eq_true h58; omega
      refine VA.takeY 6 rfl rfl rfl (by kernel_rfl) (by kernel_rfl) (by kernel_rfl) (Still.then (Still.then (Still.then (Still.block (Still.then Still.body))))) (List.singleton_sublist.2 zM) Cells.nil (by decide) (Quiet.c (Q.loadA ty37 rfl zM zS)) ?_
      refine VA.takeY 7 rfl rfl rfl (by kernel_rfl) (by kernel_rfl) (by kernel_rfl) (Still.then (Still.then (Still.then (Still.block (Still.then Still.body))))) (List.singleton_sublist.2 zM) Cells.nil (by decide) (Quiet.c (Q.move rfl)) ?_
      refine VA.takeY 8 rfl rfl rfl (by kernel_rfl) (by kernel_rfl) (by kernel_rfl) (Still.then (Still.then (Still.then (Still.block (Still.then Still.body))))) (List.singleton_sublist.2 zM) Cells.nil (by decide) (Quiet.c ((by first | exact Q.addI rfl rfl (by omega) (by omega) | exact Q.add rfl rfl))) ?_
      refine VA.takeY 11 rfl rfl rfl (by kernel_rfl) (by kernel_rfl) (by kernel_rfl) (Still.then (Still.then (Still.then (Still.block (Still.then Still.body))))) (List.singleton_sublist.2 zM) Cells.nil (by decide) (Quiet.c (Q.fieldAddr fa37_2 rfl)) ?_
      refine VA.takeY 12 rfl rfl rfl (by kernel_rfl) (by kernel_rfl) (by kernel_rfl) (Still.then (Still.then (Still.then (Still.block (Still.then Still.body))))) (List.singleton_sublist.2 zM) Cells.nil (by decide) (Quiet.c (Q.load1 ty3 rfl zM rfl)) ?_
      refine VA.all (rs := [9]) (by kernel_rfl) (by simp) ?_
      refine VA.forall1 ?_
      · skip
        refine VA.effY rfl rfl rfl ?_
        refine id (O.call0 ok27 rfl rfl (by decide) (sequence_c q hq _ _ _ l rfl hl h16 hc lim (k + 1) (by omega) (by omega)) (fun _ ho _ => hro.only0 ho) ?_)
        intro x62 y62
        refine VA.next (List.singleton_sublist.2 zM) Cells.nil ?_
        refine VA.all (rs := [10]) (by kernel_rfl) (by simp) ?_
        refine VA.forall1 ?_
        · skip
          refine VA.effY rfl rfl rfl ?_
          refine id (O.call0 ok11 rfl rfl (by decide) (length_c _ _ _ (q.seq l (k + 1)) (seq_length l (k + 1)) (seq_bd hq hl (by omega) h16) (by have := raw_small hq l (n := k + 1) (by omega); omega)) (fun _ _ hw => Rd.row hw zM) ?_)
          intro x63 y63
          refine VA.next (List.singleton_sublist.2 zM) Cells.nil ?_
          refine VA.takeY 13 rfl rfl rfl (by kernel_rfl) (by kernel_rfl) (by kernel_rfl) (Still.then (Still.then (Still.then (Still.block (Still.then Still.body))))) (List.singleton_sublist.2 zM) Cells.nil (by decide) (Quiet.c (Q.le rfl rfl)) ?_
          refine VA.take 14 rfl (by kernel_rfl) (by kernel_rfl) (by kernel_rfl) (Still.then (Still.then (Still.then (Still.block (Still.then Still.body))))) (List.singleton_sublist.2 zM) Cells.nil (by decide) (Quiet.c (Q.pick_true rfl rfl)) ?_
          refine VA.done (by kernel_rfl) ?_
          refine VE.seq ?_
          refine VC.cond rfl ?_ ?_
          · intro h67
            refine VC.skip ?_
            refine VE.seq ?_
            refine VC.block ?_
            refine VC.region ?_
            refine VL.q (Q.move rfl) ?_
            refine VL.q ((by first | exact Q.addI rfl rfl (by omega) (by omega) | exact Q.add rfl rfl)) ?_
            refine VL.q (Q.assign rfl) ?_
            refine VL.nil ?_
            refine VE.block_normal ?_
            refine VE.then_normal ?_
            exact VE.give zE (List.singleton_sublist.2 zM) (fun a W st => ⟨k + 1, ⟨by omega, by omega⟩, by omega, st⟩)
          · intro h67
            refine VC.exit ?_
            refine VE.then_exit ?_
            refine VE.then_exit ?_
            refine VE.block_here ?_
            refine VE.seq ?_
            refine VC.seq ?_
            refine VC.region ?_
            refine VL.q (Q.loadA ty37 rfl zM zS) ?_
            refine VL.q (Q.move rfl) ?_
            refine VL.eff (O.call0 ok27 rfl rfl (by decide) (sequence_c q hq _ _ _ l rfl hl h16 hc lim (k) (by omega) (by omega)) (fun _ ho _ => hro.only0 ho) ?_)
            intro x72 y72
            have hrp := raw_pos hq l hk1
            have hsp : 0 < (q.seq l k).length := by rw [seq_length]; exact hrp
            obtain ⟨p72, c72⟩ := x72
            refine VK.rowHead (m := (q.raw l k).1.length) zM hrp ?_
            intro gp hgp _ _
            dsimp only at hgp
            subst hgp
            refine VL.q (Q.assign rfl) ?_
            refine VL.nil ?_
            refine VE.seq ?_
            refine VC.seq ?_
            refine VC.seq ?_
            refine VC.region ?_
            refine VL.q (Q.move rfl) ?_
            refine VL.q (Q.indexAddr sl39 (j := 0) rfl rfl rfl hrp) ?_
            refine VL.q (Q.fieldAddr fa48_5 rfl) ?_
            refine VL.q (Q.loadRow (v := .int .i64 (q.seq l k)[0].dur) ty3 rfl zM (pcs_get _ 0 hsp 5 _ rfl)) ?_
            refine VL.q (Q.gt rfl rfl) ?_
            refine VL.nil ?_
            refine VE.seq ?_
            refine VC.cond rfl ?_ ?_
            · intro h77
              have hb : decide (32767 < q.d0 l k) = true := by rw [d0_eq hsp]; exact h77
              refine VC.seq ?_
              refine VC.region ?_
              refine VL.q (Q.assign rfl) ?_
              refine VL.q (Q.assign rfl) ?_
              refine VL.nil ?_
              refine VE.seq ?_
              refine VC.ret ?_
              refine VE.then_ret ?_
              refine VK.addNil 48 6 ?_
              exact VE.ret rfl (.tmp rfl (.tmp rfl .nil)) ⟨k, none, 0, 0, 4, []⟩ ⟨hk1, hk2, .inl ⟨rfl, hb⟩⟩ rfl (.cons_cons _ (List.nil_sublist _))
            · intro h77
              have hb : decide (32767 < q.d0 l k) = false := by rw [d0_eq hsp]; exact h77
              refine VC.skip ?_
              refine VE.seq ?_
              refine VC.seq ?_
              refine VC.region ?_
              refine VL.q (Q.move rfl) ?_
              refine VL.q (Q.assign rfl) ?_
              refine VL.q (Q.assign rfl) ?_
              refine VL.nil ?_
              refine VE.seq ?_
              refine VC.ret ?_
              exact VE.ret rfl (.tmp rfl (.tmp rfl .nil)) ⟨k, some ⟨gp, 0, none⟩, _, c72, 0, q.seq l k⟩ ⟨hk1, hk2, .inr ⟨rfl, hb, rfl, rfl⟩⟩ rfl (.cons_cons _ (List.nil_sublist _))
    · intro h58
      refine VA.takeN 6 rfl rfl rfl (.inl rfl) (by kernel_rfl) (by kernel_rfl) (by kernel_rfl) (Still.then (Still.then (Still.then (Still.block (Still.then Still.body))))) (List.singleton_sublist.2 zM) Cells.nil (by decide) ?_
      refine VA.takeN 7 rfl rfl rfl (.inl rfl) (by kernel_rfl) (by kernel_rfl) (by kernel_rfl) (Still.then (Still.then (Still.then (Still.block (Still.then Still.body))))) (List.singleton_sublist.2 zM) Cells.nil (by decide) ?_
      refine VA.takeN 8 rfl rfl rfl (.inl rfl) (by kernel_rfl) (by kernel_rfl) (by kernel_rfl) (Still.then (Still.then (Still.then (Still.block (Still.then Still.body))))) (List.singleton_sublist.2 zM) Cells.nil (by decide) ?_
      refine VA.takeN 9 rfl rfl rfl (.inl rfl) (by kernel_rfl) (by kernel_rfl) (by kernel_rfl) (Still.then (Still.then (Still.then (Still.block (Still.then Still.body))))) (List.singleton_sublist.2 zM) Cells.nil (by decide) ?_
      refine VA.takeN 10 rfl rfl rfl (.inl rfl) (by kernel_rfl) (by kernel_rfl) (by kernel_rfl) (Still.then (Still.then (Still.then (Still.block (Still.then Still.body))))) (List.singleton_sublist.2 zM) Cells.nil (by decide) ?_
      refine VA.takeN 11 rfl rfl rfl (.inl rfl) (by kernel_rfl) (by kernel_rfl) (by kernel_rfl) (Still.then (Still.then (Still.then (Still.block (Still.then Still.body))))) (List.singleton_sublist.2 zM) Cells.nil (by decide) ?_
      refine VA.takeN 12 rfl rfl rfl (.inl rfl) (by kernel_rfl) (by kernel_rfl) (by kernel_rfl) (Still.then (Still.then (Still.then (Still.block (Still.then Still.body))))) (List.singleton_sublist.2 zM) Cells.nil (by decide) ?_
      refine VA.takeN 13 rfl rfl rfl (.inl rfl) (by kernel_rfl) (by kernel_rfl) (by kernel_rfl) (Still.then (Still.then (Still.then (Still.block (Still.then Still.body))))) (List.singleton_sublist.2 zM) Cells.nil (by decide) ?_
      refine VA.take 14 rfl (by kernel_rfl) (by kernel_rfl) (by kernel_rfl) (Still.then (Still.then (Still.then (Still.block (Still.then Still.body))))) (List.singleton_sublist.2 zM) Cells.nil (by decide) (Quiet.c (Q.pick_false rfl rfl)) ?_
      refine VA.done (by kernel_rfl) ?_
      refine VE.seq ?_
      refine VC.condF rfl ?_
      refine VC.exit ?_
      refine VE.then_exit ?_
      refine VE.then_exit ?_
      refine VE.block_here ?_
      refine VE.seq ?_
      refine VC.seq ?_
      refine VC.region ?_
      refine VL.q (Q.loadA ty37 rfl zM zS) ?_
      refine VL.q (Q.move rfl) ?_
      refine VL.eff (O.call0 ok27 rfl rfl (by decide) (sequence_c q hq _ _ _ l rfl hl h16 hc lim (k) (by omega) (by omega)) (fun _ ho _ => hro.only0 ho) ?_)
      intro x72_1 y72_1
      have hrp := raw_pos hq l hk1
      have hsp : 0 < (q.seq l k).length := by rw [seq_length]; exact hrp
      obtain ⟨p72, c72⟩ := x72_1
      refine VK.rowHead (m := (q.raw l k).1.length) zM hrp ?_
      intro gp hgp _ _
      dsimp only at hgp
      subst hgp
      refine VL.q (Q.assign rfl) ?_
      refine VL.nil ?_
      refine VE.seq ?_
      refine VC.seq ?_
      refine VC.seq ?_
      refine VC.region ?_
      refine VL.q (Q.move rfl) ?_
      refine VL.q (Q.indexAddr sl39 (j := 0) rfl rfl rfl hrp) ?_
      refine VL.q (Q.fieldAddr fa48_5 rfl) ?_
      refine VL.q (Q.loadRow (v := .int .i64 (q.seq l k)[0].dur) ty3 rfl zM (pcs_get _ 0 hsp 5 _ rfl)) ?_
      refine VL.q (Q.gt rfl rfl) ?_
      refine VL.nil ?_
      refine VE.seq ?_
      refine VC.cond rfl ?_ ?_
      · intro h77
        have hb : decide (32767 < q.d0 l k) = true := by rw [d0_eq hsp]; exact h77
        refine VC.seq ?_
        refine VC.region ?_
        refine VL.q (Q.assign rfl) ?_
        refine VL.q (Q.assign rfl) ?_
        refine VL.nil ?_
        refine VE.seq ?_
        refine VC.ret ?_
        refine VE.then_ret ?_
        refine VK.addNil 48 6 ?_
        exact VE.ret rfl (.tmp rfl (.tmp rfl .nil)) ⟨k, none, 0, 0, 4, []⟩ ⟨hk1, hk2, .inl ⟨rfl, hb⟩⟩ rfl (.cons_cons _ (List.nil_sublist _))
      · intro h77
        have hb : decide (32767 < q.d0 l k) = false := by rw [d0_eq hsp]; exact h77
        refine VC.skip ?_
        refine VE.seq ?_
        refine VC.seq ?_
        refine VC.region ?_
        refine VL.q (Q.move rfl) ?_
        refine VL.q (Q.assign rfl) ?_
        refine VL.q (Q.assign rfl) ?_
        refine VL.nil ?_
        refine VE.seq ?_
        refine VC.ret ?_
        exact VE.ret rfl (.tmp rfl (.tmp rfl .nil)) ⟨k, some ⟨gp, 0, none⟩, _, c72, 0, q.seq l k⟩ ⟨hk1, hk2, .inr ⟨rfl, hb, rfl, rfl⟩⟩ rfl (.cons_cons _ (List.nil_sublist _))

def Subs (W : World) : Prop := ∃ m, W.cell? ⟨0, 0, none⟩ = some m ∧ ∀ k a b : Int, (k, a, b) ∈ [((1 : Int), (1 : Int), (11 : Int)), ((2 : Int), (1 : Int), (12 : Int)), ((3 : Int), (1 : Int), (12 : Int)), ((4 : Int), (2 : Int), (8 : Int)), ((5 : Int), (1 : Int), (13 : Int)), ((6 : Int), (1 : Int), (8 : Int)), ((7 : Int), (1 : Int), (9 : Int))] → ∀ W', Only [] W W' → (Instr.lookup 78 m (.int .u8 k) true).run Tryd.prog W' = .ok (.tuple #[.agg #[.int .u8 a, .int .u8 b], .bool true]) W'
theorem Subs.only {W W' : World} (h : Subs W) (ho : Only [] W W') : Subs W' := by
  obtain ⟨m, h1, h2⟩ := h
  exact ⟨m, only_cell ho h1 (by simp), fun k a b hk W2 ho2 => h2 k a b hk W2 (ho.trans ho2)⟩

theorem xheader_1 (i : Nat) (st air : Int) (D : Nat) (hD : D ≤ 32767) :
    Does Tryd.prog 12 [.agg #[.int .u8 1, .bool false, .int .i64 (i : Int), .int .i64 st, .int .i64 air, .int .i64 (D : Int)], .agg #[.int .u8 2, .int .u8 0, .int .u8 0, .int .u8 0, .int .u8 0, .int .u8 2], .agg #[.int .u8 2, .int .u8 0, .int .u8 0, .int .u8 0, .int .u8 0, .int .u8 1]] [] (Subs) (X := Unit) (fun _ => True) (fun _ => .tuple #[.agg #[.int .u8 1, .int .u8 11, .bool false, .bool false, .bool false, .bool false, .bool false, .bool false, .bool false, .int .i64 (D : Int), .int .u8 2, .int .u8 0, .int .u8 0, .int .u8 0, .int .u8 0, .int .u8 1, .int .u8 2, .int .u8 0, .int .u8 0, .int .u8 0, .int .u8 0, .int .u8 2, .int .u8 0, .int .u8 0, .int .u8 0, .int .u8 0, .int .u8 0, .int .u8 0, .int .u8 0, .int .u8 0, .int .u8 0, .int .u8 0, .int .u8 0, .int .u8 0, .int .i64 0, .int .i64 0, .int .i64 0, .int .u8 0, .bool false, .bool false], .int .i64 0]) (fun _ => []) := by
  refine Does.enter Tryd.func12 rfl (m := 67) rfl (by simp) ?_
  intro W0 hro
  obtain ⟨m, hm0, hlk⟩ := hro
  refine VC.seq ?_
  refine VC.region ?_
  refine VL.eff (O.box rfl rfl (by decide) ?_)
  intro g3
  refine VL.eff (O.box rfl rfl (by decide) ?_)
  intro g4
  refine VL.eff (O.box rfl rfl (by decide) ?_)
  intro g5
  refine VL.eff (O.alloc zo50 (by decide) ?_)
  intro g6
  refine VL.q (Q.assign rfl) ?_
  refine VL.nil ?_
  refine VE.seq ?_
  refine VC.seq ?_
  refine VC.region ?_
  refine VL.q (Q.load0 ty78 rfl hm0 (by simp)) ?_
  refine VL.q (Q.fieldAddr fa48_0 rfl) ?_
  refine VL.q (Q.load1 ty5 rfl zM rfl) ?_
  refine VL.q (Q.lookup rfl rfl (fun W ho => hlk 1 1 11 (by decide) W ho)) ?_
  refine VL.q (Q.move rfl) ?_
  refine VL.q (Q.extract rfl rfl) ?_
  refine VL.q (Q.extract rfl rfl) ?_
  refine VL.eff (O.alloc zo76 (by decide) ?_)
  intro g8
  refine VL.eff (O.store ty76 rfl rfl rfl rfl zU zP ?_)
  refine VL.q (Q.assign rfl) ?_
  refine VL.nil ?_
  refine VE.seq ?_
  refine VC.seq ?_
  refine VC.seq ?_
  refine VC.region ?_
  refine VL.q (Q.move rfl) ?_
  refine VL.quietE (v' := .bool false) (by decide) (Q.not rfl) (by rfl) ?_
  refine VL.q (Q.move rfl) ?_
  refine VL.yes rfl rfl ?_
  refine VL.q (Q.fieldAddr fa48_5 rfl) ?_
  refine VL.yes rfl rfl ?_
  refine VL.q (Q.load1 ty3 rfl zM rfl) ?_
  refine VL.yes rfl rfl ?_
  refine VL.quietE (v' := .bool false) (by decide) (Q.lt rfl rfl) (congrArg Value.bool (decide_eq_false (by omega))) ?_
  refine VL.quietE (v' := .bool false) (by decide) (Q.pick_false rfl rfl) (by rfl) ?_
  refine VL.q (Q.move rfl) ?_
  refine VL.yes rfl rfl ?_
  refine VL.q (Q.fieldAddr fa48_5 rfl) ?_
  refine VL.yes rfl rfl ?_
  refine VL.q (Q.load1 ty3 rfl zM rfl) ?_
  refine VL.yes rfl rfl ?_
  refine VL.quietE (v' := .bool false) (by decide) (Q.gt rfl rfl) (congrArg Value.bool (decide_eq_false (by omega))) ?_
  refine VL.quietE (v' := .bool false) (by decide) (Q.pick_false rfl rfl) (by rfl) ?_
  refine VL.nil ?_
  refine VE.seq ?_
  refine VC.condF rfl ?_
  refine VC.skip ?_
  refine VE.seq ?_
  refine VC.seqJ (X := Nat × Nat) (fun z => [(3, .pointer (some ⟨g3, 0, none⟩)), (4, .pointer (some ⟨g4, 0, none⟩)), (6, .pointer (some ⟨g6, 0, none⟩)), (8, .pointer (some ⟨g8, 0, none⟩)), (7, .int .i64 0), (10, .pointer (some ⟨z.1, 0, none⟩)), (11, .pointer (some ⟨z.2, 0, none⟩))]) (fun z => [.blk g3 [.int .u8 1, .bool false, .int .i64 (i : Int), .int .i64 st, .int .i64 air, .int .i64 (D : Int)] 48, .blk g4 [.int .u8 2, .int .u8 0, .int .u8 0, .int .u8 0, .int .u8 0, .int .u8 2] 43, .blk g6 [.int .u8 0, .int .u8 0, .bool false, .bool false, .bool false, .bool false, .bool false, .bool false, .bool false, .int .i64 0, .int .u8 0, .int .u8 0, .int .u8 0, .int .u8 0, .int .u8 0, .int .u8 0, .int .u8 0, .int .u8 0, .int .u8 0, .int .u8 0, .int .u8 0, .int .u8 0, .int .u8 0, .int .u8 0, .int .u8 0, .int .u8 0, .int .u8 0, .int .u8 0, .int .u8 0, .int .u8 0, .int .u8 0, .int .u8 0, .int .u8 0, .int .u8 0, .int .i64 0, .int .i64 0, .int .i64 0, .int .u8 0, .bool false, .bool false] 50, .blk g8 [.int .u8 1, .int .u8 11] 76, .blk z.1 [.int .u8 2, .int .u8 0, .int .u8 0, .int .u8 0, .int .u8 0, .int .u8 2] 43, .blk z.2 [.int .u8 2, .int .u8 0, .int .u8 0, .int .u8 0, .int .u8 0, .int .u8 1] 43]) (fun z => True) ?_ ?_
  · skip
    refine VA.start (Ls := [.blk g5 [.int .u8 2, .int .u8 0, .int .u8 0, .int .u8 0, .int .u8 0, .int .u8 1] 43, .blk g4 [.int .u8 2, .int .u8 0, .int .u8 0, .int .u8 0, .int .u8 0, .int .u8 2] 43]) (Cs := []) mixed ?_
    refine VA.take 0 rfl (by kernel_rfl) (by kernel_rfl) (by kernel_rfl) (Still.then Still.body) zB Cells.nil (by decide) (Quiet.c (Q.loadA ty43 rfl zM zS)) ?_
    refine VA.take 1 rfl (by kernel_rfl) (by kernel_rfl) (by kernel_rfl) (Still.then Still.body) zB Cells.nil (by decide) (Quiet.c (Q.loadA ty43 rfl zM zS)) ?_
    refine VA.all (rs := [2, 3]) (by kernel_rfl) (by simp) ?_
    refine VA.forall2 ?_ ?_
    · skip
      refine VA.eff rfl ?_
      refine id (O.alloc zo43 (by decide) ?_)
      intro g10
      refine VA.next zB Cells.nil ?_
      refine VA.all (rs := [3]) (by kernel_rfl) (by simp) ?_
      refine VA.forall1 ?_
      · skip
        refine VA.eff rfl ?_
        refine id (O.alloc zo43 (by decide) ?_)
        intro g11
        refine VA.next zB Cells.nil ?_
        refine VA.all (rs := [4]) (by kernel_rfl) (by simp) ?_
        refine VA.forall1 ?_
        · skip
          refine VA.eff rfl ?_
          refine id (O.store ty43 rfl rfl rfl rfl zU zP ?_)
          refine VA.next zB Cells.nil ?_
          refine VA.all (rs := [5]) (by kernel_rfl) (by simp) ?_
          refine VA.forall1 ?_
          · skip
            refine VA.eff rfl ?_
            refine id (O.store ty43 rfl rfl rfl rfl zU zP ?_)
            refine VA.next zB Cells.nil ?_
            refine VA.done (by kernel_rfl) ?_
            refine VE.then_normal ?_
            exact VE.meetP (g10, g11) trivial zE zKs
    · skip
      refine VA.eff rfl ?_
      refine id (O.alloc zo43 (by decide) ?_)
      intro g11_1
      refine VA.next zB Cells.nil ?_
      refine VA.all (rs := [2]) (by kernel_rfl) (by simp) ?_
      refine VA.forall1 ?_
      · skip
        refine VA.eff rfl ?_
        refine id (O.alloc zo43 (by decide) ?_)
        intro g10_1
        refine VA.next zB Cells.nil ?_
        refine VA.all (rs := [4]) (by kernel_rfl) (by simp) ?_
        refine VA.forall1 ?_
        · skip
          refine VA.eff rfl ?_
          refine id (O.store ty43 rfl rfl rfl rfl zU zP ?_)
          refine VA.next zB Cells.nil ?_
          refine VA.all (rs := [5]) (by kernel_rfl) (by simp) ?_
          refine VA.forall1 ?_
          · skip
            refine VA.eff rfl ?_
            refine id (O.store ty43 rfl rfl rfl rfl zU zP ?_)
            refine VA.next zB Cells.nil ?_
            refine VA.done (by kernel_rfl) ?_
            refine VE.then_normal ?_
            exact VE.meetP (g10_1, g11_1) trivial zE zKs
  · intro z _
    obtain ⟨ga, gb⟩ := z
    dsimp only
    refine VC.seq ?_
    refine VC.seq ?_
    refine VC.region ?_
    refine VL.q (Q.fieldAddr fa48_1 rfl) ?_
    refine VL.q (Q.load1 ty4 rfl zM rfl) ?_
    refine VL.nil ?_
    refine VE.seq ?_
    refine VC.condF rfl ?_
    refine VC.skip ?_
    refine VE.seq ?_
    refine VC.seq ?_
    refine VC.seq ?_
    refine VC.region ?_
    refine VL.q (Q.fieldAddr fa48_0 rfl) ?_
    refine VL.q (Q.load1 ty5 rfl zM rfl) ?_
    refine VL.quietE (v' := .bool false) (by decide) (Q.eq rfl rfl) (by rfl) ?_
    refine VL.nil ?_
    refine VE.seq ?_
    refine VC.condF rfl ?_
    refine VC.skip ?_
    refine VE.seq ?_
    refine VC.seq ?_
    refine VC.region ?_
    refine VL.q (Q.indexAddrA ar76 (j := 0) rfl rfl rfl (by omega)) ?_
    refine VL.q (Q.load1 ty5 rfl zM rfl) ?_
    refine VL.q (Q.indexAddrA ar76 (j := 1) rfl rfl rfl (by omega)) ?_
    refine VL.q (Q.load1 ty5 rfl zM rfl) ?_
    refine VL.q (Q.fieldAddr fa48_5 rfl) ?_
    refine VL.q (Q.load1 ty3 rfl zM rfl) ?_
    refine VL.q (Q.loadA ty43 rfl zM zS) ?_
    refine VL.q (Q.build lay50 zF) ?_
    refine VL.eff (O.alloc zo50 (by decide) ?_)
    intro g12
    refine VL.eff (O.store ty50 rfl rfl rfl rfl zU zP ?_)
    refine VL.nil ?_
    refine VE.seq ?_
    refine VC.seq ?_
    refine VC.seq ?_
    refine VC.region ?_
    refine VL.q (Q.fieldAddr fa48_0 rfl) ?_
    refine VL.q (Q.load1 ty5 rfl zM rfl) ?_
    refine VL.quietE (v' := .bool true) (by decide) (Q.ne rfl rfl) (by rfl) ?_
    refine VL.q (Q.move rfl) ?_
    refine VL.yes rfl rfl ?_
    refine VL.q (Q.fieldAddr fa48_0 rfl) ?_
    refine VL.yes rfl rfl ?_
    refine VL.q (Q.load1 ty5 rfl zM rfl) ?_
    refine VL.yes rfl rfl ?_
    refine VL.quietE (v' := .bool true) (by decide) (Q.ne rfl rfl) (by rfl) ?_
    refine VL.quietE (v' := .bool true) (by decide) (Q.pick_true rfl rfl) (by rfl) ?_
    refine VL.q (Q.move rfl) ?_
    refine VL.yes rfl rfl ?_
    refine VL.q (Q.fieldAddr fa48_0 rfl) ?_
    refine VL.yes rfl rfl ?_
    refine VL.q (Q.load1 ty5 rfl zM rfl) ?_
    refine VL.yes rfl rfl ?_
    refine VL.quietE (v' := .bool true) (by decide) (Q.ne rfl rfl) (by rfl) ?_
    refine VL.quietE (v' := .bool true) (by decide) (Q.pick_true rfl rfl) (by rfl) ?_
    refine VL.nil ?_
    refine VE.seq ?_
    refine VC.condT rfl ?_
    refine VC.region ?_
    refine VL.q (Q.loadA ty43 rfl zM zS) ?_
    refine VL.q (Q.fieldAddr fa50_11 rfl) ?_
    refine VL.eff (O.store ty43 rfl rfl rfl rfl zU zP ?_)
    refine VL.nil ?_
    refine VE.seq ?_
    refine VC.seq ?_
    refine VC.region ?_
    refine VL.q (Q.loadA ty50 rfl zM zS) ?_
    refine VL.eff (O.store ty50 rfl rfl rfl rfl zU zP ?_)
    refine VL.q (Q.assign rfl) ?_
    refine VL.nil ?_
    refine VE.seq ?_
    refine VC.ret ?_
    refine VE.ret rfl (.cell ty50 rfl zM rfl (.tmp rfl .nil)) () ?_ ?_ (List.nil_sublist _)
    · trivial
    · first | rfl | (exfalso; simp at *; omega)

theorem xheader_2 (i : Nat) (st air : Int) (D : Nat) (hD : D ≤ 32767) :
    Does Tryd.prog 12 [.agg #[.int .u8 2, .bool true, .int .i64 (i : Int), .int .i64 st, .int .i64 air, .int .i64 (D : Int)], .agg #[.int .u8 2, .int .u8 0, .int .u8 0, .int .u8 0, .int .u8 0, .int .u8 2], .agg #[.int .u8 2, .int .u8 0, .int .u8 0, .int .u8 0, .int .u8 0, .int .u8 1]] [] (Subs) (X := Unit) (fun _ => True) (fun _ => .tuple #[.agg #[.int .u8 1, .int .u8 12, .bool false, .bool false, .bool false, .bool false, .bool false, .bool false, .bool false, .int .i64 (D : Int), .int .u8 2, .int .u8 0, .int .u8 0, .int .u8 0, .int .u8 0, .int .u8 2, .int .u8 0, .int .u8 0, .int .u8 0, .int .u8 0, .int .u8 0, .int .u8 0, .int .u8 0, .int .u8 0, .int .u8 0, .int .u8 0, .int .u8 0, .int .u8 0, .int .u8 0, .int .u8 0, .int .u8 0, .int .u8 0, .int .u8 0, .int .u8 0, .int .i64 0, .int .i64 0, .int .i64 0, .int .u8 0, .bool false, .bool false], .int .i64 0]) (fun _ => []) := by
  refine Does.enter Tryd.func12 rfl (m := 67) rfl (by simp) ?_
  intro W0 hro
  obtain ⟨m, hm0, hlk⟩ := hro
  refine VC.seq ?_
  refine VC.region ?_
  refine VL.eff (O.box rfl rfl (by decide) ?_)
  intro g3
  refine VL.eff (O.box rfl rfl (by decide) ?_)
  intro g4
  refine VL.eff (O.box rfl rfl (by decide) ?_)
  intro g5
  refine VL.eff (O.alloc zo50 (by decide) ?_)
  intro g6
  refine VL.q (Q.assign rfl) ?_
  refine VL.nil ?_
  refine VE.seq ?_
  refine VC.seq ?_
  refine VC.region ?_
  refine VL.q (Q.load0 ty78 rfl hm0 (by simp)) ?_
  refine VL.q (Q.fieldAddr fa48_0 rfl) ?_
  refine VL.q (Q.load1 ty5 rfl zM rfl) ?_
  refine VL.q (Q.lookup rfl rfl (fun W ho => hlk 2 1 12 (by decide) W ho)) ?_
  refine VL.q (Q.move rfl) ?_
  refine VL.q (Q.extract rfl rfl) ?_
  refine VL.q (Q.extract rfl rfl) ?_
  refine VL.eff (O.alloc zo76 (by decide) ?_)
  intro g8
  refine VL.eff (O.store ty76 rfl rfl rfl rfl zU zP ?_)
  refine VL.q (Q.assign rfl) ?_
  refine VL.nil ?_
  refine VE.seq ?_
  refine VC.seq ?_
  refine VC.seq ?_
  refine VC.region ?_
  refine VL.q (Q.move rfl) ?_
  refine VL.quietE (v' := .bool false) (by decide) (Q.not rfl) (by rfl) ?_
  refine VL.q (Q.move rfl) ?_
  refine VL.yes rfl rfl ?_
  refine VL.q (Q.fieldAddr fa48_5 rfl) ?_
  refine VL.yes rfl rfl ?_
  refine VL.q (Q.load1 ty3 rfl zM rfl) ?_
  refine VL.yes rfl rfl ?_
  refine VL.quietE (v' := .bool false) (by decide) (Q.lt rfl rfl) (congrArg Value.bool (decide_eq_false (by omega))) ?_
  refine VL.quietE (v' := .bool false) (by decide) (Q.pick_false rfl rfl) (by rfl) ?_
  refine VL.q (Q.move rfl) ?_
  refine VL.yes rfl rfl ?_
  refine VL.q (Q.fieldAddr fa48_5 rfl) ?_
  refine VL.yes rfl rfl ?_
  refine VL.q (Q.load1 ty3 rfl zM rfl) ?_
  refine VL.yes rfl rfl ?_
  refine VL.quietE (v' := .bool false) (by decide) (Q.gt rfl rfl) (congrArg Value.bool (decide_eq_false (by omega))) ?_
  refine VL.quietE (v' := .bool false) (by decide) (Q.pick_false rfl rfl) (by rfl) ?_
  refine VL.nil ?_
  refine VE.seq ?_
  refine VC.condF rfl ?_
  refine VC.skip ?_
  refine VE.seq ?_
  refine VC.seqJ (X := Nat × Nat) (fun z => [(3, .pointer (some ⟨g3, 0, none⟩)), (4, .pointer (some ⟨g4, 0, none⟩)), (6, .pointer (some ⟨g6, 0, none⟩)), (8, .pointer (some ⟨g8, 0, none⟩)), (7, .int .i64 0), (10, .pointer (some ⟨z.1, 0, none⟩)), (11, .pointer (some ⟨z.2, 0, none⟩))]) (fun z => [.blk g3 [.int .u8 2, .bool true, .int .i64 (i : Int), .int .i64 st, .int .i64 air, .int .i64 (D : Int)] 48, .blk g4 [.int .u8 2, .int .u8 0, .int .u8 0, .int .u8 0, .int .u8 0, .int .u8 2] 43, .blk g6 [.int .u8 0, .int .u8 0, .bool false, .bool false, .bool false, .bool false, .bool false, .bool false, .bool false, .int .i64 0, .int .u8 0, .int .u8 0, .int .u8 0, .int .u8 0, .int .u8 0, .int .u8 0, .int .u8 0, .int .u8 0, .int .u8 0, .int .u8 0, .int .u8 0, .int .u8 0, .int .u8 0, .int .u8 0, .int .u8 0, .int .u8 0, .int .u8 0, .int .u8 0, .int .u8 0, .int .u8 0, .int .u8 0, .int .u8 0, .int .u8 0, .int .u8 0, .int .i64 0, .int .i64 0, .int .i64 0, .int .u8 0, .bool false, .bool false] 50, .blk g8 [.int .u8 1, .int .u8 12] 76, .blk z.1 [.int .u8 2, .int .u8 0, .int .u8 0, .int .u8 0, .int .u8 0, .int .u8 2] 43, .blk z.2 [.int .u8 2, .int .u8 0, .int .u8 0, .int .u8 0, .int .u8 0, .int .u8 1] 43]) (fun z => True) ?_ ?_
  · skip
    refine VA.start (Ls := [.blk g5 [.int .u8 2, .int .u8 0, .int .u8 0, .int .u8 0, .int .u8 0, .int .u8 1] 43, .blk g4 [.int .u8 2, .int .u8 0, .int .u8 0, .int .u8 0, .int .u8 0, .int .u8 2] 43]) (Cs := []) mixed ?_
    refine VA.take 0 rfl (by kernel_rfl) (by kernel_rfl) (by kernel_rfl) (Still.then Still.body) zB Cells.nil (by decide) (Quiet.c (Q.loadA ty43 rfl zM zS)) ?_
    refine VA.take 1 rfl (by kernel_rfl) (by kernel_rfl) (by kernel_rfl) (Still.then Still.body) zB Cells.nil (by decide) (Quiet.c (Q.loadA ty43 rfl zM zS)) ?_
    refine VA.all (rs := [2, 3]) (by kernel_rfl) (by simp) ?_
    refine VA.forall2 ?_ ?_
    · skip
      refine VA.eff rfl ?_
      refine id (O.alloc zo43 (by decide) ?_)
      intro g10
      refine VA.next zB Cells.nil ?_
      refine VA.all (rs := [3]) (by kernel_rfl) (by simp) ?_
      refine VA.forall1 ?_
      · skip
        refine VA.eff rfl ?_
        refine id (O.alloc zo43 (by decide) ?_)
        intro g11
        refine VA.next zB Cells.nil ?_
        refine VA.all (rs := [4]) (by kernel_rfl) (by simp) ?_
        refine VA.forall1 ?_
        · skip
          refine VA.eff rfl ?_
          refine id (O.store ty43 rfl rfl rfl rfl zU zP ?_)
          refine VA.next zB Cells.nil ?_
          refine VA.all (rs := [5]) (by kernel_rfl) (by simp) ?_
          refine VA.forall1 ?_
          · skip
            refine VA.eff rfl ?_
            refine id (O.store ty43 rfl rfl rfl rfl zU zP ?_)
            refine VA.next zB Cells.nil ?_
            refine VA.done (by kernel_rfl) ?_
            refine VE.then_normal ?_
            exact VE.meetP (g10, g11) trivial zE zKs
    · skip
      refine VA.eff rfl ?_
      refine id (O.alloc zo43 (by decide) ?_)
      intro g11_1
      refine VA.next zB Cells.nil ?_
      refine VA.all (rs := [2]) (by kernel_rfl) (by simp) ?_
      refine VA.forall1 ?_
      · skip
        refine VA.eff rfl ?_
        refine id (O.alloc zo43 (by decide) ?_)
        intro g10_1
        refine VA.next zB Cells.nil ?_
        refine VA.all (rs := [4]) (by kernel_rfl) (by simp) ?_
        refine VA.forall1 ?_
        · skip
          refine VA.eff rfl ?_
          refine id (O.store ty43 rfl rfl rfl rfl zU zP ?_)
          refine VA.next zB Cells.nil ?_
          refine VA.all (rs := [5]) (by kernel_rfl) (by simp) ?_
          refine VA.forall1 ?_
          · skip
            refine VA.eff rfl ?_
            refine id (O.store ty43 rfl rfl rfl rfl zU zP ?_)
            refine VA.next zB Cells.nil ?_
            refine VA.done (by kernel_rfl) ?_
            refine VE.then_normal ?_
            exact VE.meetP (g10_1, g11_1) trivial zE zKs
  · intro z _
    obtain ⟨ga, gb⟩ := z
    dsimp only
    refine VC.seq ?_
    refine VC.seq ?_
    refine VC.region ?_
    refine VL.q (Q.fieldAddr fa48_1 rfl) ?_
    refine VL.q (Q.load1 ty4 rfl zM rfl) ?_
    refine VL.nil ?_
    refine VE.seq ?_
    refine VC.condT rfl ?_
    refine VC.region ?_
    refine VL.q (Q.loadA ty43 rfl zM zS) ?_
    refine VL.q (Q.loadA ty43 rfl zM zS) ?_
    refine VL.eff (O.store ty43 rfl rfl rfl rfl zU zP ?_)
    refine VL.eff (O.store ty43 rfl rfl rfl rfl zU zP ?_)
    refine VL.nil ?_
    refine VE.seq ?_
    refine VC.seq ?_
    refine VC.seq ?_
    refine VC.region ?_
    refine VL.q (Q.fieldAddr fa48_0 rfl) ?_
    refine VL.q (Q.load1 ty5 rfl zM rfl) ?_
    refine VL.quietE (v' := .bool false) (by decide) (Q.eq rfl rfl) (by rfl) ?_
    refine VL.nil ?_
    refine VE.seq ?_
    refine VC.condF rfl ?_
    refine VC.skip ?_
    refine VE.seq ?_
    refine VC.seq ?_
    refine VC.region ?_
    refine VL.q (Q.indexAddrA ar76 (j := 0) rfl rfl rfl (by omega)) ?_
    refine VL.q (Q.load1 ty5 rfl zM rfl) ?_
    refine VL.q (Q.indexAddrA ar76 (j := 1) rfl rfl rfl (by omega)) ?_
    refine VL.q (Q.load1 ty5 rfl zM rfl) ?_
    refine VL.q (Q.fieldAddr fa48_5 rfl) ?_
    refine VL.q (Q.load1 ty3 rfl zM rfl) ?_
    refine VL.q (Q.loadA ty43 rfl zM zS) ?_
    refine VL.q (Q.build lay50 zF) ?_
    refine VL.eff (O.alloc zo50 (by decide) ?_)
    intro g12
    refine VL.eff (O.store ty50 rfl rfl rfl rfl zU zP ?_)
    refine VL.nil ?_
    refine VE.seq ?_
    refine VC.seq ?_
    refine VC.seq ?_
    refine VC.region ?_
    refine VL.q (Q.fieldAddr fa48_0 rfl) ?_
    refine VL.q (Q.load1 ty5 rfl zM rfl) ?_
    refine VL.quietE (v' := .bool false) (by decide) (Q.ne rfl rfl) (by rfl) ?_
    refine VL.q (Q.move rfl) ?_
    refine VL.no (by simp) rfl rfl (.inl rfl) ?_
    refine VL.no (by simp) rfl rfl (.inl rfl) ?_
    refine VL.no (by simp) rfl rfl (.inl rfl) ?_
    refine VL.quietE (v' := .bool false) (by decide) (Q.pick_false rfl rfl) (by rfl) ?_
    refine VL.q (Q.move rfl) ?_
    refine VL.no (by simp) rfl rfl (.inl rfl) ?_
    refine VL.no (by simp) rfl rfl (.inl rfl) ?_
    refine VL.no (by simp) rfl rfl (.inl rfl) ?_
    refine VL.quietE (v' := .bool false) (by decide) (Q.pick_false rfl rfl) (by rfl) ?_
    refine VL.nil ?_
    refine VE.seq ?_
    refine VC.condF rfl ?_
    refine VC.skip ?_
    refine VE.seq ?_
    refine VC.seq ?_
    refine VC.region ?_
    refine VL.q (Q.loadA ty50 rfl zM zS) ?_
    refine VL.eff (O.store ty50 rfl rfl rfl rfl zU zP ?_)
    refine VL.q (Q.assign rfl) ?_
    refine VL.nil ?_
    refine VE.seq ?_
    refine VC.ret ?_
    refine VE.ret rfl (.cell ty50 rfl zM rfl (.tmp rfl .nil)) () ?_ ?_ (List.nil_sublist _)
    · trivial
    · first | rfl | (exfalso; simp at *; omega)

theorem xheader_3 (i : Nat) (st air : Int) (D : Nat) (hD : D ≤ 32767) :
    Does Tryd.prog 12 [.agg #[.int .u8 3, .bool false, .int .i64 (i : Int), .int .i64 st, .int .i64 air, .int .i64 (D : Int)], .agg #[.int .u8 2, .int .u8 0, .int .u8 0, .int .u8 0, .int .u8 0, .int .u8 2], .agg #[.int .u8 2, .int .u8 0, .int .u8 0, .int .u8 0, .int .u8 0, .int .u8 1]] [] (Subs) (X := Unit) (fun _ => True) (fun _ => .tuple #[.agg #[.int .u8 1, .int .u8 12, .bool false, .bool false, .bool false, .bool false, .bool false, .bool false, .bool false, .int .i64 (D : Int), .int .u8 2, .int .u8 0, .int .u8 0, .int .u8 0, .int .u8 0, .int .u8 2, .int .u8 0, .int .u8 0, .int .u8 0, .int .u8 0, .int .u8 0, .int .u8 0, .int .u8 0, .int .u8 0, .int .u8 0, .int .u8 0, .int .u8 0, .int .u8 0, .int .u8 0, .int .u8 0, .int .u8 0, .int .u8 0, .int .u8 0, .int .u8 0, .int .i64 0, .int .i64 0, .int .i64 0, .int .u8 0, .bool false, .bool false], .int .i64 0]) (fun _ => []) := by
  refine Does.enter Tryd.func12 rfl (m := 67) rfl (by simp) ?_
  intro W0 hro
  obtain ⟨m, hm0, hlk⟩ := hro
  refine VC.seq ?_
  refine VC.region ?_
  refine VL.eff (O.box rfl rfl (by decide) ?_)
  intro g3
  refine VL.eff (O.box rfl rfl (by decide) ?_)
  intro g4
  refine VL.eff (O.box rfl rfl (by decide) ?_)
  intro g5
  refine VL.eff (O.alloc zo50 (by decide) ?_)
  intro g6
  refine VL.q (Q.assign rfl) ?_
  refine VL.nil ?_
  refine VE.seq ?_
  refine VC.seq ?_
  refine VC.region ?_
  refine VL.q (Q.load0 ty78 rfl hm0 (by simp)) ?_
  refine VL.q (Q.fieldAddr fa48_0 rfl) ?_
  refine VL.q (Q.load1 ty5 rfl zM rfl) ?_
  refine VL.q (Q.lookup rfl rfl (fun W ho => hlk 3 1 12 (by decide) W ho)) ?_
  refine VL.q (Q.move rfl) ?_
  refine VL.q (Q.extract rfl rfl) ?_
  refine VL.q (Q.extract rfl rfl) ?_
  refine VL.eff (O.alloc zo76 (by decide) ?_)
  intro g8
  refine VL.eff (O.store ty76 rfl rfl rfl rfl zU zP ?_)
  refine VL.q (Q.assign rfl) ?_
  refine VL.nil ?_
  refine VE.seq ?_
  refine VC.seq ?_
  refine VC.seq ?_
  refine VC.region ?_
  refine VL.q (Q.move rfl) ?_
  refine VL.quietE (v' := .bool false) (by decide) (Q.not rfl) (by rfl) ?_
  refine VL.q (Q.move rfl) ?_
  refine VL.yes rfl rfl ?_
  refine VL.q (Q.fieldAddr fa48_5 rfl) ?_
  refine VL.yes rfl rfl ?_
  refine VL.q (Q.load1 ty3 rfl zM rfl) ?_
  refine VL.yes rfl rfl ?_
  refine VL.quietE (v' := .bool false) (by decide) (Q.lt rfl rfl) (congrArg Value.bool (decide_eq_false (by omega))) ?_
  refine VL.quietE (v' := .bool false) (by decide) (Q.pick_false rfl rfl) (by rfl) ?_
  refine VL.q (Q.move rfl) ?_
  refine VL.yes rfl rfl ?_
  refine VL.q (Q.fieldAddr fa48_5 rfl) ?_
  refine VL.yes rfl rfl ?_
  refine VL.q (Q.load1 ty3 rfl zM rfl) ?_
  refine VL.yes rfl rfl ?_
  refine VL.quietE (v' := .bool false) (by decide) (Q.gt rfl rfl) (congrArg Value.bool (decide_eq_false (by omega))) ?_
  refine VL.quietE (v' := .bool false) (by decide) (Q.pick_false rfl rfl) (by rfl) ?_
  refine VL.nil ?_
  refine VE.seq ?_
  refine VC.condF rfl ?_
  refine VC.skip ?_
  refine VE.seq ?_
  refine VC.seqJ (X := Nat × Nat) (fun z => [(3, .pointer (some ⟨g3, 0, none⟩)), (4, .pointer (some ⟨g4, 0, none⟩)), (6, .pointer (some ⟨g6, 0, none⟩)), (8, .pointer (some ⟨g8, 0, none⟩)), (7, .int .i64 0), (10, .pointer (some ⟨z.1, 0, none⟩)), (11, .pointer (some ⟨z.2, 0, none⟩))]) (fun z => [.blk g3 [.int .u8 3, .bool false, .int .i64 (i : Int), .int .i64 st, .int .i64 air, .int .i64 (D : Int)] 48, .blk g4 [.int .u8 2, .int .u8 0, .int .u8 0, .int .u8 0, .int .u8 0, .int .u8 2] 43, .blk g6 [.int .u8 0, .int .u8 0, .bool false, .bool false, .bool false, .bool false, .bool false, .bool false, .bool false, .int .i64 0, .int .u8 0, .int .u8 0, .int .u8 0, .int .u8 0, .int .u8 0, .int .u8 0, .int .u8 0, .int .u8 0, .int .u8 0, .int .u8 0, .int .u8 0, .int .u8 0, .int .u8 0, .int .u8 0, .int .u8 0, .int .u8 0, .int .u8 0, .int .u8 0, .int .u8 0, .int .u8 0, .int .u8 0, .int .u8 0, .int .u8 0, .int .u8 0, .int .i64 0, .int .i64 0, .int .i64 0, .int .u8 0, .bool false, .bool false] 50, .blk g8 [.int .u8 1, .int .u8 12] 76, .blk z.1 [.int .u8 2, .int .u8 0, .int .u8 0, .int .u8 0, .int .u8 0, .int .u8 2] 43, .blk z.2 [.int .u8 2, .int .u8 0, .int .u8 0, .int .u8 0, .int .u8 0, .int .u8 1] 43]) (fun z => True) ?_ ?_
  · skip
    refine VA.start (Ls := [.blk g5 [.int .u8 2, .int .u8 0, .int .u8 0, .int .u8 0, .int .u8 0, .int .u8 1] 43, .blk g4 [.int .u8 2, .int .u8 0, .int .u8 0, .int .u8 0, .int .u8 0, .int .u8 2] 43]) (Cs := []) mixed ?_
    refine VA.take 0 rfl (by kernel_rfl) (by kernel_rfl) (by kernel_rfl) (Still.then Still.body) zB Cells.nil (by decide) (Quiet.c (Q.loadA ty43 rfl zM zS)) ?_
    refine VA.take 1 rfl (by kernel_rfl) (by kernel_rfl) (by kernel_rfl) (Still.then Still.body) zB Cells.nil (by decide) (Quiet.c (Q.loadA ty43 rfl zM zS)) ?_
    refine VA.all (rs := [2, 3]) (by kernel_rfl) (by simp) ?_
    refine VA.forall2 ?_ ?_
    · skip
      refine VA.eff rfl ?_
      refine id (O.alloc zo43 (by decide) ?_)
      intro g10
      refine VA.next zB Cells.nil ?_
      refine VA.all (rs := [3]) (by kernel_rfl) (by simp) ?_
      refine VA.forall1 ?_
      · skip
        refine VA.eff rfl ?_
        refine id (O.alloc zo43 (by decide) ?_)
        intro g11
        refine VA.next zB Cells.nil ?_
        refine VA.all (rs := [4]) (by kernel_rfl) (by simp) ?_
        refine VA.forall1 ?_
        · skip
          refine VA.eff rfl ?_
          refine id (O.store ty43 rfl rfl rfl rfl zU zP ?_)
          refine VA.next zB Cells.nil ?_
          refine VA.all (rs := [5]) (by kernel_rfl) (by simp) ?_
          refine VA.forall1 ?_
          · skip
            refine VA.eff rfl ?_
            refine id (O.store ty43 rfl rfl rfl rfl zU zP ?_)
            refine VA.next zB Cells.nil ?_
            refine VA.done (by kernel_rfl) ?_
            refine VE.then_normal ?_
            exact VE.meetP (g10, g11) trivial zE zKs
    · skip
      refine VA.eff rfl ?_
      refine id (O.alloc zo43 (by decide) ?_)
      intro g11_1
      refine VA.next zB Cells.nil ?_
      refine VA.all (rs := [2]) (by kernel_rfl) (by simp) ?_
      refine VA.forall1 ?_
      · skip
        refine VA.eff rfl ?_
        refine id (O.alloc zo43 (by decide) ?_)
        intro g10_1
        refine VA.next zB Cells.nil ?_
        refine VA.all (rs := [4]) (by kernel_rfl) (by simp) ?_
        refine VA.forall1 ?_
        · skip
          refine VA.eff rfl ?_
          refine id (O.store ty43 rfl rfl rfl rfl zU zP ?_)
          refine VA.next zB Cells.nil ?_
          refine VA.all (rs := [5]) (by kernel_rfl) (by simp) ?_
          refine VA.forall1 ?_
          · skip
            refine VA.eff rfl ?_
            refine id (O.store ty43 rfl rfl rfl rfl zU zP ?_)
            refine VA.next zB Cells.nil ?_
            refine VA.done (by kernel_rfl) ?_
            refine VE.then_normal ?_
            exact VE.meetP (g10_1, g11_1) trivial zE zKs
  · intro z _
    obtain ⟨ga, gb⟩ := z
    dsimp only
    refine VC.seq ?_
    refine VC.seq ?_
    refine VC.region ?_
    refine VL.q (Q.fieldAddr fa48_1 rfl) ?_
    refine VL.q (Q.load1 ty4 rfl zM rfl) ?_
    refine VL.nil ?_
    refine VE.seq ?_
    refine VC.condF rfl ?_
    refine VC.skip ?_
    refine VE.seq ?_
    refine VC.seq ?_
    refine VC.seq ?_
    refine VC.region ?_
    refine VL.q (Q.fieldAddr fa48_0 rfl) ?_
    refine VL.q (Q.load1 ty5 rfl zM rfl) ?_
    refine VL.quietE (v' := .bool true) (by decide) (Q.eq rfl rfl) (by rfl) ?_
    refine VL.nil ?_
    refine VE.seq ?_
    refine VC.condT rfl ?_
    refine VC.region ?_
    refine VL.q (Q.loadA ty43 rfl zM zS) ?_
    refine VL.eff (O.store ty43 rfl rfl rfl rfl zU zP ?_)
    refine VL.nil ?_
    refine VE.seq ?_
    refine VC.seq ?_
    refine VC.region ?_
    refine VL.q (Q.indexAddrA ar76 (j := 0) rfl rfl rfl (by omega)) ?_
    refine VL.q (Q.load1 ty5 rfl zM rfl) ?_
    refine VL.q (Q.indexAddrA ar76 (j := 1) rfl rfl rfl (by omega)) ?_
    refine VL.q (Q.load1 ty5 rfl zM rfl) ?_
    refine VL.q (Q.fieldAddr fa48_5 rfl) ?_
    refine VL.q (Q.load1 ty3 rfl zM rfl) ?_
    refine VL.q (Q.loadA ty43 rfl zM zS) ?_
    refine VL.q (Q.build lay50 zF) ?_
    refine VL.eff (O.alloc zo50 (by decide) ?_)
    intro g12
    refine VL.eff (O.store ty50 rfl rfl rfl rfl zU zP ?_)
    refine VL.nil ?_
    refine VE.seq ?_
    refine VC.seq ?_
    refine VC.seq ?_
    refine VC.region ?_
    refine VL.q (Q.fieldAddr fa48_0 rfl) ?_
    refine VL.q (Q.load1 ty5 rfl zM rfl) ?_
    refine VL.quietE (v' := .bool true) (by decide) (Q.ne rfl rfl) (by rfl) ?_
    refine VL.q (Q.move rfl) ?_
    refine VL.yes rfl rfl ?_
    refine VL.q (Q.fieldAddr fa48_0 rfl) ?_
    refine VL.yes rfl rfl ?_
    refine VL.q (Q.load1 ty5 rfl zM rfl) ?_
    refine VL.yes rfl rfl ?_
    refine VL.quietE (v' := .bool false) (by decide) (Q.ne rfl rfl) (by rfl) ?_
    refine VL.quietE (v' := .bool false) (by decide) (Q.pick_true rfl rfl) (by rfl) ?_
    refine VL.q (Q.move rfl) ?_
    refine VL.no (by simp) rfl rfl (.inl rfl) ?_
    refine VL.no (by simp) rfl rfl (.inl rfl) ?_
    refine VL.no (by simp) rfl rfl (.inl rfl) ?_
    refine VL.quietE (v' := .bool false) (by decide) (Q.pick_false rfl rfl) (by rfl) ?_
    refine VL.nil ?_
    refine VE.seq ?_
    refine VC.condF rfl ?_
    refine VC.skip ?_
    refine VE.seq ?_
    refine VC.seq ?_
    refine VC.region ?_
    refine VL.q (Q.loadA ty50 rfl zM zS) ?_
    refine VL.eff (O.store ty50 rfl rfl rfl rfl zU zP ?_)
    refine VL.q (Q.assign rfl) ?_
    refine VL.nil ?_
    refine VE.seq ?_
    refine VC.ret ?_
    refine VE.ret rfl (.cell ty50 rfl zM rfl (.tmp rfl .nil)) () ?_ ?_ (List.nil_sublist _)
    · trivial
    · first | rfl | (exfalso; simp at *; omega)

theorem xheader_4 (i : Nat) (st air : Int) (D : Nat) (hD : D ≤ 32767) :
    Does Tryd.prog 12 [.agg #[.int .u8 4, .bool false, .int .i64 (i : Int), .int .i64 st, .int .i64 air, .int .i64 (D : Int)], .agg #[.int .u8 2, .int .u8 0, .int .u8 0, .int .u8 0, .int .u8 0, .int .u8 2], .agg #[.int .u8 2, .int .u8 0, .int .u8 0, .int .u8 0, .int .u8 0, .int .u8 1]] [] (Subs) (X := Unit) (fun _ => True) (fun _ => .tuple #[.agg #[.int .u8 2, .int .u8 8, .bool false, .bool false, .bool false, .bool false, .bool false, .bool false, .bool false, .int .i64 (D : Int), .int .u8 2, .int .u8 0, .int .u8 0, .int .u8 0, .int .u8 0, .int .u8 1, .int .u8 2, .int .u8 0, .int .u8 0, .int .u8 0, .int .u8 0, .int .u8 2, .int .u8 0, .int .u8 0, .int .u8 0, .int .u8 0, .int .u8 0, .int .u8 0, .int .u8 0, .int .u8 0, .int .u8 0, .int .u8 0, .int .u8 0, .int .u8 0, .int .i64 0, .int .i64 0, .int .i64 0, .int .u8 0, .bool false, .bool false], .int .i64 0]) (fun _ => []) := by
  refine Does.enter Tryd.func12 rfl (m := 67) rfl (by simp) ?_
  intro W0 hro
  obtain ⟨m, hm0, hlk⟩ := hro
  refine VC.seq ?_
  refine VC.region ?_
  refine VL.eff (O.box rfl rfl (by decide) ?_)
  intro g3
  refine VL.eff (O.box rfl rfl (by decide) ?_)
  intro g4
  refine VL.eff (O.box rfl rfl (by decide) ?_)
  intro g5
  refine VL.eff (O.alloc zo50 (by decide) ?_)
  intro g6
  refine VL.q (Q.assign rfl) ?_
  refine VL.nil ?_
  refine VE.seq ?_
  refine VC.seq ?_
  refine VC.region ?_
  refine VL.q (Q.load0 ty78 rfl hm0 (by simp)) ?_
  refine VL.q (Q.fieldAddr fa48_0 rfl) ?_
  refine VL.q (Q.load1 ty5 rfl zM rfl) ?_
  refine VL.q (Q.lookup rfl rfl (fun W ho => hlk 4 2 8 (by decide) W ho)) ?_
  refine VL.q (Q.move rfl) ?_
  refine VL.q (Q.extract rfl rfl) ?_
  refine VL.q (Q.extract rfl rfl) ?_
  refine VL.eff (O.alloc zo76 (by decide) ?_)
  intro g8
  refine VL.eff (O.store ty76 rfl rfl rfl rfl zU zP ?_)
  refine VL.q (Q.assign rfl) ?_
  refine VL.nil ?_
  refine VE.seq ?_
  refine VC.seq ?_
  refine VC.seq ?_
  refine VC.region ?_
  refine VL.q (Q.move rfl) ?_
  refine VL.quietE (v' := .bool false) (by decide) (Q.not rfl) (by rfl) ?_
  refine VL.q (Q.move rfl) ?_
  refine VL.yes rfl rfl ?_
  refine VL.q (Q.fieldAddr fa48_5 rfl) ?_
  refine VL.yes rfl rfl ?_
  refine VL.q (Q.load1 ty3 rfl zM rfl) ?_
  refine VL.yes rfl rfl ?_
  refine VL.quietE (v' := .bool false) (by decide) (Q.lt rfl rfl) (congrArg Value.bool (decide_eq_false (by omega))) ?_
  refine VL.quietE (v' := .bool false) (by decide) (Q.pick_false rfl rfl) (by rfl) ?_
  refine VL.q (Q.move rfl) ?_
  refine VL.yes rfl rfl ?_
  refine VL.q (Q.fieldAddr fa48_5 rfl) ?_
  refine VL.yes rfl rfl ?_
  refine VL.q (Q.load1 ty3 rfl zM rfl) ?_
  refine VL.yes rfl rfl ?_
  refine VL.quietE (v' := .bool false) (by decide) (Q.gt rfl rfl) (congrArg Value.bool (decide_eq_false (by omega))) ?_
  refine VL.quietE (v' := .bool false) (by decide) (Q.pick_false rfl rfl) (by rfl) ?_
  refine VL.nil ?_
  refine VE.seq ?_
  refine VC.condF rfl ?_
  refine VC.skip ?_
  refine VE.seq ?_
  refine VC.seqJ (X := Nat × Nat) (fun z => [(3, .pointer (some ⟨g3, 0, none⟩)), (4, .pointer (some ⟨g4, 0, none⟩)), (6, .pointer (some ⟨g6, 0, none⟩)), (8, .pointer (some ⟨g8, 0, none⟩)), (7, .int .i64 0), (10, .pointer (some ⟨z.1, 0, none⟩)), (11, .pointer (some ⟨z.2, 0, none⟩))]) (fun z => [.blk g3 [.int .u8 4, .bool false, .int .i64 (i : Int), .int .i64 st, .int .i64 air, .int .i64 (D : Int)] 48, .blk g4 [.int .u8 2, .int .u8 0, .int .u8 0, .int .u8 0, .int .u8 0, .int .u8 2] 43, .blk g6 [.int .u8 0, .int .u8 0, .bool false, .bool false, .bool false, .bool false, .bool false, .bool false, .bool false, .int .i64 0, .int .u8 0, .int .u8 0, .int .u8 0, .int .u8 0, .int .u8 0, .int .u8 0, .int .u8 0, .int .u8 0, .int .u8 0, .int .u8 0, .int .u8 0, .int .u8 0, .int .u8 0, .int .u8 0, .int .u8 0, .int .u8 0, .int .u8 0, .int .u8 0, .int .u8 0, .int .u8 0, .int .u8 0, .int .u8 0, .int .u8 0, .int .u8 0, .int .i64 0, .int .i64 0, .int .i64 0, .int .u8 0, .bool false, .bool false] 50, .blk g8 [.int .u8 2, .int .u8 8] 76, .blk z.1 [.int .u8 2, .int .u8 0, .int .u8 0, .int .u8 0, .int .u8 0, .int .u8 2] 43, .blk z.2 [.int .u8 2, .int .u8 0, .int .u8 0, .int .u8 0, .int .u8 0, .int .u8 1] 43]) (fun z => True) ?_ ?_
  · skip
    refine VA.start (Ls := [.blk g5 [.int .u8 2, .int .u8 0, .int .u8 0, .int .u8 0, .int .u8 0, .int .u8 1] 43, .blk g4 [.int .u8 2, .int .u8 0, .int .u8 0, .int .u8 0, .int .u8 0, .int .u8 2] 43]) (Cs := []) mixed ?_
    refine VA.take 0 rfl (by kernel_rfl) (by kernel_rfl) (by kernel_rfl) (Still.then Still.body) zB Cells.nil (by decide) (Quiet.c (Q.loadA ty43 rfl zM zS)) ?_
    refine VA.take 1 rfl (by kernel_rfl) (by kernel_rfl) (by kernel_rfl) (Still.then Still.body) zB Cells.nil (by decide) (Quiet.c (Q.loadA ty43 rfl zM zS)) ?_
    refine VA.all (rs := [2, 3]) (by kernel_rfl) (by simp) ?_
    refine VA.forall2 ?_ ?_
    · skip
      refine VA.eff rfl ?_
      refine id (O.alloc zo43 (by decide) ?_)
      intro g10
      refine VA.next zB Cells.nil ?_
      refine VA.all (rs := [3]) (by kernel_rfl) (by simp) ?_
      refine VA.forall1 ?_
      · skip
        refine VA.eff rfl ?_
        refine id (O.alloc zo43 (by decide) ?_)
        intro g11
        refine VA.next zB Cells.nil ?_
        refine VA.all (rs := [4]) (by kernel_rfl) (by simp) ?_
        refine VA.forall1 ?_
        · skip
          refine VA.eff rfl ?_
          refine id (O.store ty43 rfl rfl rfl rfl zU zP ?_)
          refine VA.next zB Cells.nil ?_
          refine VA.all (rs := [5]) (by kernel_rfl) (by simp) ?_
          refine VA.forall1 ?_
          · skip
            refine VA.eff rfl ?_
            refine id (O.store ty43 rfl rfl rfl rfl zU zP ?_)
            refine VA.next zB Cells.nil ?_
            refine VA.done (by kernel_rfl) ?_
            refine VE.then_normal ?_
            exact VE.meetP (g10, g11) trivial zE zKs
    · skip
      refine VA.eff rfl ?_
      refine id (O.alloc zo43 (by decide) ?_)
      intro g11_1
      refine VA.next zB Cells.nil ?_
      refine VA.all (rs := [2]) (by kernel_rfl) (by simp) ?_
      refine VA.forall1 ?_
      · skip
        refine VA.eff rfl ?_
        refine id (O.alloc zo43 (by decide) ?_)
        intro g10_1
        refine VA.next zB Cells.nil ?_
        refine VA.all (rs := [4]) (by kernel_rfl) (by simp) ?_
        refine VA.forall1 ?_
        · skip
          refine VA.eff rfl ?_
          refine id (O.store ty43 rfl rfl rfl rfl zU zP ?_)
          refine VA.next zB Cells.nil ?_
          refine VA.all (rs := [5]) (by kernel_rfl) (by simp) ?_
          refine VA.forall1 ?_
          · skip
            refine VA.eff rfl ?_
            refine id (O.store ty43 rfl rfl rfl rfl zU zP ?_)
            refine VA.next zB Cells.nil ?_
            refine VA.done (by kernel_rfl) ?_
            refine VE.then_normal ?_
            exact VE.meetP (g10_1, g11_1) trivial zE zKs
  · intro z _
    obtain ⟨ga, gb⟩ := z
    dsimp only
    refine VC.seq ?_
    refine VC.seq ?_
    refine VC.region ?_
    refine VL.q (Q.fieldAddr fa48_1 rfl) ?_
    refine VL.q (Q.load1 ty4 rfl zM rfl) ?_
    refine VL.nil ?_
    refine VE.seq ?_
    refine VC.condF rfl ?_
    refine VC.skip ?_
    refine VE.seq ?_
    refine VC.seq ?_
    refine VC.seq ?_
    refine VC.region ?_
    refine VL.q (Q.fieldAddr fa48_0 rfl) ?_
    refine VL.q (Q.load1 ty5 rfl zM rfl) ?_
    refine VL.quietE (v' := .bool false) (by decide) (Q.eq rfl rfl) (by rfl) ?_
    refine VL.nil ?_
    refine VE.seq ?_
    refine VC.condF rfl ?_
    refine VC.skip ?_
    refine VE.seq ?_
    refine VC.seq ?_
    refine VC.region ?_
    refine VL.q (Q.indexAddrA ar76 (j := 0) rfl rfl rfl (by omega)) ?_
    refine VL.q (Q.load1 ty5 rfl zM rfl) ?_
    refine VL.q (Q.indexAddrA ar76 (j := 1) rfl rfl rfl (by omega)) ?_
    refine VL.q (Q.load1 ty5 rfl zM rfl) ?_
    refine VL.q (Q.fieldAddr fa48_5 rfl) ?_
    refine VL.q (Q.load1 ty3 rfl zM rfl) ?_
    refine VL.q (Q.loadA ty43 rfl zM zS) ?_
    refine VL.q (Q.build lay50 zF) ?_
    refine VL.eff (O.alloc zo50 (by decide) ?_)
    intro g12
    refine VL.eff (O.store ty50 rfl rfl rfl rfl zU zP ?_)
    refine VL.nil ?_
    refine VE.seq ?_
    refine VC.seq ?_
    refine VC.seq ?_
    refine VC.region ?_
    refine VL.q (Q.fieldAddr fa48_0 rfl) ?_
    refine VL.q (Q.load1 ty5 rfl zM rfl) ?_
    refine VL.quietE (v' := .bool true) (by decide) (Q.ne rfl rfl) (by rfl) ?_
    refine VL.q (Q.move rfl) ?_
    refine VL.yes rfl rfl ?_
    refine VL.q (Q.fieldAddr fa48_0 rfl) ?_
    refine VL.yes rfl rfl ?_
    refine VL.q (Q.load1 ty5 rfl zM rfl) ?_
    refine VL.yes rfl rfl ?_
    refine VL.quietE (v' := .bool true) (by decide) (Q.ne rfl rfl) (by rfl) ?_
    refine VL.quietE (v' := .bool true) (by decide) (Q.pick_true rfl rfl) (by rfl) ?_
    refine VL.q (Q.move rfl) ?_
    refine VL.yes rfl rfl ?_
    refine VL.q (Q.fieldAddr fa48_0 rfl) ?_
    refine VL.yes rfl rfl ?_
    refine VL.q (Q.load1 ty5 rfl zM rfl) ?_
    refine VL.yes rfl rfl ?_
    refine VL.quietE (v' := .bool true) (by decide) (Q.ne rfl rfl) (by rfl) ?_
    refine VL.quietE (v' := .bool true) (by decide) (Q.pick_true rfl rfl) (by rfl) ?_
    refine VL.nil ?_
    refine VE.seq ?_
    refine VC.condT rfl ?_
    refine VC.region ?_
    refine VL.q (Q.loadA ty43 rfl zM zS) ?_
    refine VL.q (Q.fieldAddr fa50_11 rfl) ?_
    refine VL.eff (O.store ty43 rfl rfl rfl rfl zU zP ?_)
    refine VL.nil ?_
    refine VE.seq ?_
    refine VC.seq ?_
    refine VC.region ?_
    refine VL.q (Q.loadA ty50 rfl zM zS) ?_
    refine VL.eff (O.store ty50 rfl rfl rfl rfl zU zP ?_)
    refine VL.q (Q.assign rfl) ?_
    refine VL.nil ?_
    refine VE.seq ?_
    refine VC.ret ?_
    refine VE.ret rfl (.cell ty50 rfl zM rfl (.tmp rfl .nil)) () ?_ ?_ (List.nil_sublist _)
    · trivial
    · first | rfl | (exfalso; simp at *; omega)

theorem xheader_5 (i : Nat) (st air : Int) (D : Nat) (hD : D ≤ 32767) :
    Does Tryd.prog 12 [.agg #[.int .u8 5, .bool true, .int .i64 (i : Int), .int .i64 st, .int .i64 air, .int .i64 (D : Int)], .agg #[.int .u8 2, .int .u8 0, .int .u8 0, .int .u8 0, .int .u8 0, .int .u8 2], .agg #[.int .u8 2, .int .u8 0, .int .u8 0, .int .u8 0, .int .u8 0, .int .u8 1]] [] (Subs) (X := Unit) (fun _ => True) (fun _ => .tuple #[.agg #[.int .u8 1, .int .u8 13, .bool false, .bool false, .bool false, .bool false, .bool false, .bool false, .bool false, .int .i64 (D : Int), .int .u8 2, .int .u8 0, .int .u8 0, .int .u8 0, .int .u8 0, .int .u8 2, .int .u8 0, .int .u8 0, .int .u8 0, .int .u8 0, .int .u8 0, .int .u8 0, .int .u8 0, .int .u8 0, .int .u8 0, .int .u8 0, .int .u8 0, .int .u8 0, .int .u8 0, .int .u8 0, .int .u8 0, .int .u8 0, .int .u8 0, .int .u8 0, .int .i64 0, .int .i64 0, .int .i64 0, .int .u8 0, .bool false, .bool false], .int .i64 0]) (fun _ => []) := by
  refine Does.enter Tryd.func12 rfl (m := 67) rfl (by simp) ?_
  intro W0 hro
  obtain ⟨m, hm0, hlk⟩ := hro
  refine VC.seq ?_
  refine VC.region ?_
  refine VL.eff (O.box rfl rfl (by decide) ?_)
  intro g3
  refine VL.eff (O.box rfl rfl (by decide) ?_)
  intro g4
  refine VL.eff (O.box rfl rfl (by decide) ?_)
  intro g5
  refine VL.eff (O.alloc zo50 (by decide) ?_)
  intro g6
  refine VL.q (Q.assign rfl) ?_
  refine VL.nil ?_
  refine VE.seq ?_
  refine VC.seq ?_
  refine VC.region ?_
  refine VL.q (Q.load0 ty78 rfl hm0 (by simp)) ?_
  refine VL.q (Q.fieldAddr fa48_0 rfl) ?_
  refine VL.q (Q.load1 ty5 rfl zM rfl) ?_
  refine VL.q (Q.lookup rfl rfl (fun W ho => hlk 5 1 13 (by decide) W ho)) ?_
  refine VL.q (Q.move rfl) ?_
  refine VL.q (Q.extract rfl rfl) ?_
  refine VL.q (Q.extract rfl rfl) ?_
  refine VL.eff (O.alloc zo76 (by decide) ?_)
  intro g8
  refine VL.eff (O.store ty76 rfl rfl rfl rfl zU zP ?_)
  refine VL.q (Q.assign rfl) ?_
  refine VL.nil ?_
  refine VE.seq ?_
  refine VC.seq ?_
  refine VC.seq ?_
  refine VC.region ?_
  refine VL.q (Q.move rfl) ?_
  refine VL.quietE (v' := .bool false) (by decide) (Q.not rfl) (by rfl) ?_
  refine VL.q (Q.move rfl) ?_
  refine VL.yes rfl rfl ?_
  refine VL.q (Q.fieldAddr fa48_5 rfl) ?_
  refine VL.yes rfl rfl ?_
  refine VL.q (Q.load1 ty3 rfl zM rfl) ?_
  refine VL.yes rfl rfl ?_
  refine VL.quietE (v' := .bool false) (by decide) (Q.lt rfl rfl) (congrArg Value.bool (decide_eq_false (by omega))) ?_
  refine VL.quietE (v' := .bool false) (by decide) (Q.pick_false rfl rfl) (by rfl) ?_
  refine VL.q (Q.move rfl) ?_
  refine VL.yes rfl rfl ?_
  refine VL.q (Q.fieldAddr fa48_5 rfl) ?_
  refine VL.yes rfl rfl ?_
  refine VL.q (Q.load1 ty3 rfl zM rfl) ?_
  refine VL.yes rfl rfl ?_
  refine VL.quietE (v' := .bool false) (by decide) (Q.gt rfl rfl) (congrArg Value.bool (decide_eq_false (by omega))) ?_
  refine VL.quietE (v' := .bool false) (by decide) (Q.pick_false rfl rfl) (by rfl) ?_
  refine VL.nil ?_
  refine VE.seq ?_
  refine VC.condF rfl ?_
  refine VC.skip ?_
  refine VE.seq ?_
  refine VC.seqJ (X := Nat × Nat) (fun z => [(3, .pointer (some ⟨g3, 0, none⟩)), (4, .pointer (some ⟨g4, 0, none⟩)), (6, .pointer (some ⟨g6, 0, none⟩)), (8, .pointer (some ⟨g8, 0, none⟩)), (7, .int .i64 0), (10, .pointer (some ⟨z.1, 0, none⟩)), (11, .pointer (some ⟨z.2, 0, none⟩))]) (fun z => [.blk g3 [.int .u8 5, .bool true, .int .i64 (i : Int), .int .i64 st, .int .i64 air, .int .i64 (D : Int)] 48, .blk g4 [.int .u8 2, .int .u8 0, .int .u8 0, .int .u8 0, .int .u8 0, .int .u8 2] 43, .blk g6 [.int .u8 0, .int .u8 0, .bool false, .bool false, .bool false, .bool false, .bool false, .bool false, .bool false, .int .i64 0, .int .u8 0, .int .u8 0, .int .u8 0, .int .u8 0, .int .u8 0, .int .u8 0, .int .u8 0, .int .u8 0, .int .u8 0, .int .u8 0, .int .u8 0, .int .u8 0, .int .u8 0, .int .u8 0, .int .u8 0, .int .u8 0, .int .u8 0, .int .u8 0, .int .u8 0, .int .u8 0, .int .u8 0, .int .u8 0, .int .u8 0, .int .u8 0, .int .i64 0, .int .i64 0, .int .i64 0, .int .u8 0, .bool false, .bool false] 50, .blk g8 [.int .u8 1, .int .u8 13] 76, .blk z.1 [.int .u8 2, .int .u8 0, .int .u8 0, .int .u8 0, .int .u8 0, .int .u8 2] 43, .blk z.2 [.int .u8 2, .int .u8 0, .int .u8 0, .int .u8 0, .int .u8 0, .int .u8 1] 43]) (fun z => True) ?_ ?_
  · skip
    refine VA.start (Ls := [.blk g5 [.int .u8 2, .int .u8 0, .int .u8 0, .int .u8 0, .int .u8 0, .int .u8 1] 43, .blk g4 [.int .u8 2, .int .u8 0, .int .u8 0, .int .u8 0, .int .u8 0, .int .u8 2] 43]) (Cs := []) mixed ?_
    refine VA.take 0 rfl (by kernel_rfl) (by kernel_rfl) (by kernel_rfl) (Still.then Still.body) zB Cells.nil (by decide) (Quiet.c (Q.loadA ty43 rfl zM zS)) ?_
    refine VA.take 1 rfl (by kernel_rfl) (by kernel_rfl) (by kernel_rfl) (Still.then Still.body) zB Cells.nil (by decide) (Quiet.c (Q.loadA ty43 rfl zM zS)) ?_
    refine VA.all (rs := [2, 3]) (by kernel_rfl) (by simp) ?_
    refine VA.forall2 ?_ ?_
    · skip
      refine VA.eff rfl ?_
      refine id (O.alloc zo43 (by decide) ?_)
      intro g10
      refine VA.next zB Cells.nil ?_
      refine VA.all (rs := [3]) (by kernel_rfl) (by simp) ?_
      refine VA.forall1 ?_
      · skip
        refine VA.eff rfl ?_
        refine id (O.alloc zo43 (by decide) ?_)
        intro g11
        refine VA.next zB Cells.nil ?_
        refine VA.all (rs := [4]) (by kernel_rfl) (by simp) ?_
        refine VA.forall1 ?_
        · skip
          refine VA.eff rfl ?_
          refine id (O.store ty43 rfl rfl rfl rfl zU zP ?_)
          refine VA.next zB Cells.nil ?_
          refine VA.all (rs := [5]) (by kernel_rfl) (by simp) ?_
          refine VA.forall1 ?_
          · skip
            refine VA.eff rfl ?_
            refine id (O.store ty43 rfl rfl rfl rfl zU zP ?_)
            refine VA.next zB Cells.nil ?_
            refine VA.done (by kernel_rfl) ?_
            refine VE.then_normal ?_
            exact VE.meetP (g10, g11) trivial zE zKs
    · skip
      refine VA.eff rfl ?_
      refine id (O.alloc zo43 (by decide) ?_)
      intro g11_1
      refine VA.next zB Cells.nil ?_
      refine VA.all (rs := [2]) (by kernel_rfl) (by simp) ?_
      refine VA.forall1 ?_
      · skip
        refine VA.eff rfl ?_
        refine id (O.alloc zo43 (by decide) ?_)
        intro g10_1
        refine VA.next zB Cells.nil ?_
        refine VA.all (rs := [4]) (by kernel_rfl) (by simp) ?_
        refine VA.forall1 ?_
        · skip
          refine VA.eff rfl ?_
          refine id (O.store ty43 rfl rfl rfl rfl zU zP ?_)
          refine VA.next zB Cells.nil ?_
          refine VA.all (rs := [5]) (by kernel_rfl) (by simp) ?_
          refine VA.forall1 ?_
          · skip
            refine VA.eff rfl ?_
            refine id (O.store ty43 rfl rfl rfl rfl zU zP ?_)
            refine VA.next zB Cells.nil ?_
            refine VA.done (by kernel_rfl) ?_
            refine VE.then_normal ?_
            exact VE.meetP (g10_1, g11_1) trivial zE zKs
  · intro z _
    obtain ⟨ga, gb⟩ := z
    dsimp only
    refine VC.seq ?_
    refine VC.seq ?_
    refine VC.region ?_
    refine VL.q (Q.fieldAddr fa48_1 rfl) ?_
    refine VL.q (Q.load1 ty4 rfl zM rfl) ?_
    refine VL.nil ?_
    refine VE.seq ?_
    refine VC.condT rfl ?_
    refine VC.region ?_
    refine VL.q (Q.loadA ty43 rfl zM zS) ?_
    refine VL.q (Q.loadA ty43 rfl zM zS) ?_
    refine VL.eff (O.store ty43 rfl rfl rfl rfl zU zP ?_)
    refine VL.eff (O.store ty43 rfl rfl rfl rfl zU zP ?_)
    refine VL.nil ?_
    refine VE.seq ?_
    refine VC.seq ?_
    refine VC.seq ?_
    refine VC.region ?_
    refine VL.q (Q.fieldAddr fa48_0 rfl) ?_
    refine VL.q (Q.load1 ty5 rfl zM rfl) ?_
    refine VL.quietE (v' := .bool false) (by decide) (Q.eq rfl rfl) (by rfl) ?_
    refine VL.nil ?_
    refine VE.seq ?_
    refine VC.condF rfl ?_
    refine VC.skip ?_
    refine VE.seq ?_
    refine VC.seq ?_
    refine VC.region ?_
    refine VL.q (Q.indexAddrA ar76 (j := 0) rfl rfl rfl (by omega)) ?_
    refine VL.q (Q.load1 ty5 rfl zM rfl) ?_
    refine VL.q (Q.indexAddrA ar76 (j := 1) rfl rfl rfl (by omega)) ?_
    refine VL.q (Q.load1 ty5 rfl zM rfl) ?_
    refine VL.q (Q.fieldAddr fa48_5 rfl) ?_
    refine VL.q (Q.load1 ty3 rfl zM rfl) ?_
    refine VL.q (Q.loadA ty43 rfl zM zS) ?_
    refine VL.q (Q.build lay50 zF) ?_
    refine VL.eff (O.alloc zo50 (by decide) ?_)
    intro g12
    refine VL.eff (O.store ty50 rfl rfl rfl rfl zU zP ?_)
    refine VL.nil ?_
    refine VE.seq ?_
    refine VC.seq ?_
    refine VC.seq ?_
    refine VC.region ?_
    refine VL.q (Q.fieldAddr fa48_0 rfl) ?_
    refine VL.q (Q.load1 ty5 rfl zM rfl) ?_
    refine VL.quietE (v' := .bool true) (by decide) (Q.ne rfl rfl) (by rfl) ?_
    refine VL.q (Q.move rfl) ?_
    refine VL.yes rfl rfl ?_
    refine VL.q (Q.fieldAddr fa48_0 rfl) ?_
    refine VL.yes rfl rfl ?_
    refine VL.q (Q.load1 ty5 rfl zM rfl) ?_
    refine VL.yes rfl rfl ?_
    refine VL.quietE (v' := .bool true) (by decide) (Q.ne rfl rfl) (by rfl) ?_
    refine VL.quietE (v' := .bool true) (by decide) (Q.pick_true rfl rfl) (by rfl) ?_
    refine VL.q (Q.move rfl) ?_
    refine VL.yes rfl rfl ?_
    refine VL.q (Q.fieldAddr fa48_0 rfl) ?_
    refine VL.yes rfl rfl ?_
    refine VL.q (Q.load1 ty5 rfl zM rfl) ?_
    refine VL.yes rfl rfl ?_
    refine VL.quietE (v' := .bool false) (by decide) (Q.ne rfl rfl) (by rfl) ?_
    refine VL.quietE (v' := .bool false) (by decide) (Q.pick_true rfl rfl) (by rfl) ?_
    refine VL.nil ?_
    refine VE.seq ?_
    refine VC.condF rfl ?_
    refine VC.skip ?_
    refine VE.seq ?_
    refine VC.seq ?_
    refine VC.region ?_
    refine VL.q (Q.loadA ty50 rfl zM zS) ?_
    refine VL.eff (O.store ty50 rfl rfl rfl rfl zU zP ?_)
    refine VL.q (Q.assign rfl) ?_
    refine VL.nil ?_
    refine VE.seq ?_
    refine VC.ret ?_
    refine VE.ret rfl (.cell ty50 rfl zM rfl (.tmp rfl .nil)) () ?_ ?_ (List.nil_sublist _)
    · trivial
    · first | rfl | (exfalso; simp at *; omega)

theorem xheader_6 (i : Nat) (st air : Int) (D : Nat) (hD : D ≤ 32767) :
    Does Tryd.prog 12 [.agg #[.int .u8 6, .bool false, .int .i64 (i : Int), .int .i64 st, .int .i64 air, .int .i64 (D : Int)], .agg #[.int .u8 2, .int .u8 0, .int .u8 0, .int .u8 0, .int .u8 0, .int .u8 2], .agg #[.int .u8 2, .int .u8 0, .int .u8 0, .int .u8 0, .int .u8 0, .int .u8 1]] [] (Subs) (X := Unit) (fun _ => True) (fun _ => .tuple #[.agg #[.int .u8 1, .int .u8 8, .bool false, .bool false, .bool false, .bool false, .bool false, .bool false, .bool false, .int .i64 (D : Int), .int .u8 2, .int .u8 0, .int .u8 0, .int .u8 0, .int .u8 0, .int .u8 1, .int .u8 2, .int .u8 0, .int .u8 0, .int .u8 0, .int .u8 0, .int .u8 2, .int .u8 0, .int .u8 0, .int .u8 0, .int .u8 0, .int .u8 0, .int .u8 0, .int .u8 0, .int .u8 0, .int .u8 0, .int .u8 0, .int .u8 0, .int .u8 0, .int .i64 0, .int .i64 0, .int .i64 0, .int .u8 0, .bool false, .bool false], .int .i64 0]) (fun _ => []) := by
  refine Does.enter Tryd.func12 rfl (m := 67) rfl (by simp) ?_
  intro W0 hro
  obtain ⟨m, hm0, hlk⟩ := hro
  refine VC.seq ?_
  refine VC.region ?_
  refine VL.eff (O.box rfl rfl (by decide) ?_)
  intro g3
  refine VL.eff (O.box rfl rfl (by decide) ?_)
  intro g4
  refine VL.eff (O.box rfl rfl (by decide) ?_)
  intro g5
  refine VL.eff (O.alloc zo50 (by decide) ?_)
  intro g6
  refine VL.q (Q.assign rfl) ?_
  refine VL.nil ?_
  refine VE.seq ?_
  refine VC.seq ?_
  refine VC.region ?_
  refine VL.q (Q.load0 ty78 rfl hm0 (by simp)) ?_
  refine VL.q (Q.fieldAddr fa48_0 rfl) ?_
  refine VL.q (Q.load1 ty5 rfl zM rfl) ?_
  refine VL.q (Q.lookup rfl rfl (fun W ho => hlk 6 1 8 (by decide) W ho)) ?_
  refine VL.q (Q.move rfl) ?_
  refine VL.q (Q.extract rfl rfl) ?_
  refine VL.q (Q.extract rfl rfl) ?_
  refine VL.eff (O.alloc zo76 (by decide) ?_)
  intro g8
  refine VL.eff (O.store ty76 rfl rfl rfl rfl zU zP ?_)
  refine VL.q (Q.assign rfl) ?_
  refine VL.nil ?_
  refine VE.seq ?_
  refine VC.seq ?_
  refine VC.seq ?_
  refine VC.region ?_
  refine VL.q (Q.move rfl) ?_
  refine VL.quietE (v' := .bool false) (by decide) (Q.not rfl) (by rfl) ?_
  refine VL.q (Q.move rfl) ?_
  refine VL.yes rfl rfl ?_
  refine VL.q (Q.fieldAddr fa48_5 rfl) ?_
  refine VL.yes rfl rfl ?_
  refine VL.q (Q.load1 ty3 rfl zM rfl) ?_
  refine VL.yes rfl rfl ?_
  refine VL.quietE (v' := .bool false) (by decide) (Q.lt rfl rfl) (congrArg Value.bool (decide_eq_false (by omega))) ?_
  refine VL.quietE (v' := .bool false) (by decide) (Q.pick_false rfl rfl) (by rfl) ?_
  refine VL.q (Q.move rfl) ?_
  refine VL.yes rfl rfl ?_
  refine VL.q (Q.fieldAddr fa48_5 rfl) ?_
  refine VL.yes rfl rfl ?_
  refine VL.q (Q.load1 ty3 rfl zM rfl) ?_
  refine VL.yes rfl rfl ?_
  refine VL.quietE (v' := .bool false) (by decide) (Q.gt rfl rfl) (congrArg Value.bool (decide_eq_false (by omega))) ?_
  refine VL.quietE (v' := .bool false) (by decide) (Q.pick_false rfl rfl) (by rfl) ?_
  refine VL.nil ?_
  refine VE.seq ?_
  refine VC.condF rfl ?_
  refine VC.skip ?_
  refine VE.seq ?_
  refine VC.seqJ (X := Nat × Nat) (fun z => [(3, .pointer (some ⟨g3, 0, none⟩)), (4, .pointer (some ⟨g4, 0, none⟩)), (6, .pointer (some ⟨g6, 0, none⟩)), (8, .pointer (some ⟨g8, 0, none⟩)), (7, .int .i64 0), (10, .pointer (some ⟨z.1, 0, none⟩)), (11, .pointer (some ⟨z.2, 0, none⟩))]) (fun z => [.blk g3 [.int .u8 6, .bool false, .int .i64 (i : Int), .int .i64 st, .int .i64 air, .int .i64 (D : Int)] 48, .blk g4 [.int .u8 2, .int .u8 0, .int .u8 0, .int .u8 0, .int .u8 0, .int .u8 2] 43, .blk g6 [.int .u8 0, .int .u8 0, .bool false, .bool false, .bool false, .bool false, .bool false, .bool false, .bool false, .int .i64 0, .int .u8 0, .int .u8 0, .int .u8 0, .int .u8 0, .int .u8 0, .int .u8 0, .int .u8 0, .int .u8 0, .int .u8 0, .int .u8 0, .int .u8 0, .int .u8 0, .int .u8 0, .int .u8 0, .int .u8 0, .int .u8 0, .int .u8 0, .int .u8 0, .int .u8 0, .int .u8 0, .int .u8 0, .int .u8 0, .int .u8 0, .int .u8 0, .int .i64 0, .int .i64 0, .int .i64 0, .int .u8 0, .bool false, .bool false] 50, .blk g8 [.int .u8 1, .int .u8 8] 76, .blk z.1 [.int .u8 2, .int .u8 0, .int .u8 0, .int .u8 0, .int .u8 0, .int .u8 2] 43, .blk z.2 [.int .u8 2, .int .u8 0, .int .u8 0, .int .u8 0, .int .u8 0, .int .u8 1] 43]) (fun z => True) ?_ ?_
  · skip
    refine VA.start (Ls := [.blk g5 [.int .u8 2, .int .u8 0, .int .u8 0, .int .u8 0, .int .u8 0, .int .u8 1] 43, .blk g4 [.int .u8 2, .int .u8 0, .int .u8 0, .int .u8 0, .int .u8 0, .int .u8 2] 43]) (Cs := []) mixed ?_
    refine VA.take 0 rfl (by kernel_rfl) (by kernel_rfl) (by kernel_rfl) (Still.then Still.body) zB Cells.nil (by decide) (Quiet.c (Q.loadA ty43 rfl zM zS)) ?_
    refine VA.take 1 rfl (by kernel_rfl) (by kernel_rfl) (by kernel_rfl) (Still.then Still.body) zB Cells.nil (by decide) (Quiet.c (Q.loadA ty43 rfl zM zS)) ?_
    refine VA.all (rs := [2, 3]) (by kernel_rfl) (by simp) ?_
    refine VA.forall2 ?_ ?_
    · skip
      refine VA.eff rfl ?_
      refine id (O.alloc zo43 (by decide) ?_)
      intro g10
      refine VA.next zB Cells.nil ?_
      refine VA.all (rs := [3]) (by kernel_rfl) (by simp) ?_
      refine VA.forall1 ?_
      · skip
        refine VA.eff rfl ?_
        refine id (O.alloc zo43 (by decide) ?_)
        intro g11
        refine VA.next zB Cells.nil ?_
        refine VA.all (rs := [4]) (by kernel_rfl) (by simp) ?_
        refine VA.forall1 ?_
        · skip
          refine VA.eff rfl ?_
          refine id (O.store ty43 rfl rfl rfl rfl zU zP ?_)
          refine VA.next zB Cells.nil ?_
          refine VA.all (rs := [5]) (by kernel_rfl) (by simp) ?_
          refine VA.forall1 ?_
          · skip
            refine VA.eff rfl ?_
            refine id (O.store ty43 rfl rfl rfl rfl zU zP ?_)
            refine VA.next zB Cells.nil ?_
            refine VA.done (by kernel_rfl) ?_
            refine VE.then_normal ?_
            exact VE.meetP (g10, g11) trivial zE zKs
    · skip
      refine VA.eff rfl ?_
      refine id (O.alloc zo43 (by decide) ?_)
      intro g11_1
      refine VA.next zB Cells.nil ?_
      refine VA.all (rs := [2]) (by kernel_rfl) (by simp) ?_
      refine VA.forall1 ?_
      · skip
        refine VA.eff rfl ?_
        refine id (O.alloc zo43 (by decide) ?_)
        intro g10_1
        refine VA.next zB Cells.nil ?_
        refine VA.all (rs := [4]) (by kernel_rfl) (by simp) ?_
        refine VA.forall1 ?_
        · skip
          refine VA.eff rfl ?_
          refine id (O.store ty43 rfl rfl rfl rfl zU zP ?_)
          refine VA.next zB Cells.nil ?_
          refine VA.all (rs := [5]) (by kernel_rfl) (by simp) ?_
          refine VA.forall1 ?_
          · skip
            refine VA.eff rfl ?_
            refine id (O.store ty43 rfl rfl rfl rfl zU zP ?_)
            refine VA.next zB Cells.nil ?_
            refine VA.done (by kernel_rfl) ?_
            refine VE.then_normal ?_
            exact VE.meetP (g10_1, g11_1) trivial zE zKs
  · intro z _
    obtain ⟨ga, gb⟩ := z
    dsimp only
    refine VC.seq ?_
    refine VC.seq ?_
    refine VC.region ?_
    refine VL.q (Q.fieldAddr fa48_1 rfl) ?_
    refine VL.q (Q.load1 ty4 rfl zM rfl) ?_
    refine VL.nil ?_
    refine VE.seq ?_
    refine VC.condF rfl ?_
    refine VC.skip ?_
    refine VE.seq ?_
    refine VC.seq ?_
    refine VC.seq ?_
    refine VC.region ?_
    refine VL.q (Q.fieldAddr fa48_0 rfl) ?_
    refine VL.q (Q.load1 ty5 rfl zM rfl) ?_
    refine VL.quietE (v' := .bool false) (by decide) (Q.eq rfl rfl) (by rfl) ?_
    refine VL.nil ?_
    refine VE.seq ?_
    refine VC.condF rfl ?_
    refine VC.skip ?_
    refine VE.seq ?_
    refine VC.seq ?_
    refine VC.region ?_
    refine VL.q (Q.indexAddrA ar76 (j := 0) rfl rfl rfl (by omega)) ?_
    refine VL.q (Q.load1 ty5 rfl zM rfl) ?_
    refine VL.q (Q.indexAddrA ar76 (j := 1) rfl rfl rfl (by omega)) ?_
    refine VL.q (Q.load1 ty5 rfl zM rfl) ?_
    refine VL.q (Q.fieldAddr fa48_5 rfl) ?_
    refine VL.q (Q.load1 ty3 rfl zM rfl) ?_
    refine VL.q (Q.loadA ty43 rfl zM zS) ?_
    refine VL.q (Q.build lay50 zF) ?_
    refine VL.eff (O.alloc zo50 (by decide) ?_)
    intro g12
    refine VL.eff (O.store ty50 rfl rfl rfl rfl zU zP ?_)
    refine VL.nil ?_
    refine VE.seq ?_
    refine VC.seq ?_
    refine VC.seq ?_
    refine VC.region ?_
    refine VL.q (Q.fieldAddr fa48_0 rfl) ?_
    refine VL.q (Q.load1 ty5 rfl zM rfl) ?_
    refine VL.quietE (v' := .bool true) (by decide) (Q.ne rfl rfl) (by rfl) ?_
    refine VL.q (Q.move rfl) ?_
    refine VL.yes rfl rfl ?_
    refine VL.q (Q.fieldAddr fa48_0 rfl) ?_
    refine VL.yes rfl rfl ?_
    refine VL.q (Q.load1 ty5 rfl zM rfl) ?_
    refine VL.yes rfl rfl ?_
    refine VL.quietE (v' := .bool true) (by decide) (Q.ne rfl rfl) (by rfl) ?_
    refine VL.quietE (v' := .bool true) (by decide) (Q.pick_true rfl rfl) (by rfl) ?_
    refine VL.q (Q.move rfl) ?_
    refine VL.yes rfl rfl ?_
    refine VL.q (Q.fieldAddr fa48_0 rfl) ?_
    refine VL.yes rfl rfl ?_
    refine VL.q (Q.load1 ty5 rfl zM rfl) ?_
    refine VL.yes rfl rfl ?_
    refine VL.quietE (v' := .bool true) (by decide) (Q.ne rfl rfl) (by rfl) ?_
    refine VL.quietE (v' := .bool true) (by decide) (Q.pick_true rfl rfl) (by rfl) ?_
    refine VL.nil ?_
    refine VE.seq ?_
    refine VC.condT rfl ?_
    refine VC.region ?_
    refine VL.q (Q.loadA ty43 rfl zM zS) ?_
    refine VL.q (Q.fieldAddr fa50_11 rfl) ?_
    refine VL.eff (O.store ty43 rfl rfl rfl rfl zU zP ?_)
    refine VL.nil ?_
    refine VE.seq ?_
    refine VC.seq ?_
    refine VC.region ?_
    refine VL.q (Q.loadA ty50 rfl zM zS) ?_
    refine VL.eff (O.store ty50 rfl rfl rfl rfl zU zP ?_)
    refine VL.q (Q.assign rfl) ?_
    refine VL.nil ?_
    refine VE.seq ?_
    refine VC.ret ?_
    refine VE.ret rfl (.cell ty50 rfl zM rfl (.tmp rfl .nil)) () ?_ ?_ (List.nil_sublist _)
    · trivial
    · first | rfl | (exfalso; simp at *; omega)

theorem xheader_7 (i : Nat) (st air : Int) (D : Nat) (hD : D ≤ 32767) :
    Does Tryd.prog 12 [.agg #[.int .u8 7, .bool true, .int .i64 (i : Int), .int .i64 st, .int .i64 air, .int .i64 (D : Int)], .agg #[.int .u8 2, .int .u8 0, .int .u8 0, .int .u8 0, .int .u8 0, .int .u8 2], .agg #[.int .u8 2, .int .u8 0, .int .u8 0, .int .u8 0, .int .u8 0, .int .u8 1]] [] (Subs) (X := Unit) (fun _ => True) (fun _ => .tuple #[.agg #[.int .u8 1, .int .u8 9, .bool false, .bool false, .bool false, .bool false, .bool false, .bool false, .bool false, .int .i64 (D : Int), .int .u8 2, .int .u8 0, .int .u8 0, .int .u8 0, .int .u8 0, .int .u8 2, .int .u8 2, .int .u8 0, .int .u8 0, .int .u8 0, .int .u8 0, .int .u8 1, .int .u8 0, .int .u8 0, .int .u8 0, .int .u8 0, .int .u8 0, .int .u8 0, .int .u8 0, .int .u8 0, .int .u8 0, .int .u8 0, .int .u8 0, .int .u8 0, .int .i64 0, .int .i64 0, .int .i64 0, .int .u8 0, .bool false, .bool false], .int .i64 0]) (fun _ => []) := by
  refine Does.enter Tryd.func12 rfl (m := 67) rfl (by simp) ?_
  intro W0 hro
  obtain ⟨m, hm0, hlk⟩ := hro
  refine VC.seq ?_
  refine VC.region ?_
  refine VL.eff (O.box rfl rfl (by decide) ?_)
  intro g3
  refine VL.eff (O.box rfl rfl (by decide) ?_)
  intro g4
  refine VL.eff (O.box rfl rfl (by decide) ?_)
  intro g5
  refine VL.eff (O.alloc zo50 (by decide) ?_)
  intro g6
  refine VL.q (Q.assign rfl) ?_
  refine VL.nil ?_
  refine VE.seq ?_
  refine VC.seq ?_
  refine VC.region ?_
  refine VL.q (Q.load0 ty78 rfl hm0 (by simp)) ?_
  refine VL.q (Q.fieldAddr fa48_0 rfl) ?_
  refine VL.q (Q.load1 ty5 rfl zM rfl) ?_
  refine VL.q (Q.lookup rfl rfl (fun W ho => hlk 7 1 9 (by decide) W ho)) ?_
  refine VL.q (Q.move rfl) ?_
  refine VL.q (Q.extract rfl rfl) ?_
  refine VL.q (Q.extract rfl rfl) ?_
  refine VL.eff (O.alloc zo76 (by decide) ?_)
  intro g8
  refine VL.eff (O.store ty76 rfl rfl rfl rfl zU zP ?_)
  refine VL.q (Q.assign rfl) ?_
  refine VL.nil ?_
  refine VE.seq ?_
  refine VC.seq ?_
  refine VC.seq ?_
  refine VC.region ?_
  refine VL.q (Q.move rfl) ?_
  refine VL.quietE (v' := .bool false) (by decide) (Q.not rfl) (by rfl) ?_
  refine VL.q (Q.move rfl) ?_
  refine VL.yes rfl rfl ?_
  refine VL.q (Q.fieldAddr fa48_5 rfl) ?_
  refine VL.yes rfl rfl ?_
  refine VL.q (Q.load1 ty3 rfl zM rfl) ?_
  refine VL.yes rfl rfl ?_
  refine VL.quietE (v' := .bool false) (by decide) (Q.lt rfl rfl) (congrArg Value.bool (decide_eq_false (by omega))) ?_
  refine VL.quietE (v' := .bool false) (by decide) (Q.pick_false rfl rfl) (by rfl) ?_
  refine VL.q (Q.move rfl) ?_
  refine VL.yes rfl rfl ?_
  refine VL.q (Q.fieldAddr fa48_5 rfl) ?_
  refine VL.yes rfl rfl ?_
  refine VL.q (Q.load1 ty3 rfl zM rfl) ?_
  refine VL.yes rfl rfl ?_
  refine VL.quietE (v' := .bool false) (by decide) (Q.gt rfl rfl) (congrArg Value.bool (decide_eq_false (by omega))) ?_
  refine VL.quietE (v' := .bool false) (by decide) (Q.pick_false rfl rfl) (by rfl) ?_
  refine VL.nil ?_
  refine VE.seq ?_
  refine VC.condF rfl ?_
  refine VC.skip ?_
  refine VE.seq ?_
  refine VC.seqJ (X := Nat × Nat) (fun z => [(3, .pointer (some ⟨g3, 0, none⟩)), (4, .pointer (some ⟨g4, 0, none⟩)), (6, .pointer (some ⟨g6, 0, none⟩)), (8, .pointer (some ⟨g8, 0, none⟩)), (7, .int .i64 0), (10, .pointer (some ⟨z.1, 0, none⟩)), (11, .pointer (some ⟨z.2, 0, none⟩))]) (fun z => [.blk g3 [.int .u8 7, .bool true, .int .i64 (i : Int), .int .i64 st, .int .i64 air, .int .i64 (D : Int)] 48, .blk g4 [.int .u8 2, .int .u8 0, .int .u8 0, .int .u8 0, .int .u8 0, .int .u8 2] 43, .blk g6 [.int .u8 0, .int .u8 0, .bool false, .bool false, .bool false, .bool false, .bool false, .bool false, .bool false, .int .i64 0, .int .u8 0, .int .u8 0, .int .u8 0, .int .u8 0, .int .u8 0, .int .u8 0, .int .u8 0, .int .u8 0, .int .u8 0, .int .u8 0, .int .u8 0, .int .u8 0, .int .u8 0, .int .u8 0, .int .u8 0, .int .u8 0, .int .u8 0, .int .u8 0, .int .u8 0, .int .u8 0, .int .u8 0, .int .u8 0, .int .u8 0, .int .u8 0, .int .i64 0, .int .i64 0, .int .i64 0, .int .u8 0, .bool false, .bool false] 50, .blk g8 [.int .u8 1, .int .u8 9] 76, .blk z.1 [.int .u8 2, .int .u8 0, .int .u8 0, .int .u8 0, .int .u8 0, .int .u8 2] 43, .blk z.2 [.int .u8 2, .int .u8 0, .int .u8 0, .int .u8 0, .int .u8 0, .int .u8 1] 43]) (fun z => True) ?_ ?_
  · skip
    refine VA.start (Ls := [.blk g5 [.int .u8 2, .int .u8 0, .int .u8 0, .int .u8 0, .int .u8 0, .int .u8 1] 43, .blk g4 [.int .u8 2, .int .u8 0, .int .u8 0, .int .u8 0, .int .u8 0, .int .u8 2] 43]) (Cs := []) mixed ?_
    refine VA.take 0 rfl (by kernel_rfl) (by kernel_rfl) (by kernel_rfl) (Still.then Still.body) zB Cells.nil (by decide) (Quiet.c (Q.loadA ty43 rfl zM zS)) ?_
    refine VA.take 1 rfl (by kernel_rfl) (by kernel_rfl) (by kernel_rfl) (Still.then Still.body) zB Cells.nil (by decide) (Quiet.c (Q.loadA ty43 rfl zM zS)) ?_
    refine VA.all (rs := [2, 3]) (by kernel_rfl) (by simp) ?_
    refine VA.forall2 ?_ ?_
    · skip
      refine VA.eff rfl ?_
      refine id (O.alloc zo43 (by decide) ?_)
      intro g10
      refine VA.next zB Cells.nil ?_
      refine VA.all (rs := [3]) (by kernel_rfl) (by simp) ?_
      refine VA.forall1 ?_
      · skip
        refine VA.eff rfl ?_
        refine id (O.alloc zo43 (by decide) ?_)
        intro g11
        refine VA.next zB Cells.nil ?_
        refine VA.all (rs := [4]) (by kernel_rfl) (by simp) ?_
        refine VA.forall1 ?_
        · skip
          refine VA.eff rfl ?_
          refine id (O.store ty43 rfl rfl rfl rfl zU zP ?_)
          refine VA.next zB Cells.nil ?_
          refine VA.all (rs := [5]) (by kernel_rfl) (by simp) ?_
          refine VA.forall1 ?_
          · skip
            refine VA.eff rfl ?_
            refine id (O.store ty43 rfl rfl rfl rfl zU zP ?_)
            refine VA.next zB Cells.nil ?_
            refine VA.done (by kernel_rfl) ?_
            refine VE.then_normal ?_
            exact VE.meetP (g10, g11) trivial zE zKs
    · skip
      refine VA.eff rfl ?_
      refine id (O.alloc zo43 (by decide) ?_)
      intro g11_1
      refine VA.next zB Cells.nil ?_
      refine VA.all (rs := [2]) (by kernel_rfl) (by simp) ?_
      refine VA.forall1 ?_
      · skip
        refine VA.eff rfl ?_
        refine id (O.alloc zo43 (by decide) ?_)
        intro g10_1
        refine VA.next zB Cells.nil ?_
        refine VA.all (rs := [4]) (by kernel_rfl) (by simp) ?_
        refine VA.forall1 ?_
        · skip
          refine VA.eff rfl ?_
          refine id (O.store ty43 rfl rfl rfl rfl zU zP ?_)
          refine VA.next zB Cells.nil ?_
          refine VA.all (rs := [5]) (by kernel_rfl) (by simp) ?_
          refine VA.forall1 ?_
          · skip
            refine VA.eff rfl ?_
            refine id (O.store ty43 rfl rfl rfl rfl zU zP ?_)
            refine VA.next zB Cells.nil ?_
            refine VA.done (by kernel_rfl) ?_
            refine VE.then_normal ?_
            exact VE.meetP (g10_1, g11_1) trivial zE zKs
  · intro z _
    obtain ⟨ga, gb⟩ := z
    dsimp only
    refine VC.seq ?_
    refine VC.seq ?_
    refine VC.region ?_
    refine VL.q (Q.fieldAddr fa48_1 rfl) ?_
    refine VL.q (Q.load1 ty4 rfl zM rfl) ?_
    refine VL.nil ?_
    refine VE.seq ?_
    refine VC.condT rfl ?_
    refine VC.region ?_
    refine VL.q (Q.loadA ty43 rfl zM zS) ?_
    refine VL.q (Q.loadA ty43 rfl zM zS) ?_
    refine VL.eff (O.store ty43 rfl rfl rfl rfl zU zP ?_)
    refine VL.eff (O.store ty43 rfl rfl rfl rfl zU zP ?_)
    refine VL.nil ?_
    refine VE.seq ?_
    refine VC.seq ?_
    refine VC.seq ?_
    refine VC.region ?_
    refine VL.q (Q.fieldAddr fa48_0 rfl) ?_
    refine VL.q (Q.load1 ty5 rfl zM rfl) ?_
    refine VL.quietE (v' := .bool false) (by decide) (Q.eq rfl rfl) (by rfl) ?_
    refine VL.nil ?_
    refine VE.seq ?_
    refine VC.condF rfl ?_
    refine VC.skip ?_
    refine VE.seq ?_
    refine VC.seq ?_
    refine VC.region ?_
    refine VL.q (Q.indexAddrA ar76 (j := 0) rfl rfl rfl (by omega)) ?_
    refine VL.q (Q.load1 ty5 rfl zM rfl) ?_
    refine VL.q (Q.indexAddrA ar76 (j := 1) rfl rfl rfl (by omega)) ?_
    refine VL.q (Q.load1 ty5 rfl zM rfl) ?_
    refine VL.q (Q.fieldAddr fa48_5 rfl) ?_
    refine VL.q (Q.load1 ty3 rfl zM rfl) ?_
    refine VL.q (Q.loadA ty43 rfl zM zS) ?_
    refine VL.q (Q.build lay50 zF) ?_
    refine VL.eff (O.alloc zo50 (by decide) ?_)
    intro g12
    refine VL.eff (O.store ty50 rfl rfl rfl rfl zU zP ?_)
    refine VL.nil ?_
    refine VE.seq ?_
    refine VC.seq ?_
    refine VC.seq ?_
    refine VC.region ?_
    refine VL.q (Q.fieldAddr fa48_0 rfl) ?_
    refine VL.q (Q.load1 ty5 rfl zM rfl) ?_
    refine VL.quietE (v' := .bool true) (by decide) (Q.ne rfl rfl) (by rfl) ?_
    refine VL.q (Q.move rfl) ?_
    refine VL.yes rfl rfl ?_
    refine VL.q (Q.fieldAddr fa48_0 rfl) ?_
    refine VL.yes rfl rfl ?_
    refine VL.q (Q.load1 ty5 rfl zM rfl) ?_
    refine VL.yes rfl rfl ?_
    refine VL.quietE (v' := .bool true) (by decide) (Q.ne rfl rfl) (by rfl) ?_
    refine VL.quietE (v' := .bool true) (by decide) (Q.pick_true rfl rfl) (by rfl) ?_
    refine VL.q (Q.move rfl) ?_
    refine VL.yes rfl rfl ?_
    refine VL.q (Q.fieldAddr fa48_0 rfl) ?_
    refine VL.yes rfl rfl ?_
    refine VL.q (Q.load1 ty5 rfl zM rfl) ?_
    refine VL.yes rfl rfl ?_
    refine VL.quietE (v' := .bool true) (by decide) (Q.ne rfl rfl) (by rfl) ?_
    refine VL.quietE (v' := .bool true) (by decide) (Q.pick_true rfl rfl) (by rfl) ?_
    refine VL.nil ?_
    refine VE.seq ?_
    refine VC.condT rfl ?_
    refine VC.region ?_
    refine VL.q (Q.loadA ty43 rfl zM zS) ?_
    refine VL.q (Q.fieldAddr fa50_11 rfl) ?_
    refine VL.eff (O.store ty43 rfl rfl rfl rfl zU zP ?_)
    refine VL.nil ?_
    refine VE.seq ?_
    refine VC.seq ?_
    refine VC.region ?_
    refine VL.q (Q.loadA ty50 rfl zM zS) ?_
    refine VL.eff (O.store ty50 rfl rfl rfl rfl zU zP ?_)
    refine VL.q (Q.assign rfl) ?_
    refine VL.nil ?_
    refine VE.seq ?_
    refine VC.ret ?_
    refine VE.ret rfl (.cell ty50 rfl zM rfl (.tmp rfl .nil)) () ?_ ?_ (List.nil_sublist _)
    · trivial
    · first | rfl | (exfalso; simp at *; omega)

end Go.Proofs.YtencghlmckbmlaaDoor
