/- The walk of vaneSilent and of TopSilence. Conditions: those that each bears. -/
import Derived.Test.YtencghlmckbmlaaDoorRows
import Derived.Test.YtencghlmckbmlaaDoorSil2
namespace Go.Proofs.YtencghlmckbmlaaDoor
open Go Go.RowKit Go.Sx
set_option maxRecDepth 100000

theorem fa27_0 : tyField Tryd.prog 27 0 = some 0 := by kernel_rfl
theorem fa27_1 : tyField Tryd.prog 27 1 = some 1 := by kernel_rfl
theorem fa27_2 : tyField Tryd.prog 27 2 = some 2 := by kernel_rfl
theorem fa27_3 : tyField Tryd.prog 27 3 = some 3 := by kernel_rfl
theorem fa27_4 : tyField Tryd.prog 27 4 = some 4 := by kernel_rfl
theorem fa27_5 : tyField Tryd.prog 27 5 = some 5 := by kernel_rfl
theorem lay27 : laysOf Tryd.prog 27 = some ([.int .u8 0, .int .u8 0, .int .u8 0, .int .u16 0, .slice none 0 0, .int .u32 0, .slice none 0 0], [(0, 1), (1, 1), (2, 1), (3, 1), (4, 1), (5, 1), (6, 1)]) := by kernel_rfl
theorem lay37 : laysOf Tryd.prog 37 = some ([.int .u8 0, .int .u8 0, .int .i64 0, .slice none 0 0, .int .i64 0, .int .i64 0, .int .i64 0, .int .i64 0, .int .i64 0], [(0, 1), (1, 1), (2, 1), (3, 1), (4, 1), (5, 1), (6, 1), (7, 1), (8, 1)]) := by kernel_rfl
theorem ok10 : okFunc Tryd.prog 10 = true := by kernel_rfl
theorem ok4 : okFunc Tryd.prog 4 = true := by kernel_rfl
theorem ok6 : okFunc Tryd.prog 6 = true := by kernel_rfl
theorem ok7 : okFunc Tryd.prog 7 = true := by kernel_rfl
theorem ok8 : okFunc Tryd.prog 8 = true := by kernel_rfl
theorem ok9 : okFunc Tryd.prog 9 = true := by kernel_rfl
theorem sl23 : tySlice Tryd.prog 23 = some (22, 1, 2) := by kernel_rfl
theorem ti22 : tyInt Tryd.prog 22 = some .u16 := by kernel_rfl
theorem ty22 : tySz Tryd.prog 22 = some (false, 1) := by kernel_rfl
theorem ty23 : tySz Tryd.prog 23 = some (false, 1) := by kernel_rfl
theorem ty27 : tySz Tryd.prog 27 = some (true, 7) := by kernel_rfl
theorem ze22 : (Tryd.prog.info? 22).bind (·.zero) = some (.int .u16 0) := by kernel_rfl
theorem zo37 : tyZero Tryd.prog 37 = some [.int .u8 0, .int .u8 0, .int .i64 0, .slice none 0 0, .int .i64 0, .int .i64 0, .int .i64 0, .int .i64 0, .int .i64 0] := by kernel_rfl

theorem vane_c (pr po ra lm st : Nat) (bl : List Nat) (hl : List Bool) (p1 p2 : Option Addr) (n1 n2 c1 c2 : Nat) (hb1 : bl.length = n1) (hb2 : hl.length = n2) (hra : ra ≤ 255) (hpr : pr ≤ 255) (hpo : po ≤ 255) (hlm : lm ≤ 65535) (hst : st ≤ 4294967295) (hbl : ∀ b ∈ bl, b ≤ 65535) :
    Does Tryd.prog 4 [.agg #[.int .u8 (pr : Int), .int .u8 (po : Int), .int .u8 (ra : Int), .int .u16 (lm : Int), .slice p1 n1 c1, .int .u32 (st : Int), .slice p2 n2 c2]] [] (fun W => Subs W ∧ Rd W (some ⟨1, 0, none⟩) [.int .i64 7, .int .i64 3, .int .i64 2, .int .i64 2] ∧ Rd W p1 (us bl) ∧ Rd W p2 (bls hl)) (X := Int) (fun x => ∃ pn, 1 ≤ pn ∧ pn ≤ (dlP ((ra : Int) % 12) bl).length ∧ x = if decide (32767 < (exP pr po ((ra : Int) % 12)).d0 (dlP ((ra : Int) % 12) bl) pn) = true then 0 else (((exP pr po ((ra : Int) % 12)).raw (dlP ((ra : Int) % 12) bl) pn).1.length : Int)) (fun x => .tuple #[.int .i64 x, .bool true]) (fun _ => []) := by
  subst hb1
  subst hb2
  obtain ⟨ri, hri⟩ : ∃ z : Int, (ra : Int) % 12 = z := ⟨_, rfl⟩
  have hr0 : 0 ≤ ri := by omega
  have hr1 : ri < 12 := by omega
  refine Does.enter Tryd.func4 rfl (m := 347) rfl (by simp) ?_
  intro W0 hro
  obtain ⟨hsub, hsl, hrb, hrh⟩ := hro
  refine VC.seq ?_
  refine VC.region ?_
  refine VL.eff (O.box rfl rfl (by decide) ?_)
  intro g1
  refine VL.q (Q.assign rfl) ?_
  refine VL.q (Q.assign rfl) ?_
  refine VL.nil ?_
  refine VE.seq ?_
  refine VC.seq ?_
  refine VA.start (Ls := [.blk g1 [.int .u8 (pr : Int), .int .u8 (po : Int), .int .u8 (ra : Int), .int .u16 (lm : Int), .slice p1 bl.length c1, .int .u32 (st : Int), .slice p2 hl.length c2] 27]) (Cs := []) mixed ?_
  refine VA.take 0 rfl (by kernel_rfl) (by kernel_rfl) (by kernel_rfl) (Still.then Still.body) (List.singleton_sublist.2 zM) Cells.nil (by decide) (Quiet.c (Q.fieldAddr fa27_2 rfl)) ?_
  refine VA.take 1 rfl (by kernel_rfl) (by kernel_rfl) (by kernel_rfl) (Still.then Still.body) (List.singleton_sublist.2 zM) Cells.nil (by decide) (Quiet.c (Q.load1 ty5 rfl zM rfl)) ?_
  refine VA.take 2 rfl (by kernel_rfl) (by kernel_rfl) (by kernel_rfl) (Still.then Still.body) (List.singleton_sublist.2 zM) Cells.nil (by decide) (Quiet.c ((by first | exact Q.convF ti5 ti3 rfl (by simp only [klo]; omega) (by simp only [khi]; omega) | exact Q.convM (M := 0) ti5 ti3 rfl rfl rfl | exact Q.conv ti5 ti3 rfl))) ?_
  refine VA.all (rs := [3]) (by kernel_rfl) (by simp) ?_
  refine VA.forall1 ?_
  · skip
    refine VA.eff rfl ?_
    refine id (O.call0 ok5 rfl rfl (by decide) (count_c) (fun _ _ _ => trivial) ?_)
    intro x44 y44
    refine VA.next (List.singleton_sublist.2 zM) Cells.nil ?_
    refine VA.take 4 rfl (by kernel_rfl) (by kernel_rfl) (by kernel_rfl) (Still.then Still.body) (List.singleton_sublist.2 zM) Cells.nil (by decide) (Quiet.c (Q.rem rfl rfl (by omega) (by omega))) ?_
    refine VA.take 5 rfl (by kernel_rfl) (by kernel_rfl) (by kernel_rfl) (Still.then Still.body) (List.singleton_sublist.2 zM) Cells.nil (by decide) (Quiet.c (Q.assign rfl)) ?_
    rw [hri]
    refine VA.done (by kernel_rfl) ?_
    refine VE.seq ?_
    refine VC.seq ?_
    refine VC.region ?_
    refine VL.q (Q.move rfl) ?_
    refine VL.eff (O.call0 ok6 rfl rfl (by decide) (rtsAir_c ri hr0 hr1) (fun _ _ _ => trivial) ?_)
    intro x48 y48
    refine VL.q (Q.move rfl) ?_
    refine VL.q (Q.extract rfl rfl) ?_
    refine VL.q (Q.extract rfl rfl) ?_
    refine VL.q (Q.assign rfl) ?_
    refine VL.q (Q.assign rfl) ?_
    refine VL.nil ?_
    refine VE.seq ?_
    refine VC.seq ?_
    refine VC.region ?_
    refine VL.q (Q.move rfl) ?_
    refine VL.eff (O.call0 ok7 rfl rfl (by decide) (ackAir_c ri hr0 hr1) (fun _ _ _ => trivial) ?_)
    intro x53 y53
    refine VL.q (Q.move rfl) ?_
    refine VL.q (Q.extract rfl rfl) ?_
    refine VL.q (Q.extract rfl rfl) ?_
    refine VL.q (Q.assign rfl) ?_
    refine VL.q (Q.assign rfl) ?_
    refine VL.nil ?_
    refine VE.seq ?_
    refine VC.seq ?_
    refine VC.region ?_
    refine VL.q (Q.move rfl) ?_
    refine VL.eff (O.call0 ok8 rfl rfl (by decide) (backAir_c ri hr0 hr1) (fun _ _ _ => trivial) ?_)
    intro x58 y58
    refine VL.q (Q.move rfl) ?_
    refine VL.q (Q.extract rfl rfl) ?_
    refine VL.q (Q.extract rfl rfl) ?_
    refine VL.q (Q.assign rfl) ?_
    refine VL.q (Q.assign rfl) ?_
    refine VL.nil ?_
    refine VE.seq ?_
    refine VC.seq ?_
    refine VC.seq ?_
    refine VC.region ?_
    refine VL.q (Q.move rfl) ?_
    refine VL.quietE (v' := .bool false) (by decide) (Q.ne rfl rfl) (by rfl) ?_
    refine VL.q (Q.move rfl) ?_
    refine VL.yes rfl rfl ?_
    refine VL.q (Q.move rfl) ?_
    refine VL.yes rfl rfl ?_
    refine VL.quietE (v' := .bool false) (by decide) (Q.ne rfl rfl) (by rfl) ?_
    refine VL.quietE (v' := .bool false) (by decide) (Q.pick_false rfl rfl) (by rfl) ?_
    refine VL.q (Q.move rfl) ?_
    refine VL.yes rfl rfl ?_
    refine VL.q (Q.move rfl) ?_
    refine VL.yes rfl rfl ?_
    refine VL.quietE (v' := .bool false) (by decide) (Q.ne rfl rfl) (by rfl) ?_
    refine VL.quietE (v' := .bool false) (by decide) (Q.pick_false rfl rfl) (by rfl) ?_
    refine VL.nil ?_
    refine VE.seq ?_
    refine VC.condF rfl ?_
    refine VC.skip ?_
    refine VE.seq ?_
    refine VC.seq ?_
    refine VC.region ?_
    refine VL.q (Q.fieldAddr fa27_0 rfl) ?_
    refine VL.q (Q.load1 ty5 rfl zM rfl) ?_
    refine VL.quietE (v' := .int .u8 ((pr % 3 : Nat) : Int)) (by decide) (Q.rem rfl rfl (by omega) (by omega)) (congrArg (Value.int .u8) (by omega)) ?_
    refine VL.q (Q.fieldAddr fa27_1 rfl) ?_
    refine VL.q (Q.load1 ty5 rfl zM rfl) ?_
    refine VL.quietE (v' := .int .u8 ((po % 3 : Nat) : Int)) (by decide) (Q.rem rfl rfl (by omega) (by omega)) (congrArg (Value.int .u8) (by omega)) ?_
    refine VL.q (Q.fieldAddr fa27_3 rfl) ?_
    refine VL.q (Q.load1 ty22 rfl zM rfl) ?_
    refine VL.q ((by first | exact Q.convF ti22 ti3 rfl (by simp only [klo]; omega) (by simp only [khi]; omega) | exact Q.convM (M := 0) ti22 ti3 rfl rfl rfl | exact Q.conv ti22 ti3 rfl)) ?_
    refine VL.q (Q.rem rfl rfl (by omega) (by omega)) ?_
    refine VL.q (Q.move rfl) ?_
    refine VL.q (Q.move rfl) ?_
    refine VL.q (Q.move rfl) ?_
    refine VL.q (Q.move rfl) ?_
    refine VL.q (Q.move rfl) ?_
    refine VL.q (Q.build lay37 zF) ?_
    refine VL.eff (O.alloc zo37 (by decide) ?_)
    intro g11
    refine VL.eff (O.store ty37 rfl rfl rfl rfl zU zP ?_)
    refine VL.nil ?_
    refine VE.seq ?_
    refine VC.seqJ (X := Option Addr × Nat) (fun z => [(1, .pointer (some ⟨g1, 0, none⟩)), (4, .int .i64 ri), (7, .int .i64 (airOf (respOf ri) 14)), (11, .pointer (some ⟨g11, 0, none⟩))]) (fun z => [.blk g11 [.int .u8 ((pr % 3 : Nat) : Int), .int .u8 ((po % 3 : Nat) : Int), .int .i64 ((lm : Int) % 32768), .slice z.1 ((bl.take 16).length) z.2, .int .i64 (airOf (respOf ri) 20), .int .i64 (airOf (respOf ri) 14), .int .i64 (airOf (respOf ri) 14), .int .i64 (airOf (respOf ri) 20), .int .i64 (airOf (respOf ri) 30)] 37, .row (.slice z.1 ((bl.take 16).length) z.2) 3 1 (bl.take 16).length (is (airsP ri (bl.take 16))), .blk g1 [.int .u8 (pr : Int), .int .u8 (po : Int), .int .u8 (ra : Int), .int .u16 (lm : Int), .slice p1 bl.length c1, .int .u32 (st : Int), .slice p2 hl.length c2] 27]) (fun z => (bl.take 16).length ≤ z.2) ?_ ?_
    · skip
      refine VC.seq ?_
      refine VC.region ?_
      refine VL.q (Q.assign rfl) ?_
      refine VL.nil ?_
      refine VE.seq ?_
      refine VC.block ?_
      refine VK.addNil 3 1 ?_
      refine VC.loop (X := Nat × (Option Addr × Nat)) (fun y => [(1, .pointer (some ⟨g1, 0, none⟩)), (4, .int .i64 ri), (7, .int .i64 (airOf (respOf ri) 14)), (11, .pointer (some ⟨g11, 0, none⟩)), (12, .int .i64 (y.1 : Int))]) (fun y => [.blk g11 [.int .u8 ((pr % 3 : Nat) : Int), .int .u8 ((po % 3 : Nat) : Int), .int .i64 ((lm : Int) % 32768), .slice y.2.1 ((bl.take y.1).length) y.2.2, .int .i64 (airOf (respOf ri) 20), .int .i64 (airOf (respOf ri) 14), .int .i64 (airOf (respOf ri) 14), .int .i64 (airOf (respOf ri) 20), .int .i64 (airOf (respOf ri) 30)] 37, .row (.slice y.2.1 ((bl.take y.1).length) y.2.2) 3 1 (bl.take y.1).length (is (airsP ri (bl.take y.1))), .blk g1 [.int .u8 (pr : Int), .int .u8 (po : Int), .int .u8 (ra : Int), .int .u16 (lm : Int), .slice p1 bl.length c1, .int .u32 (st : Int), .slice p2 hl.length c2] 27]) (fun y => y.1 ≤ 16 ∧ y.1 ≤ bl.length ∧ (bl.take y.1).length ≤ y.2.2) (fun y => 16 - y.1) (0, (none, 0)) ⟨by omega, by omega, by simp⟩ ?_ ?_
      · exact VS.mkP zE zKs
      · intro y hk
        obtain ⟨k, w⟩ := y
        obtain ⟨hk1, hk2, hwc⟩ := hk
        dsimp only at hk1 hk2 hwc
        dsimp only
        refine VC.seq ?_
        refine VC.seq ?_
        refine VC.region ?_
        refine VL.q (Q.move rfl) ?_
        refine VL.q (Q.fieldAddr fa27_4 rfl) ?_
        refine VL.q (Q.load1 ty23 rfl zM rfl) ?_
        refine VL.q (Q.len sl23 rfl) ?_
        refine VL.q (Q.lt rfl rfl) ?_
        refine VL.q (Q.move rfl) ?_
        refine VK.case 92 rfl ?_ ?_
        · intro h92
          have hlt : k < bl.length := by have := of_decide_eq_true h92; omega
          refine VL.yes rfl rfl ?_
          refine VL.q (Q.move rfl) ?_
          refine VL.yes rfl rfl ?_
          refine VL.q (Q.lt rfl rfl) ?_
          refine VL.q (Q.pick_true rfl rfl) ?_
          refine VL.nil ?_
          refine VE.seq ?_
          refine VC.cond rfl ?_ ?_
          · intro h95
            have h16 : k < 16 := by have := of_decide_eq_true h95; omega
            obtain ⟨b0, o0, rfl, hc0⟩ := hrb k _ (us_get bl k hlt)
            have hbk := hbl _ (List.getElem_mem hlt)
            have hal := airs_snoc ri bl k hlt
            have hal2 : (bl.take (k + 1)).length = (bl.take k).length + 1 := by simp; omega
            have hal3 : (bl.take k).length ≤ 16 := by simp; omega
            refine VC.skip ?_
            refine VE.seq ?_
            refine VC.seq ?_
            refine VC.block ?_
            refine VC.seq ?_
            refine VC.region ?_
            refine VL.q (Q.move rfl) ?_
            refine VL.q (Q.fieldAddr fa27_4 rfl) ?_
            refine VL.q (Q.load1 ty23 rfl zM rfl) ?_
            refine VL.q (Q.move rfl) ?_
            refine VL.q (Q.indexAddr sl23 (j := k) rfl rfl rfl hlt) ?_
            refine VL.q (Q.load0 ty22 rfl (by simpa using hc0) (by simp)) ?_
            refine VL.q ((by first | exact Q.convF ti22 ti3 rfl (by simp only [klo]; omega) (by simp only [khi]; omega) | exact Q.convM (M := 0) ti22 ti3 rfl rfl rfl | exact Q.conv ti22 ti3 rfl)) ?_
            refine VL.q (Q.rem rfl rfl (by omega) (by omega)) ?_
            refine VL.q ((by first | exact Q.addI rfl rfl (by omega) (by omega) | exact Q.add rfl rfl)) ?_
            refine VL.eff (O.call0 ok9 rfl rfl (by decide) (air_c ri (30 + (bl[k] : Int) % 2305) hr0 hr1 (by omega) (by omega)) (fun _ _ _ => trivial) ?_)
            intro x108 y108
            refine VL.q (Q.move rfl) ?_
            refine VL.q (Q.extract rfl rfl) ?_
            refine VL.q (Q.extract rfl rfl) ?_
            refine VL.q (Q.assign rfl) ?_
            refine VL.q (Q.assign rfl) ?_
            refine VL.nil ?_
            refine VE.seq ?_
            refine VC.seq ?_
            refine VC.seq ?_
            refine VC.region ?_
            refine VL.q (Q.move rfl) ?_
            refine VL.quietE (v' := .bool false) (by decide) (Q.ne rfl rfl) (by rfl) ?_
            refine VL.nil ?_
            refine VE.seq ?_
            refine VC.condF rfl ?_
            refine VC.skip ?_
            refine VE.seq ?_
            refine VC.region ?_
            refine VL.q (Q.fieldAddr fa37_3 rfl) ?_
            refine VL.q (Q.load1 ty35 rfl zM rfl) ?_
            refine VL.q (Q.move rfl) ?_
            refine VL.eff (O.buildSlice sl35 ze3 (by decide) zF (by decide) ?_)
            intro g116
            refine VL.eff (O.appendS sl35 ze3 rfl (by decide) rfl rfl zM zS rfl (by decide) (by unfold maxLen; omega) (by omega) zA ?_)
            intro p117 c117 hc117
            refine VL.q (Q.fieldAddr fa37_3 rfl) ?_
            refine VL.eff (O.store ty35 rfl rfl rfl rfl zU zP ?_)
            refine VL.nil ?_
            refine VE.block_normal ?_
            refine VE.seq ?_
            refine VC.region ?_
            refine VL.q (Q.move rfl) ?_
            refine VL.q ((by first | exact Q.addI rfl rfl (by omega) (by omega) | exact Q.add rfl rfl)) ?_
            refine VL.q (Q.assign rfl) ?_
            refine VL.nil ?_
            refine VE.then_normal ?_
            exact VE.give zE (by dsimp only; rw [hal, hal2]; repeat (first | exact List.Sublist.refl _ | exact List.nil_sublist _ | apply List.Sublist.cons_cons | apply List.Sublist.cons)) (fun a W s => ⟨(k + 1, (p117, c117)), ⟨by show k + 1 ≤ 16; omega, by show k + 1 ≤ bl.length; omega, by show (bl.take (k + 1)).length ≤ c117; rw [hal2]; exact hc117⟩, by show 16 - (k + 1) < 16 - k; omega, s⟩)
          · intro h95
            have h1 : k = 16 := by have := of_decide_eq_false h95; omega
            have hfin : bl.take 16 = bl.take k := by rw [h1]
            refine VC.exit ?_
            refine VE.then_exit ?_
            refine VE.then_exit ?_
            refine VE.block_here ?_
            refine VE.then_normal ?_
            exact VE.give zE (by rw [hfin]; exact List.Sublist.refl _) (fun a W s => ⟨w, by rw [hfin]; exact hwc, s⟩)
        · intro h92
          have h1 : k = bl.length := by have := of_decide_eq_false h92; omega
          have hfin : bl.take 16 = bl.take k := by rw [h1, List.take_length, List.take_of_length_le (show bl.length ≤ 16 by omega)]
          refine VL.no (by simp) rfl rfl (.inl rfl) ?_
          refine VL.no (by simp) rfl rfl (.inl rfl) ?_
          refine VL.quietE (v' := .bool false) (by decide) (Q.pick_false rfl rfl) (by rfl) ?_
          refine VL.nil ?_
          refine VE.seq ?_
          refine VC.condF rfl ?_
          refine VC.exit ?_
          refine VE.then_exit ?_
          refine VE.then_exit ?_
          refine VE.block_here ?_
          refine VE.then_normal ?_
          exact VE.give zE (by rw [hfin]; exact List.Sublist.refl _) (fun a W s => ⟨w, by rw [hfin]; exact hwc, s⟩)
    · intro z hz
      obtain ⟨zp, zc⟩ := z
      dsimp only at hz
      dsimp only
      refine VC.seqJ (X := Option Addr × Nat) (fun z => [(1, .pointer (some ⟨g1, 0, none⟩)), (4, .int .i64 ri), (7, .int .i64 (airOf (respOf ri) 14)), (11, .pointer (some ⟨g11, 0, none⟩))]) (fun z => [.blk g11 [.int .u8 ((pr % 3 : Nat) : Int), .int .u8 ((po % 3 : Nat) : Int), .int .i64 ((lm : Int) % 32768), .slice z.1 ((dlP ri bl).length) z.2, .int .i64 (airOf (respOf ri) 20), .int .i64 (airOf (respOf ri) 14), .int .i64 (airOf (respOf ri) 14), .int .i64 (airOf (respOf ri) 20), .int .i64 (airOf (respOf ri) 30)] 37, .row (.slice z.1 ((dlP ri bl).length) z.2) 3 1 (dlP ri bl).length (is (dlP ri bl)), .blk g1 [.int .u8 (pr : Int), .int .u8 (po : Int), .int .u8 (ra : Int), .int .u16 (lm : Int), .slice p1 bl.length c1, .int .u32 (st : Int), .slice p2 hl.length c2] 27]) (fun z => (dlP ri bl).length ≤ z.2) ?_ ?_
      · skip
        refine VC.seq ?_
        refine VC.region ?_
        refine VL.q (Q.fieldAddr fa37_3 rfl) ?_
        refine VL.q (Q.load1 ty35 rfl zM rfl) ?_
        refine VL.q (Q.len sl35 rfl) ?_
        refine VL.q (Q.eq rfl rfl) ?_
        refine VL.nil ?_
        refine VE.seq ?_
        refine VC.cond rfl ?_ ?_
        · intro h122
          have hz0 : (bl.take 16).length = 0 := by simpa using h122
          refine VC.region ?_
          refine VL.q (Q.move rfl) ?_
          refine VL.eff (O.buildSlice sl35 ze3 (by decide) zF (by decide) ?_)
          intro g124
          refine VL.q (Q.fieldAddr fa37_3 rfl) ?_
          refine VL.eff (O.store ty35 rfl rfl rfl rfl zU zP ?_)
          refine VL.nil ?_
          refine VE.then_normal ?_
          have hdl : dlP ri bl = [airOf (respOf ri) 14] := by unfold dlP; rw [if_pos hz0]
          refine VK.toRow (g := g124) (s := 1) (m := 1) (c := 1) zU rfl (by omega) (by unfold maxLen; omega) ?_
          rw [hdl]
          exact VE.meetP (some ⟨g124, 0, none⟩, 1) (by show ([_] : List Int).length ≤ 1; simp) zE zKs
        · intro h122
          have hz0 : (bl.take 16).length ≠ 0 := by intro e; simp [e] at h122
          refine VC.skip ?_
          refine VE.then_normal ?_
          have hdl : dlP ri bl = airsP ri (bl.take 16) := by unfold dlP; rw [if_neg hz0]
          have hal : (airsP ri (bl.take 16)).length = (bl.take 16).length := by simp [airsP]
          rw [hdl, hal]
          exact VE.meetP (zp, zc) hz zE zKs
      · intro z hdc
        obtain ⟨zp2, zc2⟩ := z
        dsimp only at hdc
        dsimp only
        refine VC.seq ?_
        refine VC.region ?_
        refine VL.q (Q.loadA ty37 rfl zM zS) ?_
        refine VL.eff (O.call0 ok10 rfl rfl (by decide) (plan_c (exP pr po ri) (exP_ok pr po ri) _ _ _ (dlP ri bl) rfl (dl_bd ri hr0 hr1 bl) (dl_len ri bl).2 hdc ((lm : Int) % 32768) (by omega) (dl_len ri bl).1) (fun _ _ hw => Rd.row hw zM) ?_)
        intro x128 y128
        obtain ⟨pn, pp, pm, c, pe, pl⟩ := x128
        obtain ⟨hn1, hn2, hor⟩ := y128
        dsimp only at hn1 hn2 hor
        dsimp only
        refine VL.q (Q.move rfl) ?_
        refine VL.q (Q.extract rfl rfl) ?_
        refine VL.q (Q.extract rfl rfl) ?_
        refine VL.q (Q.assign rfl) ?_
        refine VL.q (Q.assign rfl) ?_
        refine VL.nil ?_
        refine VE.seq ?_
        refine VC.seq ?_
        refine VC.seq ?_
        refine VC.region ?_
        refine VL.q (Q.move rfl) ?_
        refine VL.q (Q.ne rfl rfl) ?_
        refine VL.nil ?_
        refine VE.seq ?_
        refine VC.cond rfl ?_ ?_
        · intro h132
          have hb : pe = 4 ∧ decide (32767 < (exP pr po ri).d0 (dlP ri bl) pn) = true := by rcases hor with h | h; exact h; (exfalso; rw [h.1] at h132; simp at h132)
          refine VC.seq ?_
          refine VC.region ?_
          refine VL.q (Q.move rfl) ?_
          refine VL.q (Q.eq rfl rfl) ?_
          refine VL.q (Q.assign rfl) ?_
          refine VL.q (Q.assign rfl) ?_
          refine VL.nil ?_
          refine VE.seq ?_
          refine VC.ret ?_
          refine VE.then_ret ?_
          obtain ⟨rfl, hb2⟩ := hb
          exact VE.ret rfl (.tmp rfl (.tmp rfl .nil)) (0 : Int) ⟨pn, hn1, hn2, by rw [if_pos hb2]⟩ rfl (List.nil_sublist _)
        · intro h132
          rcases hor with h | ⟨he0, hb, rfl, rfl⟩
          · exfalso; rw [h.1] at h132; simp at h132
          obtain ⟨hseq1, hseq2, hseq3⟩ := seq_total (exP_ok pr po ri) (dl_bd ri hr0 hr1 bl) hn2 (dl_len ri bl).2
          obtain ⟨T, hTd⟩ : ∃ T, T = ((exP pr po ri).raw (dlP ri bl) pn).2 := ⟨_, rfl⟩
          have hT : lenP ((exP pr po ri).seq (dlP ri bl) pn) = T := hseq1.trans hTd.symm
          have hsm := raw_small (exP_ok pr po ri) (dlP ri bl) (n := pn) (by have := (dl_len ri bl).2; omega)
          have hrp := raw_pos (exP_ok pr po ri) (dlP ri bl) hn1
          rw [← hTd] at hseq2 hseq3
          refine VK.rowHead (m := ((exP pr po ri).raw (dlP ri bl) pn).1.length) zM hrp ?_
          intro gp hgp _ _
          subst hgp
          refine VC.skip ?_
          refine VE.seq ?_
          refine VC.seq ?_
          refine VC.region ?_
          refine VL.q (Q.fieldAddr fa27_5 rfl) ?_
          refine VL.q (Q.load1 ty24 rfl zM rfl) ?_
          refine VL.q ((by first | exact Q.convF ti24 ti3 rfl (by simp only [klo]; omega) (by simp only [khi]; omega) | exact Q.convM (M := 0) ti24 ti3 rfl rfl rfl | exact Q.conv ti24 ti3 rfl)) ?_
          refine VL.q (Q.build lay43 zF) ?_
          refine VL.eff (O.alloc zo43 (by decide) ?_)
          intro g17
          refine VL.q (Q.assign rfl) ?_
          refine VL.eff (O.store ty43 rfl rfl rfl rfl zU zP ?_)
          refine VL.nil ?_
          refine VE.seq ?_
          refine VC.seq ?_
          refine VC.region ?_
          refine VL.q (Q.move rfl) ?_
          refine VL.q (Q.move rfl) ?_
          refine VL.eff (O.call0 ok11 rfl rfl (by decide) (length_c _ _ _ ((exP pr po ri).seq (dlP ri bl) pn) (seq_length _ _) (seq_bd (exP_ok pr po ri) (dl_bd ri hr0 hr1 bl) hn2 (dl_len ri bl).2) (by omega)) (fun _ _ hw => Rd.row hw zM) ?_)
          intro x141 y141
          refine VL.quietE (v' := .int .i64 ((st : Int) + T)) (by decide) ((by first | exact Q.addI rfl rfl (by omega) (by omega) | exact Q.add rfl rfl)) (congrArg (fun z => Value.int .i64 ((st : Int) + z)) hT) ?_
          refine VL.q (Q.assign rfl) ?_
          refine VL.nil ?_
          refine VE.seq ?_
          refine VC.seq ?_
          refine VC.region ?_
          refine VL.eff (O.alloc zo46 (by decide) ?_)
          intro g19
          refine VL.nil ?_
          refine VE.seq ?_
          refine VC.seq ?_
          refine VC.seq ?_
          refine VC.region ?_
          refine VL.q (Q.assign rfl) ?_
          refine VL.nil ?_
          refine VE.seq ?_
          refine VC.block ?_
          refine VC.loop (X := Nat × (Int × Int)) (fun y => [(1, .pointer (some ⟨g1, 0, none⟩)), (7, .int .i64 (airOf (respOf ri) 14)), (15, .slice (some ⟨gp, 0, none⟩) ((exP pr po ri).raw (dlP ri bl) pn).1.length c), (16, .int .i64 (st : Int)), (17, .pointer (some ⟨g17, 0, none⟩)), (18, .int .i64 ((st : Int) + T)), (19, .pointer (some ⟨g19, 0, none⟩)), (20, .int .i64 (y.1 : Int))]) (fun y => [.blk g19 [.int .i64 y.2.1, .int .i64 y.2.2] 46, .blk g17 [.int .u8 2, .int .u8 0, .int .u8 0, .int .u8 0, .int .u8 0, .int .u8 3] 43, .row (.slice (some ⟨gp, 0, none⟩) ((exP pr po ri).raw (dlP ri bl) pn).1.length c) 48 6 ((exP pr po ri).raw (dlP ri bl) pn).1.length (pcs ((exP pr po ri).seq (dlP ri bl) pn)), .blk g1 [.int .u8 (pr : Int), .int .u8 (po : Int), .int .u8 (ra : Int), .int .u16 (lm : Int), .slice p1 bl.length c1, .int .u32 (st : Int), .slice p2 hl.length c2] 27]) (fun y => y.1 ≤ ((exP pr po ri).raw (dlP ri bl) pn).1.length ∧ navI ((st : Int) + T) y.1 y.2.1 y.2.2) (fun y => ((exP pr po ri).raw (dlP ri bl) pn).1.length - y.1) (0, (0, 0)) ⟨Nat.zero_le _, .inl ⟨rfl, rfl⟩⟩ ?_ ?_
          · exact VS.mk zE zB
          · intro y hk
            obtain ⟨k, u, l⟩ := y
            obtain ⟨hk1, hnv⟩ := hk
            dsimp only at hk1 hnv
            dsimp only
            refine VC.seq ?_
            refine VC.seq ?_
            refine VC.region ?_
            refine VL.q (Q.move rfl) ?_
            refine VL.q (Q.move rfl) ?_
            refine VL.q (Q.len sl39 rfl) ?_
            refine VL.q (Q.lt rfl rfl) ?_
            refine VL.nil ?_
            refine VE.seq ?_
            refine VC.cond rfl ?_ ?_
            · intro h146
              have hkl : k < ((exP pr po ri).raw (dlP ri bl) pn).1.length := by have := of_decide_eq_true h146; omega
              have hks : k < ((exP pr po ri).seq (dlP ri bl) pn).length := by rw [seq_length]; exact hkl
              have hpo := seq_part (exP_ok pr po ri) (dl_bd ri hr0 hr1 bl) hn2 hb k hks
              have hpst := hpo.st
              have hpair := hpo.air
              have hpsum := hpo.sum
              have hpdur := hpo.dur
              obtain ⟨pi, hpi⟩ : ∃ z, z = ((exP pr po ri).seq (dlP ri bl) pn)[k].index := ⟨_, rfl⟩
              obtain ⟨ps, hps⟩ : ∃ z, z = ((exP pr po ri).seq (dlP ri bl) pn)[k].start := ⟨_, rfl⟩
              obtain ⟨pa, hpa⟩ : ∃ z, z = ((exP pr po ri).seq (dlP ri bl) pn)[k].air := ⟨_, rfl⟩
              obtain ⟨D, hDd⟩ : ∃ D : Nat, (D : Int) = ((exP pr po ri).seq (dlP ri bl) pn)[k].dur := ⟨((exP pr po ri).seq (dlP ri bl) pn)[k].dur.toNat, by omega⟩
              have hkind := hpo.kind
              unfold okKind at hkind
              rw [← hps] at hpst hpsum
              rw [← hpa] at hpair hpsum
              rw [← hDd] at hpsum hpdur
              rw [← hTd] at hpsum
              have hD : D ≤ 32767 := by omega
              have hab := ans_bd ri 14 (by omega) (by omega)
              refine VC.skip ?_
              refine VE.seq ?_
              refine VC.seq ?_
              refine VC.block ?_
              refine VC.seq ?_
              rcases hkind with hkd | hkd | hkd | hkd | hkd | hkd | hkd
              · skip
                have hpc : partC ((exP pr po ri).seq (dlP ri bl) pn)[k] = [.int .u8 1, .bool false, .int .i64 (pi : Int), .int .i64 ps, .int .i64 pa, .int .i64 (D : Int)] := by unfold partC; rw [hkd.1, hkd.2, ← hpi, ← hps, ← hpa, ← hDd]; rfl
                refine VC.region ?_
                refine VL.q (Q.move rfl) ?_
                refine VL.q (Q.move rfl) ?_
                refine VL.q (Q.indexAddr sl39 (j := k) rfl rfl rfl hkl) ?_
                refine VL.q (Q.loadRowA (ys := [.int .u8 1, .bool false, .int .i64 (pi : Int), .int .i64 ps, .int .i64 pa, .int .i64 (D : Int)]) ty48 rfl zM (by rw [← hpc, Nat.zero_add]; exact pcs_seg _ k hks)) ?_
                refine VL.eff (O.alloc zo48 (by decide) ?_)
                intro g21
                refine VL.eff (O.store ty48 rfl rfl rfl rfl zU zP ?_)
                refine VL.nil ?_
                refine VE.seq ?_
                refine VK.env (E' := [(1, .pointer (some ⟨g1, 0, none⟩)), (7, .int .i64 (airOf (respOf ri) 14)), (15, .slice (some ⟨gp, 0, none⟩) ((exP pr po ri).raw (dlP ri bl) pn).1.length c), (16, .int .i64 (st : Int)), (17, .pointer (some ⟨g17, 0, none⟩)), (18, .int .i64 ((st : Int) + T)), (19, .pointer (some ⟨g19, 0, none⟩)), (20, .int .i64 (k : Int)), (21, .pointer (some ⟨g21, 0, none⟩))]) (by exact Env.spec zE) ?_
                refine VK.sub (L' := [.blk g21 [.int .u8 1, .bool false, .int .i64 (pi : Int), .int .i64 ps, .int .i64 pa, .int .i64 (D : Int)] 48, .blk g19 [.int .i64 u, .int .i64 l] 46, .blk g17 [.int .u8 2, .int .u8 0, .int .u8 0, .int .u8 0, .int .u8 0, .int .u8 3] 43, .row (.slice (some ⟨gp, 0, none⟩) ((exP pr po ri).raw (dlP ri bl) pn).1.length c) 48 6 ((exP pr po ri).raw (dlP ri bl) pn).1.length (pcs ((exP pr po ri).seq (dlP ri bl) pn)), .blk g1 [.int .u8 (pr : Int), .int .u8 (po : Int), .int .u8 (ra : Int), .int .u16 (lm : Int), .slice p1 bl.length c1, .int .u32 (st : Int), .slice p2 hl.length c2] 27]) zB ?_
                refine round_1 W0 hsub hsl hl p2 c2 hrh _ _ _ _ _ _ _ _ st T (airOf (respOf ri) 14) k u l pi ps pa D g1 g17 g19 g21 hst hpst hpair hpsum hD (by omega) hab hnv (hpo.rts hkd.1) _ (Still.block (Still.then (Still.then (Still.block (Still.then Still.body))))) ?_ ?_
                · skip
                  refine VE.block_normal ?_
                  refine VE.seq ?_
                  refine VC.region ?_
                  refine VL.q (Q.move rfl) ?_
                  refine VL.q ((by first | exact Q.addI rfl rfl (by omega) (by omega) | exact Q.add rfl rfl)) ?_
                  refine VL.q (Q.assign rfl) ?_
                  refine VL.nil ?_
                  refine VE.then_normal ?_
                  exact VE.give zE zB (fun a W s => ⟨(k + 1, (((st : Int) + T), ((st : Int) + ps + pa + 32 + airOf (respOf ri) 14 + 18))), ⟨by show k + 1 ≤ _; omega, (show navI ((st : Int) + T) (k + 1) ((st : Int) + T) ((st : Int) + ps + pa + 32 + airOf (respOf ri) 14 + 18) from .inr ⟨by omega, rfl, by omega, by omega⟩)⟩, by show _ - (k + 1) < _ - k; omega, s⟩)
                · skip
                  refine VE.block_here ?_
                  refine VE.seq ?_
                  refine VC.region ?_
                  refine VL.q (Q.move rfl) ?_
                  refine VL.q ((by first | exact Q.addI rfl rfl (by omega) (by omega) | exact Q.add rfl rfl)) ?_
                  refine VL.q (Q.assign rfl) ?_
                  refine VL.nil ?_
                  refine VE.then_normal ?_
                  exact VE.give zE zB (fun a W s => ⟨(k + 1, (u, l)), ⟨by show k + 1 ≤ _; omega, navI_next hnv⟩, by show _ - (k + 1) < _ - k; omega, s⟩)
              · skip
                have hpc : partC ((exP pr po ri).seq (dlP ri bl) pn)[k] = [.int .u8 2, .bool true, .int .i64 (pi : Int), .int .i64 ps, .int .i64 pa, .int .i64 (D : Int)] := by unfold partC; rw [hkd.1, hkd.2, ← hpi, ← hps, ← hpa, ← hDd]; rfl
                refine VC.region ?_
                refine VL.q (Q.move rfl) ?_
                refine VL.q (Q.move rfl) ?_
                refine VL.q (Q.indexAddr sl39 (j := k) rfl rfl rfl hkl) ?_
                refine VL.q (Q.loadRowA (ys := [.int .u8 2, .bool true, .int .i64 (pi : Int), .int .i64 ps, .int .i64 pa, .int .i64 (D : Int)]) ty48 rfl zM (by rw [← hpc, Nat.zero_add]; exact pcs_seg _ k hks)) ?_
                refine VL.eff (O.alloc zo48 (by decide) ?_)
                intro g21_1
                refine VL.eff (O.store ty48 rfl rfl rfl rfl zU zP ?_)
                refine VL.nil ?_
                refine VE.seq ?_
                refine VK.env (E' := [(1, .pointer (some ⟨g1, 0, none⟩)), (7, .int .i64 (airOf (respOf ri) 14)), (15, .slice (some ⟨gp, 0, none⟩) ((exP pr po ri).raw (dlP ri bl) pn).1.length c), (16, .int .i64 (st : Int)), (17, .pointer (some ⟨g17, 0, none⟩)), (18, .int .i64 ((st : Int) + T)), (19, .pointer (some ⟨g19, 0, none⟩)), (20, .int .i64 (k : Int)), (21, .pointer (some ⟨g21_1, 0, none⟩))]) (by exact Env.spec zE) ?_
                refine VK.sub (L' := [.blk g21_1 [.int .u8 2, .bool true, .int .i64 (pi : Int), .int .i64 ps, .int .i64 pa, .int .i64 (D : Int)] 48, .blk g19 [.int .i64 u, .int .i64 l] 46, .blk g17 [.int .u8 2, .int .u8 0, .int .u8 0, .int .u8 0, .int .u8 0, .int .u8 3] 43, .row (.slice (some ⟨gp, 0, none⟩) ((exP pr po ri).raw (dlP ri bl) pn).1.length c) 48 6 ((exP pr po ri).raw (dlP ri bl) pn).1.length (pcs ((exP pr po ri).seq (dlP ri bl) pn)), .blk g1 [.int .u8 (pr : Int), .int .u8 (po : Int), .int .u8 (ra : Int), .int .u16 (lm : Int), .slice p1 bl.length c1, .int .u32 (st : Int), .slice p2 hl.length c2] 27]) zB ?_
                refine round_2 W0 hsub hsl hl p2 c2 hrh _ _ _ _ _ _ _ _ st T (airOf (respOf ri) 14) k u l pi ps pa D g1 g17 g19 g21_1 hst hpst hpair hpsum hD (by omega) hab hnv _ (Still.block (Still.then (Still.then (Still.block (Still.then Still.body))))) ?_ ?_
                · skip
                  refine VE.block_normal ?_
                  refine VE.seq ?_
                  refine VC.region ?_
                  refine VL.q (Q.move rfl) ?_
                  refine VL.q ((by first | exact Q.addI rfl rfl (by omega) (by omega) | exact Q.add rfl rfl)) ?_
                  refine VL.q (Q.assign rfl) ?_
                  refine VL.nil ?_
                  refine VE.then_normal ?_
                  exact VE.give zE zB (fun a W s => ⟨(k + 1, (((st : Int) + T), 0)), ⟨by show k + 1 ≤ _; omega, (show navI ((st : Int) + T) (k + 1) ((st : Int) + T) 0 from .inr ⟨by omega, rfl, by omega, by omega⟩)⟩, by show _ - (k + 1) < _ - k; omega, s⟩)
                · skip
                  refine VE.block_here ?_
                  refine VE.seq ?_
                  refine VC.region ?_
                  refine VL.q (Q.move rfl) ?_
                  refine VL.q ((by first | exact Q.addI rfl rfl (by omega) (by omega) | exact Q.add rfl rfl)) ?_
                  refine VL.q (Q.assign rfl) ?_
                  refine VL.nil ?_
                  refine VE.then_normal ?_
                  exact VE.give zE zB (fun a W s => ⟨(k + 1, (u, l)), ⟨by show k + 1 ≤ _; omega, navI_next hnv⟩, by show _ - (k + 1) < _ - k; omega, s⟩)
              · skip
                have hpc : partC ((exP pr po ri).seq (dlP ri bl) pn)[k] = [.int .u8 3, .bool false, .int .i64 (pi : Int), .int .i64 ps, .int .i64 pa, .int .i64 (D : Int)] := by unfold partC; rw [hkd.1, hkd.2, ← hpi, ← hps, ← hpa, ← hDd]; rfl
                refine VC.region ?_
                refine VL.q (Q.move rfl) ?_
                refine VL.q (Q.move rfl) ?_
                refine VL.q (Q.indexAddr sl39 (j := k) rfl rfl rfl hkl) ?_
                refine VL.q (Q.loadRowA (ys := [.int .u8 3, .bool false, .int .i64 (pi : Int), .int .i64 ps, .int .i64 pa, .int .i64 (D : Int)]) ty48 rfl zM (by rw [← hpc, Nat.zero_add]; exact pcs_seg _ k hks)) ?_
                refine VL.eff (O.alloc zo48 (by decide) ?_)
                intro g21_2
                refine VL.eff (O.store ty48 rfl rfl rfl rfl zU zP ?_)
                refine VL.nil ?_
                refine VE.seq ?_
                refine VK.env (E' := [(1, .pointer (some ⟨g1, 0, none⟩)), (7, .int .i64 (airOf (respOf ri) 14)), (15, .slice (some ⟨gp, 0, none⟩) ((exP pr po ri).raw (dlP ri bl) pn).1.length c), (16, .int .i64 (st : Int)), (17, .pointer (some ⟨g17, 0, none⟩)), (18, .int .i64 ((st : Int) + T)), (19, .pointer (some ⟨g19, 0, none⟩)), (20, .int .i64 (k : Int)), (21, .pointer (some ⟨g21_2, 0, none⟩))]) (by exact Env.spec zE) ?_
                refine VK.sub (L' := [.blk g21_2 [.int .u8 3, .bool false, .int .i64 (pi : Int), .int .i64 ps, .int .i64 pa, .int .i64 (D : Int)] 48, .blk g19 [.int .i64 u, .int .i64 l] 46, .blk g17 [.int .u8 2, .int .u8 0, .int .u8 0, .int .u8 0, .int .u8 0, .int .u8 3] 43, .row (.slice (some ⟨gp, 0, none⟩) ((exP pr po ri).raw (dlP ri bl) pn).1.length c) 48 6 ((exP pr po ri).raw (dlP ri bl) pn).1.length (pcs ((exP pr po ri).seq (dlP ri bl) pn)), .blk g1 [.int .u8 (pr : Int), .int .u8 (po : Int), .int .u8 (ra : Int), .int .u16 (lm : Int), .slice p1 bl.length c1, .int .u32 (st : Int), .slice p2 hl.length c2] 27]) zB ?_
                refine round_3 W0 hsub hsl hl p2 c2 hrh _ _ _ _ _ _ _ _ st T (airOf (respOf ri) 14) k u l pi ps pa D g1 g17 g19 g21_2 hst hpst hpair hpsum hD (by omega) hab hnv _ (Still.block (Still.then (Still.then (Still.block (Still.then Still.body))))) ?_ ?_
                · skip
                  refine VE.block_normal ?_
                  refine VE.seq ?_
                  refine VC.region ?_
                  refine VL.q (Q.move rfl) ?_
                  refine VL.q ((by first | exact Q.addI rfl rfl (by omega) (by omega) | exact Q.add rfl rfl)) ?_
                  refine VL.q (Q.assign rfl) ?_
                  refine VL.nil ?_
                  refine VE.then_normal ?_
                  exact VE.give zE zB (fun a W s => ⟨(k + 1, (((st : Int) + T), 0)), ⟨by show k + 1 ≤ _; omega, (show navI ((st : Int) + T) (k + 1) ((st : Int) + T) 0 from .inr ⟨by omega, rfl, by omega, by omega⟩)⟩, by show _ - (k + 1) < _ - k; omega, s⟩)
                · skip
                  refine VE.block_here ?_
                  refine VE.seq ?_
                  refine VC.region ?_
                  refine VL.q (Q.move rfl) ?_
                  refine VL.q ((by first | exact Q.addI rfl rfl (by omega) (by omega) | exact Q.add rfl rfl)) ?_
                  refine VL.q (Q.assign rfl) ?_
                  refine VL.nil ?_
                  refine VE.then_normal ?_
                  exact VE.give zE zB (fun a W s => ⟨(k + 1, (u, l)), ⟨by show k + 1 ≤ _; omega, navI_next hnv⟩, by show _ - (k + 1) < _ - k; omega, s⟩)
              · skip
                have hpc : partC ((exP pr po ri).seq (dlP ri bl) pn)[k] = [.int .u8 4, .bool false, .int .i64 (pi : Int), .int .i64 ps, .int .i64 pa, .int .i64 (D : Int)] := by unfold partC; rw [hkd.1, hkd.2, ← hpi, ← hps, ← hpa, ← hDd]; rfl
                refine VC.region ?_
                refine VL.q (Q.move rfl) ?_
                refine VL.q (Q.move rfl) ?_
                refine VL.q (Q.indexAddr sl39 (j := k) rfl rfl rfl hkl) ?_
                refine VL.q (Q.loadRowA (ys := [.int .u8 4, .bool false, .int .i64 (pi : Int), .int .i64 ps, .int .i64 pa, .int .i64 (D : Int)]) ty48 rfl zM (by rw [← hpc, Nat.zero_add]; exact pcs_seg _ k hks)) ?_
                refine VL.eff (O.alloc zo48 (by decide) ?_)
                intro g21_3
                refine VL.eff (O.store ty48 rfl rfl rfl rfl zU zP ?_)
                refine VL.nil ?_
                refine VE.seq ?_
                refine VK.env (E' := [(1, .pointer (some ⟨g1, 0, none⟩)), (7, .int .i64 (airOf (respOf ri) 14)), (15, .slice (some ⟨gp, 0, none⟩) ((exP pr po ri).raw (dlP ri bl) pn).1.length c), (16, .int .i64 (st : Int)), (17, .pointer (some ⟨g17, 0, none⟩)), (18, .int .i64 ((st : Int) + T)), (19, .pointer (some ⟨g19, 0, none⟩)), (20, .int .i64 (k : Int)), (21, .pointer (some ⟨g21_3, 0, none⟩))]) (by exact Env.spec zE) ?_
                refine VK.sub (L' := [.blk g21_3 [.int .u8 4, .bool false, .int .i64 (pi : Int), .int .i64 ps, .int .i64 pa, .int .i64 (D : Int)] 48, .blk g19 [.int .i64 u, .int .i64 l] 46, .blk g17 [.int .u8 2, .int .u8 0, .int .u8 0, .int .u8 0, .int .u8 0, .int .u8 3] 43, .row (.slice (some ⟨gp, 0, none⟩) ((exP pr po ri).raw (dlP ri bl) pn).1.length c) 48 6 ((exP pr po ri).raw (dlP ri bl) pn).1.length (pcs ((exP pr po ri).seq (dlP ri bl) pn)), .blk g1 [.int .u8 (pr : Int), .int .u8 (po : Int), .int .u8 (ra : Int), .int .u16 (lm : Int), .slice p1 bl.length c1, .int .u32 (st : Int), .slice p2 hl.length c2] 27]) zB ?_
                refine round_4 W0 hsub hsl hl p2 c2 hrh _ _ _ _ _ _ _ _ st T (airOf (respOf ri) 14) k u l pi ps pa D g1 g17 g19 g21_3 hst hpst hpair hpsum hD (by omega) hab hnv _ (Still.block (Still.then (Still.then (Still.block (Still.then Still.body))))) ?_ ?_
                · skip
                  refine VE.block_normal ?_
                  refine VE.seq ?_
                  refine VC.region ?_
                  refine VL.q (Q.move rfl) ?_
                  refine VL.q ((by first | exact Q.addI rfl rfl (by omega) (by omega) | exact Q.add rfl rfl)) ?_
                  refine VL.q (Q.assign rfl) ?_
                  refine VL.nil ?_
                  refine VE.then_normal ?_
                  exact VE.give zE zB (fun a W s => ⟨(k + 1, (((st : Int) + T), 0)), ⟨by show k + 1 ≤ _; omega, (show navI ((st : Int) + T) (k + 1) ((st : Int) + T) 0 from .inr ⟨by omega, rfl, by omega, by omega⟩)⟩, by show _ - (k + 1) < _ - k; omega, s⟩)
                · skip
                  refine VE.block_here ?_
                  refine VE.seq ?_
                  refine VC.region ?_
                  refine VL.q (Q.move rfl) ?_
                  refine VL.q ((by first | exact Q.addI rfl rfl (by omega) (by omega) | exact Q.add rfl rfl)) ?_
                  refine VL.q (Q.assign rfl) ?_
                  refine VL.nil ?_
                  refine VE.then_normal ?_
                  exact VE.give zE zB (fun a W s => ⟨(k + 1, (u, l)), ⟨by show k + 1 ≤ _; omega, navI_next hnv⟩, by show _ - (k + 1) < _ - k; omega, s⟩)
              · skip
                have hpc : partC ((exP pr po ri).seq (dlP ri bl) pn)[k] = [.int .u8 5, .bool true, .int .i64 (pi : Int), .int .i64 ps, .int .i64 pa, .int .i64 (D : Int)] := by unfold partC; rw [hkd.1, hkd.2, ← hpi, ← hps, ← hpa, ← hDd]; rfl
                refine VC.region ?_
                refine VL.q (Q.move rfl) ?_
                refine VL.q (Q.move rfl) ?_
                refine VL.q (Q.indexAddr sl39 (j := k) rfl rfl rfl hkl) ?_
                refine VL.q (Q.loadRowA (ys := [.int .u8 5, .bool true, .int .i64 (pi : Int), .int .i64 ps, .int .i64 pa, .int .i64 (D : Int)]) ty48 rfl zM (by rw [← hpc, Nat.zero_add]; exact pcs_seg _ k hks)) ?_
                refine VL.eff (O.alloc zo48 (by decide) ?_)
                intro g21_4
                refine VL.eff (O.store ty48 rfl rfl rfl rfl zU zP ?_)
                refine VL.nil ?_
                refine VE.seq ?_
                refine VK.env (E' := [(1, .pointer (some ⟨g1, 0, none⟩)), (7, .int .i64 (airOf (respOf ri) 14)), (15, .slice (some ⟨gp, 0, none⟩) ((exP pr po ri).raw (dlP ri bl) pn).1.length c), (16, .int .i64 (st : Int)), (17, .pointer (some ⟨g17, 0, none⟩)), (18, .int .i64 ((st : Int) + T)), (19, .pointer (some ⟨g19, 0, none⟩)), (20, .int .i64 (k : Int)), (21, .pointer (some ⟨g21_4, 0, none⟩))]) (by exact Env.spec zE) ?_
                refine VK.sub (L' := [.blk g21_4 [.int .u8 5, .bool true, .int .i64 (pi : Int), .int .i64 ps, .int .i64 pa, .int .i64 (D : Int)] 48, .blk g19 [.int .i64 u, .int .i64 l] 46, .blk g17 [.int .u8 2, .int .u8 0, .int .u8 0, .int .u8 0, .int .u8 0, .int .u8 3] 43, .row (.slice (some ⟨gp, 0, none⟩) ((exP pr po ri).raw (dlP ri bl) pn).1.length c) 48 6 ((exP pr po ri).raw (dlP ri bl) pn).1.length (pcs ((exP pr po ri).seq (dlP ri bl) pn)), .blk g1 [.int .u8 (pr : Int), .int .u8 (po : Int), .int .u8 (ra : Int), .int .u16 (lm : Int), .slice p1 bl.length c1, .int .u32 (st : Int), .slice p2 hl.length c2] 27]) zB ?_
                refine round_5 W0 hsub hsl hl p2 c2 hrh _ _ _ _ _ _ _ _ st T (airOf (respOf ri) 14) k u l pi ps pa D g1 g17 g19 g21_4 hst hpst hpair hpsum hD (by omega) hab hnv _ (Still.block (Still.then (Still.then (Still.block (Still.then Still.body))))) ?_ ?_
                · skip
                  refine VE.block_normal ?_
                  refine VE.seq ?_
                  refine VC.region ?_
                  refine VL.q (Q.move rfl) ?_
                  refine VL.q ((by first | exact Q.addI rfl rfl (by omega) (by omega) | exact Q.add rfl rfl)) ?_
                  refine VL.q (Q.assign rfl) ?_
                  refine VL.nil ?_
                  refine VE.then_normal ?_
                  exact VE.give zE zB (fun a W s => ⟨(k + 1, (((st : Int) + T), 0)), ⟨by show k + 1 ≤ _; omega, (show navI ((st : Int) + T) (k + 1) ((st : Int) + T) 0 from .inr ⟨by omega, rfl, by omega, by omega⟩)⟩, by show _ - (k + 1) < _ - k; omega, s⟩)
                · skip
                  refine VE.block_here ?_
                  refine VE.seq ?_
                  refine VC.region ?_
                  refine VL.q (Q.move rfl) ?_
                  refine VL.q ((by first | exact Q.addI rfl rfl (by omega) (by omega) | exact Q.add rfl rfl)) ?_
                  refine VL.q (Q.assign rfl) ?_
                  refine VL.nil ?_
                  refine VE.then_normal ?_
                  exact VE.give zE zB (fun a W s => ⟨(k + 1, (u, l)), ⟨by show k + 1 ≤ _; omega, navI_next hnv⟩, by show _ - (k + 1) < _ - k; omega, s⟩)
              · skip
                have hpc : partC ((exP pr po ri).seq (dlP ri bl) pn)[k] = [.int .u8 6, .bool false, .int .i64 (pi : Int), .int .i64 ps, .int .i64 pa, .int .i64 (D : Int)] := by unfold partC; rw [hkd.1, hkd.2, ← hpi, ← hps, ← hpa, ← hDd]; rfl
                refine VC.region ?_
                refine VL.q (Q.move rfl) ?_
                refine VL.q (Q.move rfl) ?_
                refine VL.q (Q.indexAddr sl39 (j := k) rfl rfl rfl hkl) ?_
                refine VL.q (Q.loadRowA (ys := [.int .u8 6, .bool false, .int .i64 (pi : Int), .int .i64 ps, .int .i64 pa, .int .i64 (D : Int)]) ty48 rfl zM (by rw [← hpc, Nat.zero_add]; exact pcs_seg _ k hks)) ?_
                refine VL.eff (O.alloc zo48 (by decide) ?_)
                intro g21_5
                refine VL.eff (O.store ty48 rfl rfl rfl rfl zU zP ?_)
                refine VL.nil ?_
                refine VE.seq ?_
                refine VK.env (E' := [(1, .pointer (some ⟨g1, 0, none⟩)), (7, .int .i64 (airOf (respOf ri) 14)), (15, .slice (some ⟨gp, 0, none⟩) ((exP pr po ri).raw (dlP ri bl) pn).1.length c), (16, .int .i64 (st : Int)), (17, .pointer (some ⟨g17, 0, none⟩)), (18, .int .i64 ((st : Int) + T)), (19, .pointer (some ⟨g19, 0, none⟩)), (20, .int .i64 (k : Int)), (21, .pointer (some ⟨g21_5, 0, none⟩))]) (by exact Env.spec zE) ?_
                refine VK.sub (L' := [.blk g21_5 [.int .u8 6, .bool false, .int .i64 (pi : Int), .int .i64 ps, .int .i64 pa, .int .i64 (D : Int)] 48, .blk g19 [.int .i64 u, .int .i64 l] 46, .blk g17 [.int .u8 2, .int .u8 0, .int .u8 0, .int .u8 0, .int .u8 0, .int .u8 3] 43, .row (.slice (some ⟨gp, 0, none⟩) ((exP pr po ri).raw (dlP ri bl) pn).1.length c) 48 6 ((exP pr po ri).raw (dlP ri bl) pn).1.length (pcs ((exP pr po ri).seq (dlP ri bl) pn)), .blk g1 [.int .u8 (pr : Int), .int .u8 (po : Int), .int .u8 (ra : Int), .int .u16 (lm : Int), .slice p1 bl.length c1, .int .u32 (st : Int), .slice p2 hl.length c2] 27]) zB ?_
                refine round_6 W0 hsub hsl hl p2 c2 hrh _ _ _ _ _ _ _ _ st T (airOf (respOf ri) 14) k u l pi ps pa D g1 g17 g19 g21_5 hst hpst hpair hpsum hD (by omega) hab hnv _ (Still.block (Still.then (Still.then (Still.block (Still.then Still.body))))) ?_ ?_
                · skip
                  refine VE.block_normal ?_
                  refine VE.seq ?_
                  refine VC.region ?_
                  refine VL.q (Q.move rfl) ?_
                  refine VL.q ((by first | exact Q.addI rfl rfl (by omega) (by omega) | exact Q.add rfl rfl)) ?_
                  refine VL.q (Q.assign rfl) ?_
                  refine VL.nil ?_
                  refine VE.then_normal ?_
                  exact VE.give zE zB (fun a W s => ⟨(k + 1, (((st : Int) + T), 0)), ⟨by show k + 1 ≤ _; omega, (show navI ((st : Int) + T) (k + 1) ((st : Int) + T) 0 from .inr ⟨by omega, rfl, by omega, by omega⟩)⟩, by show _ - (k + 1) < _ - k; omega, s⟩)
                · skip
                  refine VE.block_here ?_
                  refine VE.seq ?_
                  refine VC.region ?_
                  refine VL.q (Q.move rfl) ?_
                  refine VL.q ((by first | exact Q.addI rfl rfl (by omega) (by omega) | exact Q.add rfl rfl)) ?_
                  refine VL.q (Q.assign rfl) ?_
                  refine VL.nil ?_
                  refine VE.then_normal ?_
                  exact VE.give zE zB (fun a W s => ⟨(k + 1, (u, l)), ⟨by show k + 1 ≤ _; omega, navI_next hnv⟩, by show _ - (k + 1) < _ - k; omega, s⟩)
              · skip
                have hpc : partC ((exP pr po ri).seq (dlP ri bl) pn)[k] = [.int .u8 7, .bool true, .int .i64 (pi : Int), .int .i64 ps, .int .i64 pa, .int .i64 (D : Int)] := by unfold partC; rw [hkd.1, hkd.2, ← hpi, ← hps, ← hpa, ← hDd]; rfl
                refine VC.region ?_
                refine VL.q (Q.move rfl) ?_
                refine VL.q (Q.move rfl) ?_
                refine VL.q (Q.indexAddr sl39 (j := k) rfl rfl rfl hkl) ?_
                refine VL.q (Q.loadRowA (ys := [.int .u8 7, .bool true, .int .i64 (pi : Int), .int .i64 ps, .int .i64 pa, .int .i64 (D : Int)]) ty48 rfl zM (by rw [← hpc, Nat.zero_add]; exact pcs_seg _ k hks)) ?_
                refine VL.eff (O.alloc zo48 (by decide) ?_)
                intro g21_6
                refine VL.eff (O.store ty48 rfl rfl rfl rfl zU zP ?_)
                refine VL.nil ?_
                refine VE.seq ?_
                refine VK.env (E' := [(1, .pointer (some ⟨g1, 0, none⟩)), (7, .int .i64 (airOf (respOf ri) 14)), (15, .slice (some ⟨gp, 0, none⟩) ((exP pr po ri).raw (dlP ri bl) pn).1.length c), (16, .int .i64 (st : Int)), (17, .pointer (some ⟨g17, 0, none⟩)), (18, .int .i64 ((st : Int) + T)), (19, .pointer (some ⟨g19, 0, none⟩)), (20, .int .i64 (k : Int)), (21, .pointer (some ⟨g21_6, 0, none⟩))]) (by exact Env.spec zE) ?_
                refine VK.sub (L' := [.blk g21_6 [.int .u8 7, .bool true, .int .i64 (pi : Int), .int .i64 ps, .int .i64 pa, .int .i64 (D : Int)] 48, .blk g19 [.int .i64 u, .int .i64 l] 46, .blk g17 [.int .u8 2, .int .u8 0, .int .u8 0, .int .u8 0, .int .u8 0, .int .u8 3] 43, .row (.slice (some ⟨gp, 0, none⟩) ((exP pr po ri).raw (dlP ri bl) pn).1.length c) 48 6 ((exP pr po ri).raw (dlP ri bl) pn).1.length (pcs ((exP pr po ri).seq (dlP ri bl) pn)), .blk g1 [.int .u8 (pr : Int), .int .u8 (po : Int), .int .u8 (ra : Int), .int .u16 (lm : Int), .slice p1 bl.length c1, .int .u32 (st : Int), .slice p2 hl.length c2] 27]) zB ?_
                refine round_7 W0 hsub hsl hl p2 c2 hrh _ _ _ _ _ _ _ _ st T (airOf (respOf ri) 14) k u l pi ps pa D g1 g17 g19 g21_6 hst hpst hpair hpsum hD (by omega) hab hnv _ (Still.block (Still.then (Still.then (Still.block (Still.then Still.body))))) ?_ ?_
                · skip
                  refine VE.block_normal ?_
                  refine VE.seq ?_
                  refine VC.region ?_
                  refine VL.q (Q.move rfl) ?_
                  refine VL.q ((by first | exact Q.addI rfl rfl (by omega) (by omega) | exact Q.add rfl rfl)) ?_
                  refine VL.q (Q.assign rfl) ?_
                  refine VL.nil ?_
                  refine VE.then_normal ?_
                  exact VE.give zE zB (fun a W s => ⟨(k + 1, (((st : Int) + T), 0)), ⟨by show k + 1 ≤ _; omega, (show navI ((st : Int) + T) (k + 1) ((st : Int) + T) 0 from .inr ⟨by omega, rfl, by omega, by omega⟩)⟩, by show _ - (k + 1) < _ - k; omega, s⟩)
                · skip
                  refine VE.block_here ?_
                  refine VE.seq ?_
                  refine VC.region ?_
                  refine VL.q (Q.move rfl) ?_
                  refine VL.q ((by first | exact Q.addI rfl rfl (by omega) (by omega) | exact Q.add rfl rfl)) ?_
                  refine VL.q (Q.assign rfl) ?_
                  refine VL.nil ?_
                  refine VE.then_normal ?_
                  exact VE.give zE zB (fun a W s => ⟨(k + 1, (u, l)), ⟨by show k + 1 ≤ _; omega, navI_next hnv⟩, by show _ - (k + 1) < _ - k; omega, s⟩)
            · intro h146
              refine VC.exit ?_
              refine VE.then_exit ?_
              refine VE.then_exit ?_
              refine VE.block_here ?_
              refine VE.seq ?_
              refine VC.seq ?_
              refine VC.region ?_
              refine VL.q (Q.move rfl) ?_
              refine VL.q (Q.len sl39 rfl) ?_
              refine VL.q (Q.assign rfl) ?_
              refine VL.q (Q.assign rfl) ?_
              refine VL.nil ?_
              refine VE.seq ?_
              refine VC.ret ?_
              exact VE.ret rfl (.tmp rfl (.tmp rfl .nil)) (((exP pr po ri).raw (dlP ri bl) pn).1.length : Int) ⟨pn, hn1, hn2, by rw [if_neg (by rw [hb]; decide)]⟩ rfl (List.nil_sublist _)

theorem silence_c (pr po ra lm st : Nat) (bl : List Nat) (hl : List Bool) (p1 p2 : Option Addr) (n1 n2 c1 c2 : Nat) (hb1 : bl.length = n1) (hb2 : hl.length = n2) (hra : ra ≤ 255) (hpr : pr ≤ 255) (hpo : po ≤ 255) (hlm : lm ≤ 65535) (hst : st ≤ 4294967295) (hbl : ∀ b ∈ bl, b ≤ 65535) :
    Does Tryd.prog 3 [.agg #[.int .u8 (pr : Int), .int .u8 (po : Int), .int .u8 (ra : Int), .int .u16 (lm : Int), .slice p1 n1 c1, .int .u32 (st : Int), .slice p2 n2 c2]] [] (fun W => Subs W ∧ Rd W (some ⟨1, 0, none⟩) [.int .i64 7, .int .i64 3, .int .i64 2, .int .i64 2] ∧ Rd W p1 (us bl) ∧ Rd W p2 (bls hl)) (X := Unit) (fun _ => True) (fun _ => .bool true) (fun _ => []) := by
  refine Does.enter Tryd.func3 rfl (m := 24) rfl (by simp) ?_
  intro W0 hro
  obtain ⟨hsub, hsl, hrb, hrh⟩ := hro
  refine VC.seq ?_
  refine VC.region ?_
  refine VL.eff (O.box rfl rfl (by decide) ?_)
  intro g1
  refine VL.q (Q.assign rfl) ?_
  refine VL.nil ?_
  refine VE.seq ?_
  refine VC.seq ?_
  refine VC.region ?_
  refine VL.eff (O.buildSlice sl23 ze22 (by decide) zF (by decide) ?_)
  intro g6
  refine VL.eff (O.buildSlice sl25 ze4 (by decide) zF (by decide) ?_)
  intro g7
  refine VL.q (Q.build lay27 zF) ?_
  refine VL.eff (O.call0 ok4 rfl rfl (by decide) (vane_c 2 0 3 0 5 [200] [true, false, true] _ _ _ _ _ _ rfl rfl (by omega) (by omega) (by omega) (by omega) (by omega) (by intro b hb; simp at hb; omega)) (fun _ ho hw => ⟨hsub.only ho, hsl.only0 ho, (Rd.own hw zM (fun j u hj => by rw [Nat.zero_add]; exact hj)), (Rd.own hw zM (fun j u hj => by rw [Nat.zero_add]; exact hj))⟩) ?_)
  intro x9 y9
  obtain ⟨pn, ha1, ha2, ha3⟩ := y9
  have hl1 : (dlP (((3 : Nat) : Int) % 12) [200]).length = 1 := by kernel_rfl
  have hpn : pn = 1 := by omega
  subst hpn
  have hx : (if decide (32767 < (exP 2 0 (((3 : Nat) : Int) % 12)).d0 (dlP (((3 : Nat) : Int) % 12) [200]) 1) = true then 0 else (((exP 2 0 (((3 : Nat) : Int) % 12)).raw (dlP (((3 : Nat) : Int) % 12) [200]) 1).1.length : Int)) = 4 := by kernel_rfl
  rw [hx] at ha3
  subst ha3
  refine VL.q (Q.move rfl) ?_
  refine VL.q (Q.extract rfl rfl) ?_
  refine VL.q (Q.extract rfl rfl) ?_
  refine VL.q (Q.assign rfl) ?_
  refine VL.q (Q.assign rfl) ?_
  refine VL.nil ?_
  refine VE.seq ?_
  refine VC.seq ?_
  refine VC.seq ?_
  refine VC.region ?_
  refine VL.q (Q.move rfl) ?_
  refine VL.quietE (v' := .bool false) (by decide) (Q.not rfl) (by rfl) ?_
  refine VL.q (Q.move rfl) ?_
  refine VL.yes rfl rfl ?_
  refine VL.q (Q.move rfl) ?_
  refine VL.yes rfl rfl ?_
  refine VL.quietE (v' := .bool false) (by decide) (Q.ne rfl rfl) (by rfl) ?_
  refine VL.quietE (v' := .bool false) (by decide) (Q.pick_false rfl rfl) (by rfl) ?_
  refine VL.nil ?_
  refine VE.seq ?_
  refine VC.condF rfl ?_
  refine VC.skip ?_
  refine VE.seq ?_
  refine VC.seq ?_
  refine VC.region ?_
  refine VL.q (Q.loadA ty27 rfl zM zS) ?_
  refine VL.eff (O.call0 ok4 rfl rfl (by decide) (vane_c pr po ra lm st bl hl p1 p2 n1 n2 c1 c2 hb1 hb2 hra hpr hpo hlm hst hbl) (fun _ ho _ => ⟨hsub.only ho, hsl.only0 ho, hrb.only0 ho, hrh.only0 ho⟩) ?_)
  intro x20 y20
  refine VL.q (Q.move rfl) ?_
  refine VL.q (Q.extract rfl rfl) ?_
  refine VL.q (Q.extract rfl rfl) ?_
  refine VL.q (Q.assign rfl) ?_
  refine VL.nil ?_
  refine VE.seq ?_
  refine VC.seq ?_
  refine VC.region ?_
  refine VL.q (Q.move rfl) ?_
  refine VL.q (Q.assign rfl) ?_
  refine VL.nil ?_
  refine VE.seq ?_
  refine VC.ret ?_
  refine VE.ret rfl (.tmp rfl .nil) () ?_ ?_ (List.nil_sublist _)
  · trivial
  · first | rfl | (exfalso; simp at *; omega)

end Go.Proofs.YtencghlmckbmlaaDoor
