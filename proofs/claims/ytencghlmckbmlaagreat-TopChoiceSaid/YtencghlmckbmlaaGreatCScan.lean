/- The contracts of package scan: the plan, checking, what a beacon says. Conditions: those that each bears. -/
import Derived.Test.YtencghlmckbmlaaGreatRows
import Derived.Test.YtencghlmckbmlaaGreatScan
import Derived.Test.YtencghlmckbmlaaGreatCRadio
import Derived.Test.YtencghlmckbmlaaGreatCBody
namespace Go.Proofs.YtencghlmckbmlaaGreat
open Go Go.RowKit Go.Sx
set_option maxRecDepth 100000

theorem ar44 : tyArr Tryz.prog 44 = some (6, 5, 1) := by kernel_rfl
theorem fa117_0 : tyField Tryz.prog 117 0 = some 0 := by kernel_rfl
theorem fa117_1 : tyField Tryz.prog 117 1 = some 6 := by kernel_rfl
theorem fa117_2 : tyField Tryz.prog 117 2 = some 7 := by kernel_rfl
theorem fa117_3 : tyField Tryz.prog 117 3 = some 8 := by kernel_rfl
theorem fa117_4 : tyField Tryz.prog 117 4 = some 9 := by kernel_rfl
theorem fa117_5 : tyField Tryz.prog 117 5 = some 10 := by kernel_rfl
theorem fa117_6 : tyField Tryz.prog 117 6 = some 11 := by kernel_rfl
theorem fa117_7 : tyField Tryz.prog 117 7 = some 12 := by kernel_rfl
theorem fa83_0 : tyField Tryz.prog 83 0 = some 0 := by kernel_rfl
theorem lay87 : laysOf Tryz.prog 87 = some ([.int .i64 0, .int .i64 0, .int .i64 0, .bool false], [(0, 1), (1, 1), (2, 1), (3, 1)]) := by kernel_rfl
theorem ok160 : okFunc Tryz.prog 160 = true := by kernel_rfl
theorem ok161 : okFunc Tryz.prog 161 = true := by kernel_rfl
theorem ok206 : okFunc Tryz.prog 206 = true := by kernel_rfl
theorem ok207 : okFunc Tryz.prog 207 = true := by kernel_rfl
theorem ok53 : okFunc Tryz.prog 53 = true := by kernel_rfl
theorem ok54 : okFunc Tryz.prog 54 = true := by kernel_rfl
theorem ok84 : okFunc Tryz.prog 84 = true := by kernel_rfl
theorem ok89 : okFunc Tryz.prog 89 = true := by kernel_rfl
theorem sl75 : tySlice Tryz.prog 75 = some (87, 4, 32) := by kernel_rfl
theorem sl81 : tySlice Tryz.prog 81 = some (117, 13, 72) := by kernel_rfl
theorem ty117 : tySz Tryz.prog 117 = some (true, 13) := by kernel_rfl
theorem ty44 : tySz Tryz.prog 44 = some (true, 6) := by kernel_rfl
theorem ty81 : tySz Tryz.prog 81 = some (false, 1) := by kernel_rfl
theorem ty9 : tySz Tryz.prog 9 = some (false, 1) := by kernel_rfl
theorem ust : Tryz.prog.underlying 9 = some .string := by kernel_rfl
theorem ze117 : (Tryz.prog.info? 117).bind (·.zero) = some (.agg #[.int .u8 0, .int .u8 0, .int .u8 0, .int .u8 0, .int .u8 0, .int .u8 0, .int .i64 0, .int .i64 0, .int .i64 0, .int .i64 0, .int .i64 0, .string ByteArray.empty, .bool false]) := by kernel_rfl
theorem ze87 : (Tryz.prog.info? 87).bind (·.zero) = some (.agg #[.int .i64 0, .int .i64 0, .int .i64 0, .bool false]) := by kernel_rfl
theorem zo117 : tyZero Tryz.prog 117 = some [.int .u8 0, .int .u8 0, .int .u8 0, .int .u8 0, .int .u8 0, .int .u8 0, .int .i64 0, .int .i64 0, .int .i64 0, .int .i64 0, .int .i64 0, .string ByteArray.empty, .bool false] := by kernel_rfl

/-- a candidate, plain; 'a' is the last byte of its address -/
structure Cd where
  a : Nat
  ch : Int
  lv : Int
  ld : Int
  hd : Int
  iv : Int
  nm : ByteArray
  sec : Bool
def cdC (c : Cd) : List Value := [.int .u8 2, .int .u8 0, .int .u8 0, .int .u8 0, .int .u8 1, .int .u8 (c.a : Int), .int .i64 c.ch, .int .i64 c.lv, .int .i64 c.ld, .int .i64 c.hd, .int .i64 c.iv, .string c.nm, .bool c.sec]
theorem cdC_len (c : Cd) : (cdC c).length = 13 := rfl
theorem cdC_one (c : Cd) : (cdC c).all one = true := rfl
structure CdOk (c : Cd) : Prop where
  a : c.a ≤ 255
  ch : 1 ≤ c.ch ∧ c.ch ≤ 64
  lv : -2000 ≤ c.lv ∧ c.lv ≤ 2000
  ld : 0 ≤ c.ld ∧ c.ld ≤ 255
  hd : 0 ≤ c.hd ∧ c.hd ≤ 1099511627776
  iv : 1 ≤ c.iv ∧ c.iv ≤ 65535
  nm : c.nm.size ≤ 32
/-- a table of candidates -/
structure CdsOk (l : List Cd) : Prop where
  ok : ∀ c ∈ l, CdOk c
  srt : ∀ i j (hi : i < l.length) (hj : j < l.length), i < j → l[i].a < l[j].a
theorem cmpN_ge {a b : Nat} (h : a < b) : decide (0 ≤ cmpN a b) = false := by
  unfold cmpN
  rw [if_pos h]
  rfl
theorem cmpN_ge2 (a b : Nat) : decide (0 ≤ cmpN a b) = decide (b ≤ a) := by
  unfold cmpN
  by_cases h : a < b
  · rw [if_pos h, decide_eq_false (by omega : ¬ b ≤ a)]
    rfl
  · rw [if_neg h, decide_eq_true (by omega : b ≤ a)]
    split <;> rfl
theorem ixf_at {α : Type} {l : List α} {pr : α → Bool} {x : Int} (h : IXF l pr x) (k : Nat) (hk : k < l.length) (hp : pr l[k] = true) (hl : ∀ j (hj : j < l.length), j < k → pr l[j] = false) : x = k := by
  rcases h with ⟨_, h⟩ | ⟨i, hi, rfl, hp2, hm⟩
  · rw [h k hk] at hp
    cases hp
  · by_cases h1 : i < k
    · rw [hl i hi h1] at hp2
      cases hp2
    · by_cases h2 : k < i
      · rw [hm k hk h2] at hp
        cases hp
      · omega
def visC : List Value := [.int .i64 1, .int .i64 0, .int .i64 100000, .bool false, .int .i64 2, .int .i64 100000, .int .i64 200000, .bool false, .int .i64 3, .int .i64 200000, .int .i64 300000, .bool false, .int .i64 4, .int .i64 300000, .int .i64 400000, .bool false]
/-- what a beacon's elements say -/
structure Says (els : List El) (nm : List UInt8) (ld : UInt8) (sec : Bool) : Prop where
  len : 2 ≤ els.length ∧ els.length ≤ 3
  id0 : ∀ h : 0 < els.length, els[0].id = 0
  d0 : ∀ h : 0 < els.length, els[0].d = nm
  id1 : ∀ h : 1 < els.length, els[1].id = 11
  d1 : ∀ h : 1 < els.length, els[1].d = [ld]
  id2 : ∀ h : 2 < els.length, els[2].id = 48
  sec : sec = decide (2 < els.length)
theorem Says.ne11 {els : List El} {nm : List UInt8} {ld : UInt8} {sec : Bool} (h : Says els nm ld sec) : ∀ j (hj : j < els.length), j < 1 → els[j].id ≠ 11 := by
  intro j hj h1
  obtain rfl : j = 0 := by omega
  rw [h.id0]
  decide
theorem Says.ne48 {els : List El} {nm : List UInt8} {ld : UInt8} {sec : Bool} (h : Says els nm ld sec) : ∀ j (hj : j < els.length), j < 2 → els[j].id ≠ 48 := by
  intro j hj h1
  rcases (by omega : j = 0 ∨ j = 1) with rfl | rfl
  · rw [h.id0]; decide
  · rw [h.id1]; decide
theorem Says.no48 {els : List El} {nm : List UInt8} {ld : UInt8} {sec : Bool} (h : Says els nm ld sec) (h2 : els.length = 2) : ∀ e ∈ els, e.id ≠ 48 := by
  intro e he
  obtain ⟨j, hj, rfl⟩ := List.getElem_of_mem he
  exact h.ne48 j hj (by omega)

theorem sin_c (x lo hi : Int) (h : lo ≤ x ∧ x ≤ hi) :
  Does Tryz.prog 54 [.int .i64 x, .int .i64 lo, .int .i64 hi] [] (fun _ => True) (X := Unit) (fun _ => True) (fun _ => .bool true) (fun _ => []) := by
 refine Does.enter Tryz.func54 rfl (m := 15) rfl (by simp) ?_
 intro W0 hro
 refine VC.seq ?_
 refine VC.region ?_
 refine VL.q (Q.assign rfl) ?_
 refine VL.nil ?_
 refine VE.seq ?_
 refine VC.seq ?_
 refine VC.region ?_
 refine VL.q (Q.move rfl) ?_
 refine VL.q (Q.move rfl) ?_
 refine VL.quietE (v' := .bool true) (by decide) (Q.ge rfl rfl) (congrArg Value.bool (decide_eq_true (by omega))) ?_
 refine VL.q (Q.move rfl) ?_
 refine VL.yes rfl rfl ?_
 refine VL.q (Q.move rfl) ?_
 refine VL.yes rfl rfl ?_
 refine VL.q (Q.move rfl) ?_
 refine VL.yes rfl rfl ?_
 refine VL.quietE (v' := .bool true) (by decide) (Q.le rfl rfl) (congrArg Value.bool (decide_eq_true (by omega))) ?_
 refine VL.quietE (v' := .bool true) (by decide) (Q.pick_true rfl rfl) (by rfl) ?_
 refine VL.q (Q.assign rfl) ?_
 refine VL.nil ?_
 refine VE.seq ?_
 refine VC.ret ?_
 refine VE.ret rfl (.tmp rfl .nil) () ?_ ?_ (List.nil_sublist _)
 ·
  trivial
 ·
  first | rfl | (exfalso; simp at *; omega)

theorem plan1_c (z : Int) (hz : 1 ≤ z ∧ z ≤ 64) :
  Does Tryz.prog 53 [.int .i64 z] [] (fun _ => True) (X := Unit) (fun _ => True) (fun _ => .bool false) (fun _ => []) := by
 refine Does.enter Tryz.func53 rfl (m := 6) rfl (by simp) ?_
 intro W0 hro
 refine VC.seq ?_
 refine VC.region ?_
 refine VL.q (Q.assign rfl) ?_
 refine VL.nil ?_
 refine VE.seq ?_
 refine VC.seq ?_
 refine VC.region ?_
 refine VL.q (Q.move rfl) ?_
 refine VL.eff (O.call0 ok54 rfl rfl (by decide) (sin_c _ _ _ hz) (fun _ _ _ => trivial) ?_)
 intro x4 y4
 refine VL.quietE (v' := .bool false) (by decide) (Q.not rfl) (by rfl) ?_
 refine VL.q (Q.assign rfl) ?_
 refine VL.nil ?_
 refine VE.seq ?_
 refine VC.ret ?_
 refine VE.ret rfl (.tmp rfl .nil) () ?_ ?_ (List.nil_sublist _)
 ·
  trivial
 ·
  first | rfl | (exfalso; simp at *; omega)

theorem plan_c (gs : Nat) :
  Does Tryz.prog 16 [.slice (some ⟨gs, 0, none⟩) 4 4, .int .i64 0, .int .i64 100000, .bool false] [] (fun W => Rd W (some ⟨gs, 0, none⟩) ([1, 2, 3, 4].flatMap intC)) (X := Option Addr × Nat) (fun _ => True) (fun x => .tuple #[.slice x.1 4 x.2, .int .i64 0]) (fun x => [.row (.slice x.1 4 x.2) 87 4 4 visC]) := by
 refine Does.enter Tryz.func16 rfl (m := 50) rfl (by simp) ?_
 intro W0 hro
 refine VC.seq ?_
 refine VC.region ?_
 refine VL.q (Q.assign rfl) ?_
 refine VL.q (Q.assign rfl) ?_
 refine VL.nil ?_
 refine VE.seq ?_
 refine VC.seq ?_
 refine VC.region ?_
 refine VL.q (Q.assign rfl) ?_
 refine VL.nil ?_
 refine VE.seq ?_
 refine VC.seq ?_
 refine VC.seq ?_
 refine VC.region ?_
 refine VL.q (Q.move rfl) ?_
 refine VL.q (Q.move rfl) ?_
 refine VL.eff (O.call0 ok55 rfl rfl (by decide) (has_int (some ⟨gs, 0, none⟩) 4 4 [1, 2, 3, 4] rfl (by decide) 53 ok53 [] (fun _ => false) (fun _ => True) (fun _ _ _ _ => trivial) (fun q hq => plan1_c q (by simp only [List.mem_cons, List.not_mem_nil, or_false] at hq; rcases hq with rfl | rfl | rfl | rfl <;> decide))) (fun _ ho _ => ⟨hro.only0 ho, trivial⟩) ?_)
 intro x15 y15
 rw [any_no fun _ _ => rfl]
 refine VL.q (Q.move rfl) ?_
 refine VL.yes rfl rfl ?_
 refine VL.q (Q.move rfl) ?_
 refine VL.yes rfl rfl ?_
 refine VL.eff (O.call0 ok54 rfl rfl (by decide) (sin_c _ _ _ (by decide)) (fun _ _ _ => trivial) ?_)
 intro x18 y18
 refine VL.yes rfl rfl ?_
 refine VL.quietE (v' := .bool false) (by decide) (Q.not rfl) (by rfl) ?_
 refine VL.quietE (v' := .bool false) (by decide) (Q.pick_false rfl rfl) (by rfl) ?_
 refine VL.q (Q.move rfl) ?_
 refine VL.yes rfl rfl ?_
 refine VL.q (Q.move rfl) ?_
 refine VL.yes rfl rfl ?_
 refine VL.eff (O.call0 ok54 rfl rfl (by decide) (sin_c _ _ _ (by decide)) (fun _ _ _ => trivial) ?_)
 intro x23 y23
 refine VL.yes rfl rfl ?_
 refine VL.quietE (v' := .bool false) (by decide) (Q.not rfl) (by rfl) ?_
 refine VL.quietE (v' := .bool false) (by decide) (Q.pick_false rfl rfl) (by rfl) ?_
 refine VL.nil ?_
 refine VE.seq ?_
 refine VC.condF rfl ?_
 refine VC.skip ?_
 refine VE.seq ?_
 refine VC.seq ?_
 refine VC.seq ?_
 refine VC.region ?_
 refine VL.q (Q.move rfl) ?_
 refine VL.q (Q.len sl78 rfl) ?_
 refine VL.quietE (v' := .bool false) (by decide) (Q.gt rfl rfl) (by rfl) ?_
 refine VL.nil ?_
 refine VE.seq ?_
 refine VC.condF rfl ?_
 refine VC.skip ?_
 refine VE.seq ?_
 refine VC.seq ?_
 refine VC.seq ?_
 refine VC.region ?_
 refine VL.q (Q.move rfl) ?_
 refine VK.addNil 87 4 ?_
 refine VL.q (Q.len sl78 rfl) ?_
 refine VL.q (Q.move rfl) ?_
 refine VL.nil ?_
 refine VE.seq ?_
 refine VC.block ?_
 refine VC.rounds 8 ?_
 refine VC.rnd (m := 7) ?_
 refine VC.seq ?_
 refine VC.region ?_
 refine VL.q (Q.lt rfl rfl) ?_
 refine VL.nil ?_
 refine VE.seq ?_
 refine VC.seq ?_
 refine VC.condT rfl ?_
 refine VC.skip ?_
 refine VE.seq ?_
 refine VC.seq ?_
 refine VC.block ?_
 refine VC.seq ?_
 refine VC.region ?_
 refine VL.q (Q.indexAddr sl78 (j := 0) rfl rfl rfl (by omega)) ?_
 refine VL.q (Q.load0 ty3 rfl (Rd.at (j := 0) hro rfl) (by simp)) ?_
 refine VL.q (Q.assign rfl) ?_
 refine VL.nil ?_
 refine VE.seq ?_
 refine VC.seq ?_
 refine VC.region ?_
 refine VL.q (Q.move rfl) ?_
 refine VL.q (Q.move rfl) ?_
 refine VL.q (Q.move rfl) ?_
 refine VL.q (Q.move rfl) ?_
 refine VL.q (Q.move rfl) ?_
 refine VL.quietE (v' := .int .i64 100000) (by decide) ((by first | exact Q.addI rfl rfl (by omega) (by omega) | exact Q.add rfl rfl)) (by rfl) ?_
 refine VL.q (Q.move rfl) ?_
 refine VL.q (Q.build lay87 zF) ?_
 refine VL.eff (O.buildSlice sl75 ze87 (by decide) zF (by decide) ?_)
 intro g43
 refine VL.eff (O.appendS sl75 ze87 rfl (by decide) rfl rfl zM zS rfl (by decide) (by unfold maxLen; omega) (by omega) zA ?_)
 intro p44 c44 hc44
 refine VL.q (Q.assign rfl) ?_
 refine VL.nil ?_
 refine VE.seq ?_
 refine VK.keep (by exact .cons (i := 1) rfl (.cons (i := 2) rfl (.cons (i := 3) rfl (.cons (i := 8) rfl (.cons (i := 9) rfl (.cons (i := 12) rfl (.cons (i := 29) rfl (.cons (i := 30) rfl (.cons (i := 31) rfl (.cons (i := 32) rfl (.cons (i := 33) rfl (.cons (i := 34) rfl (.cons (i := 35) rfl (.cons (i := 36) rfl (.cons (i := 37) rfl (.cons (i := 38) rfl (.cons (i := 39) rfl (.cons (i := 40) rfl (.cons (i := 41) rfl (.cons (i := 42) rfl (.cons (i := 43) rfl (.cons (i := 44) rfl ( .nil))))))))))))))))))))))) ?_
 refine VC.region ?_
 refine VL.q (Q.move rfl) ?_
 refine VL.q (Q.move rfl) ?_
 refine VL.quietE (v' := .int .i64 100000) (by decide) ((by first | exact Q.addI rfl rfl (by omega) (by omega) | exact Q.add rfl rfl)) (by rfl) ?_
 refine VL.q (Q.assign rfl) ?_
 refine VL.nil ?_
 refine VE.block_normal ?_
 refine VE.seq ?_
 refine VC.region ?_
 refine VL.quietE (v' := .int .i64 1) (by decide) ((by first | exact Q.addI rfl rfl (by omega) (by omega) | exact Q.add rfl rfl)) (by rfl) ?_
 refine VL.q (Q.move rfl) ?_
 refine VL.nil ?_
 refine VE.then_normal ?_
 refine VC.rnd (m := 6) ?_
 refine VC.seq ?_
 refine VC.region ?_
 refine VL.q (Q.lt rfl rfl) ?_
 refine VL.nil ?_
 refine VE.seq ?_
 refine VC.seq ?_
 refine VC.condT rfl ?_
 refine VC.skip ?_
 refine VE.seq ?_
 refine VC.seq ?_
 refine VC.block ?_
 refine VC.seq ?_
 refine VC.region ?_
 refine VL.q (Q.indexAddr sl78 (j := 1) rfl rfl rfl (by omega)) ?_
 refine VL.q (Q.load0 ty3 rfl (Rd.at (j := 1) hro rfl) (by simp)) ?_
 refine VL.q (Q.assign rfl) ?_
 refine VL.nil ?_
 refine VE.seq ?_
 refine VC.seq ?_
 refine VC.region ?_
 refine VL.q (Q.move rfl) ?_
 refine VL.q (Q.move rfl) ?_
 refine VL.q (Q.move rfl) ?_
 refine VL.q (Q.move rfl) ?_
 refine VL.q (Q.move rfl) ?_
 refine VL.quietE (v' := .int .i64 200000) (by decide) ((by first | exact Q.addI rfl rfl (by omega) (by omega) | exact Q.add rfl rfl)) (by rfl) ?_
 refine VL.q (Q.move rfl) ?_
 refine VL.q (Q.build lay87 zF) ?_
 refine VL.eff (O.buildSlice sl75 ze87 (by decide) zF (by decide) ?_)
 intro g43_1
 refine VL.eff (O.appendS sl75 ze87 rfl (by decide) rfl rfl zM zS rfl (by decide) (by unfold maxLen; omega) (by omega) zA ?_)
 intro p44_1 c44_1 hc44_1
 refine VL.q (Q.assign rfl) ?_
 refine VL.nil ?_
 refine VE.seq ?_
 refine VC.region ?_
 refine VL.q (Q.move rfl) ?_
 refine VL.q (Q.move rfl) ?_
 refine VL.quietE (v' := .int .i64 200000) (by decide) ((by first | exact Q.addI rfl rfl (by omega) (by omega) | exact Q.add rfl rfl)) (by rfl) ?_
 refine VL.q (Q.assign rfl) ?_
 refine VL.nil ?_
 refine VE.block_normal ?_
 refine VE.seq ?_
 refine VC.region ?_
 refine VL.quietE (v' := .int .i64 2) (by decide) ((by first | exact Q.addI rfl rfl (by omega) (by omega) | exact Q.add rfl rfl)) (by rfl) ?_
 refine VL.q (Q.move rfl) ?_
 refine VL.nil ?_
 refine VE.then_normal ?_
 refine VC.rnd (m := 5) ?_
 refine VC.seq ?_
 refine VC.region ?_
 refine VL.q (Q.lt rfl rfl) ?_
 refine VL.nil ?_
 refine VE.seq ?_
 refine VC.seq ?_
 refine VC.condT rfl ?_
 refine VC.skip ?_
 refine VE.seq ?_
 refine VC.seq ?_
 refine VC.block ?_
 refine VC.seq ?_
 refine VC.region ?_
 refine VL.q (Q.indexAddr sl78 (j := 2) rfl rfl rfl (by omega)) ?_
 refine VL.q (Q.load0 ty3 rfl (Rd.at (j := 2) hro rfl) (by simp)) ?_
 refine VL.q (Q.assign rfl) ?_
 refine VL.nil ?_
 refine VE.seq ?_
 refine VC.seq ?_
 refine VC.region ?_
 refine VL.q (Q.move rfl) ?_
 refine VL.q (Q.move rfl) ?_
 refine VL.q (Q.move rfl) ?_
 refine VL.q (Q.move rfl) ?_
 refine VL.q (Q.move rfl) ?_
 refine VL.quietE (v' := .int .i64 300000) (by decide) ((by first | exact Q.addI rfl rfl (by omega) (by omega) | exact Q.add rfl rfl)) (by rfl) ?_
 refine VL.q (Q.move rfl) ?_
 refine VL.q (Q.build lay87 zF) ?_
 refine VL.eff (O.buildSlice sl75 ze87 (by decide) zF (by decide) ?_)
 intro g43_2
 refine VL.eff (O.appendS sl75 ze87 rfl (by decide) rfl rfl zM zS rfl (by decide) (by unfold maxLen; omega) (by omega) zA ?_)
 intro p44_2 c44_2 hc44_2
 refine VL.q (Q.assign rfl) ?_
 refine VL.nil ?_
 refine VE.seq ?_
 refine VC.region ?_
 refine VL.q (Q.move rfl) ?_
 refine VL.q (Q.move rfl) ?_
 refine VL.quietE (v' := .int .i64 300000) (by decide) ((by first | exact Q.addI rfl rfl (by omega) (by omega) | exact Q.add rfl rfl)) (by rfl) ?_
 refine VL.q (Q.assign rfl) ?_
 refine VL.nil ?_
 refine VE.block_normal ?_
 refine VE.seq ?_
 refine VC.region ?_
 refine VL.quietE (v' := .int .i64 3) (by decide) ((by first | exact Q.addI rfl rfl (by omega) (by omega) | exact Q.add rfl rfl)) (by rfl) ?_
 refine VL.q (Q.move rfl) ?_
 refine VL.nil ?_
 refine VE.then_normal ?_
 refine VC.rnd (m := 4) ?_
 refine VC.seq ?_
 refine VC.region ?_
 refine VL.q (Q.lt rfl rfl) ?_
 refine VL.nil ?_
 refine VE.seq ?_
 refine VC.seq ?_
 refine VC.condT rfl ?_
 refine VC.skip ?_
 refine VE.seq ?_
 refine VC.seq ?_
 refine VC.block ?_
 refine VC.seq ?_
 refine VC.region ?_
 refine VL.q (Q.indexAddr sl78 (j := 3) rfl rfl rfl (by omega)) ?_
 refine VL.q (Q.load0 ty3 rfl (Rd.at (j := 3) hro rfl) (by simp)) ?_
 refine VL.q (Q.assign rfl) ?_
 refine VL.nil ?_
 refine VE.seq ?_
 refine VC.seq ?_
 refine VC.region ?_
 refine VL.q (Q.move rfl) ?_
 refine VL.q (Q.move rfl) ?_
 refine VL.q (Q.move rfl) ?_
 refine VL.q (Q.move rfl) ?_
 refine VL.q (Q.move rfl) ?_
 refine VL.quietE (v' := .int .i64 400000) (by decide) ((by first | exact Q.addI rfl rfl (by omega) (by omega) | exact Q.add rfl rfl)) (by rfl) ?_
 refine VL.q (Q.move rfl) ?_
 refine VL.q (Q.build lay87 zF) ?_
 refine VL.eff (O.buildSlice sl75 ze87 (by decide) zF (by decide) ?_)
 intro g43_3
 refine VL.eff (O.appendS sl75 ze87 rfl (by decide) rfl rfl zM zS rfl (by decide) (by unfold maxLen; omega) (by omega) zA ?_)
 intro p44_3 c44_3 hc44_3
 refine VL.q (Q.assign rfl) ?_
 refine VL.nil ?_
 refine VE.seq ?_
 refine VC.region ?_
 refine VL.q (Q.move rfl) ?_
 refine VL.q (Q.move rfl) ?_
 refine VL.quietE (v' := .int .i64 400000) (by decide) ((by first | exact Q.addI rfl rfl (by omega) (by omega) | exact Q.add rfl rfl)) (by rfl) ?_
 refine VL.q (Q.assign rfl) ?_
 refine VL.nil ?_
 refine VE.block_normal ?_
 refine VE.seq ?_
 refine VC.region ?_
 refine VL.quietE (v' := .int .i64 4) (by decide) ((by first | exact Q.addI rfl rfl (by omega) (by omega) | exact Q.add rfl rfl)) (by rfl) ?_
 refine VL.q (Q.move rfl) ?_
 refine VL.nil ?_
 refine VE.then_normal ?_
 refine VC.rnd (m := 3) ?_
 refine VC.seq ?_
 refine VC.region ?_
 refine VL.q (Q.lt rfl rfl) ?_
 refine VL.nil ?_
 refine VE.seq ?_
 refine VC.seq ?_
 refine VC.condF rfl ?_
 refine VC.exit ?_
 refine VE.then_exit ?_
 refine VE.then_exit ?_
 refine VE.block_here ?_
 refine VE.seq ?_
 refine VC.seq ?_
 refine VC.region ?_
 refine VL.q (Q.move rfl) ?_
 refine VL.q (Q.assign rfl) ?_
 refine VL.q (Q.assign rfl) ?_
 refine VL.nil ?_
 refine VE.seq ?_
 refine VC.ret ?_
 exact VE.ret rfl (.tmp rfl (.tmp rfl .nil)) (p44_3, c44_3) trivial rfl zB

theorem ext_compare (args : Array Value) (W : World) : (callFunc 208 args).run Tryz.prog W = ((Extern.BytealgCompare.compare args).run Tryz.prog W).andThen fun v w' => .ok (.value v) w' :=
  run_callFunc_extern Tryz.func208 (by kernel_rfl) (by kernel_rfl) (by kernel_rfl) (e := Extern.BytealgCompare.compare) (by kernel_rfl) args W

theorem bcompare_c (g g2 a b : Nat) (ha : a ≤ 255) (hb : b ≤ 255) :
  Does Tryz.prog 161 [.slice (some ⟨g, 0, none⟩) 6 6, .slice (some ⟨g2, 0, none⟩) 6 6] [] (fun W => Rd W (some ⟨g, 0, none⟩) (nodeC a) ∧ Rd W (some ⟨g2, 0, none⟩) (nodeC b)) (X := Unit) (fun _ => True) (fun _ => .int .i64 (cmpN a b)) (fun _ => []) := by
 refine Does.enter Tryz.func161 rfl (m := 8) rfl (by simp) ?_
 intro W0 hro
 refine VC.seq ?_
 refine VC.region ?_
 refine VL.q (Q.assign rfl) ?_
 refine VL.nil ?_
 refine VE.seq ?_
 refine VC.seq ?_
 refine VC.region ?_
 refine VL.q (Q.move rfl) ?_
 refine VL.q (Q.move rfl) ?_
 refine VL.q (Q.ext (v := .int .i64 (cmpN a b)) rfl rfl (fun W ho _ => by
  have h1 := hro.1.only0 ho
  have h2 := hro.2.only0 ho
  rw [← nodeB_bs a ha] at h1
  rw [← nodeB_bs b hb] at h2
  have h3 := run_compare (P := Tryz.prog) (nodeB a) (nodeB b) g 0 g2 0 6 6 h1 h2
  rw [compare_node a b ha hb] at h3
  have h4 : (nodeB a).length = 6 := rfl
  have h5 : (nodeB b).length = 6 := rfl
  rw [h4, h5] at h3
  simp only [ext_compare, h3, Result.andThen_ok])) ?_
 refine VL.q (Q.assign rfl) ?_
 refine VL.nil ?_
 refine VE.seq ?_
 refine VC.ret ?_
 refine VE.ret rfl (.tmp rfl .nil) () ?_ ?_ (List.nil_sublist _)
 ·
  trivial
 ·
  first | rfl | (exfalso; simp at *; omega)

theorem scompare_c (a b : Nat) (ha : a ≤ 255) (hb : b ≤ 255) :
  Does Tryz.prog 89 [.agg #[.int .u8 2, .int .u8 0, .int .u8 0, .int .u8 0, .int .u8 1, .int .u8 (a : Int)], .agg #[.int .u8 2, .int .u8 0, .int .u8 0, .int .u8 0, .int .u8 1, .int .u8 (b : Int)]] [] (fun _ => True) (X := Unit) (fun _ => True) (fun _ => .int .i64 (cmpN a b)) (fun _ => []) := by
 refine Does.enter Tryz.func89 rfl (m := 8) rfl (by simp) ?_
 intro W0 hro
 refine VC.seq ?_
 refine VC.region ?_
 refine VL.eff (O.box rfl rfl (by decide) ?_)
 intro g2
 refine VL.eff (O.box rfl rfl (by decide) ?_)
 intro g3
 refine VL.q (Q.assign rfl) ?_
 refine VL.nil ?_
 refine VE.seq ?_
 refine VC.seq ?_
 refine VA.start (Ls := []) (Cs := []) mixed ?_
 refine VA.tk 0 rfl (zt ze) (List.nil_sublist _) Cells.nil (Quiet.c (Q.slcA0 ar44 (h := _) rfl rfl (by omega))) ?_
 refine VA.tk 1 rfl (zt ze) (List.nil_sublist _) Cells.nil (Quiet.c (Q.slcA0 ar44 (h := _) rfl rfl (by omega))) ?_
 refine VA.all (rs := [2]) (by kernel_rfl) (by simp) ?_
 refine VA.forall1 ?_
 ·
  refine VA.eff rfl ?_
  refine id (O.call0 ok161 rfl rfl (by decide) (bcompare_c g2 g3 a b ha hb) (fun _ _ hw => ⟨Rd.seg (k := 6) hw zM zS, Rd.seg (k := 6) hw zM zS⟩) ?_)
  intro x7 y7
  refine VA.next (List.nil_sublist _) Cells.nil ?_
  refine VA.tk 3 rfl (zt ze) (List.nil_sublist _) Cells.nil (Quiet.c (Q.assign rfl)) ?_
  refine VA.done (by kernel_rfl) ?_
  refine VE.seq ?_
  refine VC.ret ?_
  refine VE.ret rfl (.tmp rfl .nil) () ?_ ?_ (List.nil_sublist _)
  ·
   trivial
  ·
   first | rfl | (exfalso; simp at *; omega)

theorem clone_cand (p : Option Addr) (n c : Nat) (xs : List Value) (hl : xs.length = n * 13) (h1 : xs.all one = true) (hn : n ≤ 100000) :
  Does Tryz.prog 86 [.slice p n c] [] (fun W => Rd W p xs) (X := Option Addr × Nat) (fun x => n ≤ x.2) (fun x => .slice x.1 n x.2) (fun x => [.row (.slice x.1 n x.2) 117 13 n xs]) := by
 refine Does.enter Tryz.func86 rfl (m := 8) rfl (by simp) ?_
 intro W0 hro
 refine VC.seq ?_
 refine VC.region ?_
 refine VL.q (Q.assign rfl) ?_
 refine VL.nil ?_
 refine VE.seq ?_
 rcases p with _ | q
 ·
  have hx : xs = [] := by
   cases xs with
   | nil => rfl
   | cons u us =>
    obtain ⟨_, _, e, _⟩ := hro 0 u rfl
    cases e
  subst hx
  have hn0 : n = 0 := by simp at hl; omega
  subst hn0
  refine VK.addNil 117 13 ?_
  refine VC.seq ?_
  refine VC.seq ?_
  refine VC.region ?_
  refine VL.q (Q.move rfl) ?_
  refine VL.quietE (v' := .bool true) (by decide) (Q.eqNil sl81 rfl rfl rfl) (by rfl) ?_
  refine VL.nil ?_
  refine VE.seq ?_
  refine VC.condT rfl ?_
  refine VC.seq ?_
  refine VC.region ?_
  refine VL.q (Q.assign rfl) ?_
  refine VL.nil ?_
  refine VE.seq ?_
  refine VC.ret ?_
  refine VE.then_ret ?_
  exact VE.ret rfl (.tmp rfl .nil) (none, 0) (Nat.le_refl _) rfl zB
 ·
  refine VC.seq ?_
  refine VC.seq ?_
  refine VC.region ?_
  refine VL.q (Q.move rfl) ?_
  refine VL.quietE (v' := .bool false) (by decide) (Q.eqNil sl81 rfl rfl rfl) (by rfl) ?_
  refine VL.nil ?_
  refine VE.seq ?_
  refine VC.condF rfl ?_
  refine VC.skip ?_
  refine VE.seq ?_
  refine VC.seq ?_
  refine VC.region ?_
  refine VL.eff (O.buildSlice0 sl81 (by decide) ?_)
  intro g5
  refine VK.toRow (g := g5) (s := 13) (m := 0) (c := 0) zU rfl (by omega) (by unfold maxLen; omega) ?_
  refine VL.q (Q.move rfl) ?_
  refine VL.eff (O.append sl81 ze117 rfl (by decide) rfl rfl hl h1 (by decide) (by unfold maxLen; omega) (by rw [Nat.zero_add]; omega) zA (fun _ ho _ => hro.only0 ho) ?_)
  intro p7 c7 hc7
  rw [Nat.zero_add]
  refine VL.q (Q.assign rfl) ?_
  refine VL.nil ?_
  refine VE.seq ?_
  refine VC.ret ?_
  exact VE.ret rfl (.tmp rfl .nil) (p7, c7) (by simpa using hc7) rfl zB

theorem svalid_c (c : Cd) (hc : CdOk c) :
  Does Tryz.prog 84 [.agg #[.int .u8 2, .int .u8 0, .int .u8 0, .int .u8 0, .int .u8 1, .int .u8 (c.a : Int), .int .i64 c.ch, .int .i64 c.lv, .int .i64 c.ld, .int .i64 c.hd, .int .i64 c.iv, .string c.nm, .bool c.sec]] [] (fun _ => True) (X := Unit) (fun _ => True) (fun _ => .bool true) (fun _ => []) := by
 refine Does.enter Tryz.func84 rfl (m := 32) rfl (by simp) ?_
 intro W0 hro
 refine VC.seq ?_
 refine VC.region ?_
 refine VL.eff (O.box rfl rfl (by decide) ?_)
 intro g1
 refine VL.q (Q.assign rfl) ?_
 refine VL.nil ?_
 refine VE.seq ?_
 refine VC.seq ?_
 refine VC.region ?_
 refine VL.q (Q.fieldAddr fa117_1 rfl) ?_
 refine VL.q (Q.load1 ty3 rfl zM rfl) ?_
 refine VL.eff (O.call0 ok54 rfl rfl (by decide) (sin_c _ _ _ hc.ch) (fun _ _ _ => trivial) ?_)
 intro x5 y5
 refine VL.q (Q.move rfl) ?_
 refine VL.yes rfl rfl ?_
 refine VL.q (Q.fieldAddr fa117_2 rfl) ?_
 refine VL.yes rfl rfl ?_
 refine VL.q (Q.load1 ty3 rfl zM rfl) ?_
 refine VL.yes rfl rfl ?_
 refine VL.eff (O.call0 ok54 rfl rfl (by decide) (sin_c _ _ _ hc.lv) (fun _ _ _ => trivial) ?_)
 intro x9 y9
 refine VL.quietE (v' := .bool true) (by decide) (Q.pick_true rfl rfl) (by rfl) ?_
 refine VL.q (Q.move rfl) ?_
 refine VL.yes rfl rfl ?_
 refine VL.q (Q.fieldAddr fa117_3 rfl) ?_
 refine VL.yes rfl rfl ?_
 refine VL.q (Q.load1 ty3 rfl zM rfl) ?_
 refine VL.yes rfl rfl ?_
 refine VL.eff (O.call0 ok54 rfl rfl (by decide) (sin_c _ _ _ hc.ld) (fun _ _ _ => trivial) ?_)
 intro x14 y14
 refine VL.quietE (v' := .bool true) (by decide) (Q.pick_true rfl rfl) (by rfl) ?_
 refine VL.q (Q.move rfl) ?_
 refine VL.yes rfl rfl ?_
 refine VL.q (Q.fieldAddr fa117_4 rfl) ?_
 refine VL.yes rfl rfl ?_
 refine VL.q (Q.load1 ty3 rfl zM rfl) ?_
 refine VL.yes rfl rfl ?_
 refine VL.eff (O.call0 ok54 rfl rfl (by decide) (sin_c _ _ _ hc.hd) (fun _ _ _ => trivial) ?_)
 intro x19 y19
 refine VL.quietE (v' := .bool true) (by decide) (Q.pick_true rfl rfl) (by rfl) ?_
 refine VL.q (Q.move rfl) ?_
 refine VL.yes rfl rfl ?_
 refine VL.q (Q.fieldAddr fa117_5 rfl) ?_
 refine VL.yes rfl rfl ?_
 refine VL.q (Q.load1 ty3 rfl zM rfl) ?_
 refine VL.yes rfl rfl ?_
 refine VL.eff (O.call0 ok54 rfl rfl (by decide) (sin_c _ _ _ hc.iv) (fun _ _ _ => trivial) ?_)
 intro x24 y24
 refine VL.quietE (v' := .bool true) (by decide) (Q.pick_true rfl rfl) (by rfl) ?_
 refine VL.q (Q.move rfl) ?_
 refine VL.yes rfl rfl ?_
 refine VL.q (Q.fieldAddr fa117_6 rfl) ?_
 refine VL.yes rfl rfl ?_
 refine VL.q (Q.load1 ty9 rfl zM rfl) ?_
 refine VL.yes rfl rfl ?_
 refine VL.q (Q.lenStr ust rfl) ?_
 refine VL.yes rfl rfl ?_
 refine VL.quietE (v' := .bool true) (by decide) (Q.le rfl rfl) (congrArg Value.bool (decide_eq_true (by have := hc.nm; omega))) ?_
 refine VL.quietE (v' := .bool true) (by decide) (Q.pick_true rfl rfl) (by rfl) ?_
 refine VL.q (Q.assign rfl) ?_
 refine VL.nil ?_
 refine VE.seq ?_
 refine VC.ret ?_
 refine VE.ret rfl (.tmp rfl .nil) () ?_ ?_ (List.nil_sublist _)
 ·
  trivial
 ·
  first | rfl | (exfalso; simp at *; omega)

theorem scheck_c (p : Option Addr) (n c : Nat) (l : List Cd) (hl : l.length = n) (hn : n ≤ 60) (hok : CdsOk l) :
  Does Tryz.prog 83 [.agg #[.slice p n c]] [] (fun W => Rd W p (l.flatMap cdC)) (X := Unit) (fun _ => True) (fun _ => .int .i64 0) (fun _ => []) := by
 subst hl
 refine Does.enter Tryz.func83 rfl (m := 38) rfl (by simp) ?_
 intro W0 hro
 refine VC.seq ?_
 refine VC.region ?_
 refine VL.eff (O.box rfl rfl (by decide) ?_)
 intro g1
 refine VL.q (Q.assign rfl) ?_
 refine VL.nil ?_
 refine VE.seq ?_
 refine VC.seq ?_
 refine VC.seq ?_
 refine VC.region ?_
 refine VL.q (Q.fieldAddr fa83_0 rfl) ?_
 refine VL.q (Q.load1 ty81 rfl zM rfl) ?_
 refine VL.q (Q.len sl81 rfl) ?_
 refine VL.quietE (v' := .bool false) (by decide) (Q.gt rfl rfl) (congrArg Value.bool (decide_eq_false (by omega))) ?_
 refine VL.nil ?_
 refine VE.seq ?_
 refine VC.condF rfl ?_
 refine VC.skip ?_
 refine VE.seq ?_
 refine VC.seq ?_
 refine VC.seq ?_
 refine VC.region ?_
 refine VL.q (Q.fieldAddr fa83_0 rfl) ?_
 refine VL.q (Q.load1 ty81 rfl zM rfl) ?_
 refine VL.q (Q.len sl81 rfl) ?_
 refine VL.q (Q.move rfl) ?_
 refine VL.nil ?_
 refine VE.seq ?_
 refine VC.block ?_
 refine VC.loop (X := Nat) (fun k => [(1, .pointer (some ⟨g1, 0, none⟩)), (10, .slice p l.length c), (11, .int .i64 (l.length : Int)), (12, .int .i64 (k : Int)), (2, .int .i64 0)]) (fun k => [.blk g1 [.slice p l.length c] 83]) (fun k => k ≤ l.length) (fun k => l.length - k) 0 (Nat.zero_le _) ?_ ?_
 ·
  exact VS.mk zE (List.Sublist.refl _)
 ·
  intro k hk
  refine VC.seq ?_
  refine VC.region ?_
  refine VL.q (Q.lt rfl rfl) ?_
  refine VL.nil ?_
  refine VE.seq ?_
  refine VC.seq ?_
  refine VC.cond rfl ?_ ?_
  ·
   intro h13
   have hlt : k < l.length := by have := of_decide_eq_true h13; omega
   obtain ⟨b0, o0, rfl⟩ := hro.pos (by rw [fm_length cdC_len]; omega)
   have hck := hok.ok _ (List.getElem_mem hlt)
   refine VC.skip ?_
   refine VE.seq ?_
   refine VC.seq ?_
   refine VC.block ?_
   refine VC.seq ?_
   refine VC.region ?_
   refine VL.q (Q.move rfl) ?_
   refine VL.q (Q.indexAddr sl81 (j := k) rfl rfl rfl hlt) ?_
   refine VL.q (Q.load0A (xs := cdC l[k]) ty117 rfl (Rd.sg hro (fm_seg cdC_len l k hlt)) (by simp)) ?_
   refine VL.eff (O.alloc zo117 (by decide) ?_)
   intro g4
   refine VL.q (Q.assign rfl) ?_
   refine VL.eff (O.store ty117 rfl rfl rfl rfl zU zP ?_)
   refine VL.nil ?_
   refine VE.seq ?_
   refine VC.seqJ (X := Unit) (fun z => [(1, .pointer (some ⟨g1, 0, none⟩)), (10, .slice (some ⟨b0, o0, none⟩) l.length c), (11, .int .i64 (l.length : Int)), (12, .int .i64 (k : Int)), (2, .int .i64 0), (36, .bool false)]) (fun z => [.blk g1 [.slice (some ⟨b0, o0, none⟩) l.length c] 83]) (fun z => True) ?_ ?_
   ·
    refine VA.start (Ls := [.blk g4 [.int .u8 2, .int .u8 0, .int .u8 0, .int .u8 0, .int .u8 1, .int .u8 (l[k].a : Int), .int .i64 l[k].ch, .int .i64 l[k].lv, .int .i64 l[k].ld, .int .i64 l[k].hd, .int .i64 l[k].iv, .string l[k].nm, .bool l[k].sec] 117, .blk g1 [.slice (some ⟨b0, o0, none⟩) l.length c] 83]) (Cs := []) mixed ?_
    refine VA.tk 0 rfl (zt (zb (zttb (zt ze)))) zB Cells.nil (Quiet.c (Q.loadA ty117 rfl zM zS)) ?_
    refine VA.all (rs := [1]) (by kernel_rfl) (by simp) ?_
    refine VA.forall1 ?_
    ·
     refine VA.eff rfl ?_
     refine id (O.call0 ok84 rfl rfl (by decide) (svalid_c l[k] hck) (fun _ _ _ => trivial) ?_)
     intro x18 y18
     refine VA.next zB Cells.nil ?_
     refine VA.tk 2 rfl (zt (zb (zttb (zt ze)))) zB Cells.nil (Quiet.c (Q.not rfl)) ?_
     refine VA.tk 3 rfl (zt (zb (zttb (zt ze)))) zB Cells.nil (Quiet.c (Q.move rfl)) ?_
     refine VA.tkY 4 rfl (zt (zb (zttb (zt ze)))) zB Cells.nil (Quiet.c (Q.move rfl)) ?_
     refine VA.tkY 5 rfl (zt (zb (zttb (zt ze)))) zB Cells.nil (Quiet.c (Q.gt rfl rfl)) ?_
     refine VA.tkY 6 rfl (zt (zb (zttb (zt ze)))) zB Cells.nil (Quiet.c (Q.move rfl)) ?_
     refine VK.case 23 rfl ?_ ?_
     ·
      intro h23
      have hk0 : k ≠ 0 := by have := of_decide_eq_true h23; omega
      refine VA.tkY 7 rfl (zt (zb (zttb (zt ze)))) zB Cells.nil (Quiet.c (Q.fieldAddr fa83_0 rfl)) ?_
      refine VA.tkY 8 rfl (zt (zb (zttb (zt ze)))) zB Cells.nil (Quiet.c (Q.load1 ty81 rfl zM rfl)) ?_
      refine VA.tkY 9 rfl (zt (zb (zttb (zt ze)))) zB Cells.nil (Quiet.c (Q.move rfl)) ?_
      refine VA.tkY 10 rfl (zt (zb (zttb (zt ze)))) zB Cells.nil (Quiet.c (Quiet.to (v' := .int .i64 ((k - 1 : Nat) : Int)) ((by first | exact Q.subI rfl rfl (by omega) (by omega) | exact Q.sub rfl rfl)) (congrArg (Value.int .i64) (by omega)))) ?_
      refine VA.tkY 11 rfl (zt (zb (zttb (zt ze)))) zB Cells.nil (Quiet.c (Q.indexAddr sl81 (j := (k - 1)) rfl rfl rfl (by omega))) ?_
      refine VA.tkY 12 rfl (zt (zb (zttb (zt ze)))) zB Cells.nil (Quiet.c (Q.fieldAddr fa117_0 rfl)) ?_
      refine VA.tkY 13 rfl (zt (zb (zttb (zt ze)))) zB Cells.nil (Quiet.c (Q.load0A (xs := nodeC l[k - 1].a) ty44 rfl (Rd.sg2 hro (fm_sub cdC_len l (k - 1) (by omega) (o := 0) (ys := nodeC l[k - 1].a) zS)) (by simp))) ?_
      refine VA.tkY 14 rfl (zt (zb (zttb (zt ze)))) zB Cells.nil (Quiet.c (Q.fieldAddr fa117_0 rfl)) ?_
      refine VA.tkY 15 rfl (zt (zb (zttb (zt ze)))) zB Cells.nil (Quiet.c (Q.loadA ty44 rfl zM zS)) ?_
      refine VA.all (rs := [16]) (by kernel_rfl) (by simp) ?_
      refine VA.forall1 ?_
      ·
       refine VA.effY rfl rfl rfl ?_
       refine id (O.call0 ok89 rfl rfl (by decide) (scompare_c l[k - 1].a l[k].a (hok.ok _ (List.getElem_mem _)).a hck.a) (fun _ _ _ => trivial) ?_)
       intro x33 y33
       refine VA.next zB Cells.nil ?_
       refine VA.tkY 17 rfl (zt (zb (zttb (zt ze)))) zB Cells.nil (Quiet.c (Quiet.to (v' := .bool false) (Q.ge rfl rfl) (congrArg Value.bool (cmpN_ge (hok.srt (k - 1) k (by omega) hlt (by omega)))))) ?_
       refine VA.tkY 18 rfl (zt (zb (zttb (zt ze)))) zB Cells.nil (Quiet.c (Q.pick_true rfl rfl)) ?_
       refine VA.tk 19 rfl (zt (zb (zttb (zt ze)))) zB Cells.nil (Quiet.c (Q.pick_false rfl rfl)) ?_
       refine VA.done (by kernel_rfl) ?_
       refine VE.then_normal ?_
       exact VE.meetP () trivial zE zM2
     ·
      intro h23
      refine VA.tkN 7 (.inl rfl) (zt (zb (zttb (zt ze)))) zB Cells.nil ?_
      refine VA.tkN 8 (.inl rfl) (zt (zb (zttb (zt ze)))) zB Cells.nil ?_
      refine VA.tkN 9 (.inl rfl) (zt (zb (zttb (zt ze)))) zB Cells.nil ?_
      refine VA.tkN 10 (.inl rfl) (zt (zb (zttb (zt ze)))) zB Cells.nil ?_
      refine VA.tkN 11 (.inl rfl) (zt (zb (zttb (zt ze)))) zB Cells.nil ?_
      refine VA.tkN 12 (.inl rfl) (zt (zb (zttb (zt ze)))) zB Cells.nil ?_
      refine VA.tkN 13 (.inl rfl) (zt (zb (zttb (zt ze)))) zB Cells.nil ?_
      refine VA.tkN 14 (.inl rfl) (zt (zb (zttb (zt ze)))) zB Cells.nil ?_
      refine VA.tkN 15 (.inl rfl) (zt (zb (zttb (zt ze)))) zB Cells.nil ?_
      refine VA.tkN 16 (.inl rfl) (zt (zb (zttb (zt ze)))) zB Cells.nil ?_
      refine VA.tkN 17 (.inl rfl) (zt (zb (zttb (zt ze)))) zB Cells.nil ?_
      refine VA.tkY 18 rfl (zt (zb (zttb (zt ze)))) zB Cells.nil (Quiet.c (Q.pick_false rfl rfl)) ?_
      refine VA.tk 19 rfl (zt (zb (zttb (zt ze)))) zB Cells.nil (Quiet.c (Q.pick_false rfl rfl)) ?_
      refine VA.done (by kernel_rfl) ?_
      refine VE.then_normal ?_
      exact VE.meetP () trivial zE zM2
   ·
    intro z hz
    refine VC.condF rfl ?_
    refine VC.skip ?_
    refine VE.block_normal ?_
    refine VE.seq ?_
    refine VC.region ?_
    refine VL.q ((by first | exact Q.addI rfl rfl (by omega) (by omega) | exact Q.add rfl rfl)) ?_
    refine VL.q (Q.move rfl) ?_
    refine VL.nil ?_
    refine VE.then_normal ?_
    exact VE.round (k + 1) (by omega) (by omega) zE (List.Sublist.refl _)
  ·
   intro h13
   refine VC.exit ?_
   refine VE.then_exit ?_
   refine VE.then_exit ?_
   refine VE.block_here ?_
   refine VE.seq ?_
   refine VC.seq ?_
   refine VC.region ?_
   refine VL.q (Q.assign rfl) ?_
   refine VL.nil ?_
   refine VE.seq ?_
   refine VC.ret ?_
   refine VE.ret rfl (.tmp rfl .nil) () ?_ ?_ (List.nil_sublist _)
   ·
    trivial
   ·
    first | rfl | (exfalso; simp at *; omega)

theorem idx_el (p : Option Addr) (n c : Nat) (l : List El) (hl : l.length = n) (hn : n ≤ 100000) (fk : FuncId) (hok : okFunc Tryz.prog fk = true) (capt : List Value) (pr : El → Bool) (RO1 : World → Prop) (hst : ∀ W W', RO1 W → Only [] W W' → RO1 W') (hc : ∀ q ∈ l, Does Tryz.prog fk ([.agg #[.int .u8 (q.id : Int), .int .u8 0, .slice q.p q.d.length q.c, .slice none 0 0]] ++ capt) [] RO1 (X := Unit) (fun _ => True) (fun _ => .bool (pr q)) (fun _ => [])) :
  Does Tryz.prog 206 [.slice p n c, .func (.func fk) #[] capt.toArray] [] (fun W => Rd W p (l.flatMap elC) ∧ RO1 W) (X := Int) (fun x => IXF l pr x) (fun x => .int .i64 x) (fun _ => []) := by
 subst hl
 refine Does.enter Tryz.func206 rfl (m := 19) rfl (by simp) ?_
 intro W0 hro
 refine VC.seq ?_
 refine VC.region ?_
 refine VL.q (Q.assign rfl) ?_
 refine VL.nil ?_
 refine VE.seq ?_
 refine VC.seq ?_
 refine VC.seq ?_
 refine VC.region ?_
 refine VL.q (Q.move rfl) ?_
 refine VL.q (Q.len sl109 rfl) ?_
 refine VL.q (Q.move rfl) ?_
 refine VL.nil ?_
 refine VE.seq ?_
 refine VC.block ?_
 refine VC.loop (X := Nat) (fun k => [(0, .slice p l.length c), (1, .func (.func fk) #[] capt.toArray), (7, .int .i64 (l.length : Int)), (8, .int .i64 (k : Int))]) (fun k => []) (fun k => IXB l pr k) (fun k => l.length - k) 0 IXB.zero ?_ ?_
 ·
  exact VS.mk zE (List.Sublist.refl _)
 ·
  intro k hk
  have hkl := hk.1
  refine VC.seq ?_
  refine VC.region ?_
  refine VL.q (Q.lt rfl rfl) ?_
  refine VL.nil ?_
  refine VE.seq ?_
  refine VC.seq ?_
  refine VC.cond rfl ?_ ?_
  ·
   intro h9
   have hlt : k < l.length := by have := of_decide_eq_true h9; omega
   obtain ⟨b0, o0, rfl⟩ := hro.1.pos (by rw [fm_length elC_len]; omega)
   refine VC.skip ?_
   refine VE.seq ?_
   refine VC.seq ?_
   refine VC.block ?_
   refine VC.seq ?_
   refine VC.region ?_
   refine VL.q (Q.move rfl) ?_
   refine VL.q (Q.assign rfl) ?_
   refine VL.nil ?_
   refine VE.seq ?_
   refine VC.seq ?_
   refine VC.region ?_
   refine VL.q (Q.move rfl) ?_
   refine VL.q (Q.move rfl) ?_
   refine VL.q (Q.move rfl) ?_
   refine VL.q (Q.indexAddr sl109 (j := k) rfl rfl rfl hlt) ?_
   refine VL.q (Q.load0A (xs := elC l[k]) ty176 rfl (Rd.sg hro.1 (fm_seg elC_len l k hlt)) (by simp)) ?_
   refine VL.eff (O.callV (first := []) hok rfl rfl (by decide) (hc l[k] (List.getElem_mem hlt)) (fun _ ho _ => hst _ _ hro.2 ho) ?_)
   intro x16 y16
   refine VL.nil ?_
   refine VE.seq ?_
   refine VC.cond rfl ?_ ?_
   ·
    intro h16
    refine VC.seq ?_
    refine VC.region ?_
    refine VL.q (Q.move rfl) ?_
    refine VL.q (Q.assign rfl) ?_
    refine VL.nil ?_
    refine VE.seq ?_
    refine VC.ret ?_
    refine VE.block_ret ?_
    refine VE.then_ret ?_
    refine VE.then_ret ?_
    refine VE.block_ret ?_
    refine VE.then_ret ?_
    exact VE.ret rfl (.tmp rfl .nil) _ (hk.some hlt h16) rfl zB
   ·
    intro h16
    refine VC.skip ?_
    refine VE.block_normal ?_
    refine VE.seq ?_
    refine VC.region ?_
    refine VL.q ((by first | exact Q.addI rfl rfl (by omega) (by omega) | exact Q.add rfl rfl)) ?_
    refine VL.q (Q.move rfl) ?_
    refine VL.nil ?_
    refine VE.then_normal ?_
    exact VE.round (k + 1) (hk.next hlt h16) (by omega) zE (List.Sublist.refl _)
  ·
   intro h9
   have hlt : ¬ k < l.length := by have := of_decide_eq_false h9; omega
   refine VC.exit ?_
   refine VE.then_exit ?_
   refine VE.then_exit ?_
   refine VE.block_here ?_
   refine VE.seq ?_
   refine VC.seq ?_
   refine VC.region ?_
   refine VL.q (Q.assign rfl) ?_
   refine VL.nil ?_
   refine VE.seq ?_
   refine VC.ret ?_
   exact VE.ret rfl (.tmp rfl .nil) _ (hk.none hlt) rfl zB

theorem find1_c (e : El) (gq id : Nat) :
  Does Tryz.prog 207 [.agg #[.int .u8 (e.id : Int), .int .u8 0, .slice e.p e.d.length e.c, .slice none 0 0], .pointer (some ⟨gq, 0, none⟩)] [] (fun W => W.cell? ⟨gq, 0, none⟩ = some (.int .u8 (id : Int))) (X := Unit) (fun _ => True) (fun _ => .bool (decide (e.id = id))) (fun _ => []) := by
 refine Does.enter Tryz.func207 rfl (m := 8) rfl (by simp) ?_
 intro W0 hro
 refine VC.seq ?_
 refine VC.region ?_
 refine VL.eff (O.box rfl rfl (by decide) ?_)
 intro g2
 refine VL.q (Q.assign rfl) ?_
 refine VL.nil ?_
 refine VE.seq ?_
 refine VC.seq ?_
 refine VC.region ?_
 refine VL.q (Q.fieldAddr fa176_0 rfl) ?_
 refine VL.q (Q.load1 ty5 rfl zM rfl) ?_
 refine VL.q (Q.load0 (v := .int .u8 (id : Int)) ty5 rfl hro (by simp)) ?_
 refine VL.quietE (v' := .bool (decide (e.id = id))) (by decide) (Q.eq rfl rfl) (congrArg Value.bool (beqN _ _)) ?_
 refine VL.q (Q.assign rfl) ?_
 refine VL.nil ?_
 refine VE.seq ?_
 refine VC.ret ?_
 refine VE.ret rfl (.tmp rfl .nil) () ?_ ?_ (List.nil_sublist _)
 ·
  trivial
 ·
  first | rfl | (exfalso; simp at *; omega)

theorem find_t (p : Option Addr) (c : Nat) (els : List El) (hn : els.length ≤ 10) (id : Nat) (k : Nat) (hk : k < els.length) (hid : els[k].id = id) (hlt : ∀ j (hj : j < els.length), j < k → els[j].id ≠ id) :
  Does Tryz.prog 160 [.slice p els.length c, .int .u8 (id : Int)] [] (fun W => Rd W p (els.flatMap elC)) (X := Unit) (fun _ => True) (fun _ => .tuple #[.slice els[k].p els[k].d.length els[k].c, .bool true]) (fun _ => []) := by
 refine Does.enter Tryz.func160 rfl (m := 17) rfl (by simp) ?_
 intro W0 hro
 obtain ⟨b0, o0, rfl⟩ := hro.pos (by rw [fm_length elC_len]; omega)
 refine VC.seq ?_
 refine VC.region ?_
 refine VL.eff (O.box rfl rfl (by decide) ?_)
 intro g3
 refine VL.q (Q.assign rfl) ?_
 refine VL.q (Q.assign rfl) ?_
 refine VL.nil ?_
 refine VE.seq ?_
 refine VC.seq ?_
 refine VC.region ?_
 refine VL.q (Q.move rfl) ?_
 refine VL.q (Q.makeFunc rfl rfl) ?_
 refine VL.eff (O.call0 ok206 rfl rfl (by decide) (idx_el (some ⟨b0, o0, none⟩) els.length c els rfl (by omega) 207 ok207 [.pointer (some ⟨g3, 0, none⟩)] (fun e => decide (e.id = id)) (fun W => W.cell? ⟨g3, 0, none⟩ = some (.int .u8 (id : Int))) (fun _ _ h ho => only_cell ho h (by simp)) (fun q _ => find1_c q g3 id)) (fun _ ho hW => ⟨hro.only0 ho, by rw [own_cell hW zM]; rfl⟩) ?_)
 intro x9 y9
 have hx9 := ixf_at y9 k hk (decide_eq_true hid) (fun j hj hl => decide_eq_false (hlt j hj hl))
 subst hx9
 refine VL.q (Q.assign rfl) ?_
 refine VL.nil ?_
 refine VE.seq ?_
 refine VC.seq ?_
 refine VC.seq ?_
 refine VC.region ?_
 refine VL.q (Q.move rfl) ?_
 refine VL.quietE (v' := .bool false) (by decide) (Q.lt rfl rfl) (congrArg Value.bool (decide_eq_false (by omega))) ?_
 refine VL.nil ?_
 refine VE.seq ?_
 refine VC.condF rfl ?_
 refine VC.skip ?_
 refine VE.seq ?_
 refine VC.seq ?_
 refine VC.region ?_
 refine VL.q (Q.move rfl) ?_
 refine VL.q (Q.move rfl) ?_
 refine VL.q (Q.indexAddr sl109 (j := k) rfl rfl rfl hk) ?_
 refine VL.q (Q.fieldAddr fa176_2 rfl) ?_
 refine VL.q (Q.load0 (v := .slice els[k].p els[k].d.length els[k].c) ty23 rfl (Rd.cell hro (fm_get elC_len els k hk 2 _ rfl)) (by simp)) ?_
 refine VL.q (Q.assign rfl) ?_
 refine VL.q (Q.assign rfl) ?_
 refine VL.nil ?_
 refine VE.seq ?_
 refine VC.ret ?_
 refine VE.ret rfl (.tmp rfl (.tmp rfl .nil)) () ?_ ?_ (List.nil_sublist _)
 ·
  trivial
 ·
  first | rfl | (exfalso; simp at *; omega)

theorem find_f (p : Option Addr) (c : Nat) (els : List El) (hn : els.length ≤ 10) (id : Nat) (hno : ∀ e ∈ els, e.id ≠ id) :
  Does Tryz.prog 160 [.slice p els.length c, .int .u8 (id : Int)] [] (fun W => Rd W p (els.flatMap elC)) (X := Unit) (fun _ => True) (fun _ => .tuple #[.slice none 0 0, .bool false]) (fun _ => []) := by
 refine Does.enter Tryz.func160 rfl (m := 17) rfl (by simp) ?_
 intro W0 hro
 refine VC.seq ?_
 refine VC.region ?_
 refine VL.eff (O.box rfl rfl (by decide) ?_)
 intro g3
 refine VL.q (Q.assign rfl) ?_
 refine VL.q (Q.assign rfl) ?_
 refine VL.nil ?_
 refine VE.seq ?_
 refine VC.seq ?_
 refine VC.region ?_
 refine VL.q (Q.move rfl) ?_
 refine VL.q (Q.makeFunc rfl rfl) ?_
 refine VL.eff (O.call0 ok206 rfl rfl (by decide) (idx_el p els.length c els rfl (by omega) 207 ok207 [.pointer (some ⟨g3, 0, none⟩)] (fun e => decide (e.id = id)) (fun W => W.cell? ⟨g3, 0, none⟩ = some (.int .u8 (id : Int))) (fun _ _ h ho => only_cell ho h (by simp)) (fun q _ => find1_c q g3 id)) (fun _ ho hW => ⟨hro.only0 ho, by rw [own_cell hW zM]; rfl⟩) ?_)
 intro x9 y9
 have hx9 := IXF.no y9 (fun q hq => decide_eq_false (hno q hq))
 subst hx9
 refine VL.q (Q.assign rfl) ?_
 refine VL.nil ?_
 refine VE.seq ?_
 refine VC.seq ?_
 refine VC.seq ?_
 refine VC.region ?_
 refine VL.q (Q.move rfl) ?_
 refine VL.quietE (v' := .bool true) (by decide) (Q.lt rfl rfl) (congrArg Value.bool (decide_eq_true (by omega))) ?_
 refine VL.nil ?_
 refine VE.seq ?_
 refine VC.condT rfl ?_
 refine VC.seq ?_
 refine VC.region ?_
 refine VL.q (Q.assign rfl) ?_
 refine VL.q (Q.assign rfl) ?_
 refine VL.nil ?_
 refine VE.seq ?_
 refine VC.ret ?_
 refine VE.then_ret ?_
 refine VE.ret rfl (.tmp rfl (.tmp rfl .nil)) () ?_ ?_ (List.nil_sublist _)
 ·
  trivial
 ·
  first | rfl | (exfalso; simp at *; omega)

theorem sread_c (Wb : World) (gc a : Nat) (ch lv hd : Int) (iv : Nat) (hiv : 1 ≤ iv ∧ iv ≤ 65535) (pe : Option Addr) (ce : Nat) (els : List El) (nm : List UInt8) (ld : UInt8) (sec : Bool) (hsay : Says els nm ld sec) (hnm : nm.length ≤ 32) (hre : RdE pe els Wb) (hfr : ∀ j ∈ List.flatMap Rs.ids [.blk gc [.int .u8 2, .int .u8 0, .int .u8 0, .int .u8 0, .int .u8 1, .int .u8 (a : Int), .int .i64 ch, .int .i64 lv, .int .i64 0, .int .i64 hd, .int .i64 1, .string ByteArray.empty, .bool false] 117], Wb.heap.size ≤ j) :
  Does Tryz.prog 85 [.pointer (some ⟨gc, 0, none⟩), .agg #[.int .u64 7, .int .u16 (iv : Int), .int .u16 0, .slice pe els.length ce]] [.blk gc [.int .u8 2, .int .u8 0, .int .u8 0, .int .u8 0, .int .u8 1, .int .u8 (a : Int), .int .i64 ch, .int .i64 lv, .int .i64 0, .int .i64 hd, .int .i64 1, .string ByteArray.empty, .bool false] 117] (fun W => Only [] Wb W) (X := Unit) (fun _ => True) (fun _ => .bool true) (fun _ => [.blk gc [.int .u8 2, .int .u8 0, .int .u8 0, .int .u8 0, .int .u8 1, .int .u8 (a : Int), .int .i64 ch, .int .i64 lv, .int .i64 (ld.toNat : Int), .int .i64 hd, .int .i64 (iv : Int), .string (strOf nm), .bool sec] 117]) := by
 have hl2 := hsay.len.1
 have hl3 := hsay.len.2
 have hlen3 : els.length ≤ 10 := by omega
 have hbl := byte_bd ld
 refine Does.enter Tryz.func85 rfl (m := 65) rfl (by simp) ?_
 intro W0 hro
 have hr0 := hre.2 _ (List.getElem_mem (show 0 < els.length by omega))
 have hr1 := hre.2 _ (List.getElem_mem (show 1 < els.length by omega))
 rw [hsay.d0 (by omega)] at hr0
 rw [hsay.d1 (by omega)] at hr1
 obtain ⟨b1, o1, hp1⟩ := hr1.pos (by simp [bs])
 rw [hp1] at hr1
 refine VC.seq ?_
 refine VC.region ?_
 refine VL.eff (O.box rfl rfl (by decide) ?_)
 intro g3
 refine VL.q (Q.assign rfl) ?_
 refine VL.nil ?_
 refine VE.seq ?_
 refine VC.seq ?_
 refine VC.region ?_
 refine VL.q (Q.fieldAddr fa111_3 rfl) ?_
 refine VL.q (Q.load1 ty109 rfl zM rfl) ?_
 refine VL.eff (O.call0 ok160 rfl rfl (by decide) (find_t pe ce els hlen3 0 0 (by omega) (hsay.id0 _) (by omega)) (fun _ ho _ => hre.1.only0 (only_base hro ho hfr)) ?_)
 intro x12 y12
 rw [hsay.d0 (by omega)]
 refine VL.q (Q.move rfl) ?_
 refine VL.q (Q.extract rfl rfl) ?_
 refine VL.q (Q.extract rfl rfl) ?_
 refine VL.q (Q.assign rfl) ?_
 refine VL.q (Q.assign rfl) ?_
 refine VL.nil ?_
 refine VE.seq ?_
 refine VC.seq ?_
 refine VC.region ?_
 refine VL.q (Q.fieldAddr fa111_3 rfl) ?_
 refine VL.q (Q.load1 ty109 rfl zM rfl) ?_
 refine VL.eff (O.call0 ok160 rfl rfl (by decide) (find_t pe ce els hlen3 11 1 (by omega) (hsay.id1 _) hsay.ne11) (fun _ ho _ => hre.1.only0 (only_base hro ho hfr)) ?_)
 intro x18 y18
 rw [hsay.d1 (by omega), hp1]
 refine VL.q (Q.move rfl) ?_
 refine VL.q (Q.extract rfl rfl) ?_
 refine VL.q (Q.extract rfl rfl) ?_
 refine VL.q (Q.assign rfl) ?_
 refine VL.q (Q.assign rfl) ?_
 refine VL.nil ?_
 refine VE.seq ?_
 refine VC.seq ?_
 refine VC.seq ?_
 refine VC.region ?_
 refine VL.q (Q.fieldAddr fa111_1 rfl) ?_
 refine VL.q (Q.load1 ty26 rfl zM rfl) ?_
 refine VL.quietE (v' := .bool false) (by decide) (Q.eq rfl rfl) (congrArg Value.bool (by simp; omega)) ?_
 refine VL.q (Q.move rfl) ?_
 refine VL.yes rfl rfl ?_
 refine VL.q (Q.move rfl) ?_
 refine VL.yes rfl rfl ?_
 refine VL.q (Q.len sl23 rfl) ?_
 refine VL.yes rfl rfl ?_
 refine VL.quietE (v' := .bool false) (by decide) (Q.gt rfl rfl) (congrArg Value.bool (decide_eq_false (by omega))) ?_
 refine VL.quietE (v' := .bool false) (by decide) (Q.pick_false rfl rfl) (by rfl) ?_
 refine VL.q (Q.move rfl) ?_
 refine VL.yes rfl rfl ?_
 refine VL.q (Q.move rfl) ?_
 refine VL.yes rfl rfl ?_
 refine VL.q (Q.move rfl) ?_
 refine VL.yes rfl rfl ?_
 refine VL.q (Q.move rfl) ?_
 refine VL.yes rfl rfl ?_
 refine VL.q (Q.len sl23 rfl) ?_
 refine VL.yes rfl rfl ?_
 refine VL.quietE (v' := .bool false) (by decide) (Q.ne rfl rfl) (by rfl) ?_
 refine VL.yes rfl rfl ?_
 refine VL.quietE (v' := .bool false) (by decide) (Q.pick_true rfl rfl) (by rfl) ?_
 refine VL.quietE (v' := .bool false) (by decide) (Q.pick_false rfl rfl) (by rfl) ?_
 refine VL.nil ?_
 refine VE.seq ?_
 refine VC.condF rfl ?_
 refine VC.skip ?_
 refine VE.seq ?_
 refine VC.seq ?_
 refine VC.region ?_
 refine VL.q (Q.move rfl) ?_
 refine VL.q (Q.move rfl) ?_
 refine VL.q (Q.fieldAddr fa111_1 rfl) ?_
 refine VL.q (Q.load1 ty26 rfl zM rfl) ?_
 refine VL.q ((by first | exact Q.convF ti26 ti3 rfl (by simp only [klo]; omega) (by simp only [khi]; omega) | exact Q.convM (M := 0) ti26 ti3 rfl rfl rfl | exact Q.conv ti26 ti3 rfl)) ?_
 refine VL.q (Q.move rfl) ?_
 refine VL.q (Q.convStrP sl23 ti5 ust rfl rfl (fun _ ho _ => hr0.only0 (only_base hro ho hfr))) ?_
 refine VL.q (Q.nilCheck rfl) ?_
 refine VL.q (Q.fieldAddr fa117_5 rfl) ?_
 refine VL.eff (O.store ty3 rfl rfl rfl rfl zU zP ?_)
 refine VL.q (Q.nilCheck rfl) ?_
 refine VL.q (Q.fieldAddr fa117_6 rfl) ?_
 refine VL.eff (O.store ty9 rfl rfl rfl rfl zU zP ?_)
 refine VL.nil ?_
 refine VE.seq ?_
 refine VC.seq ?_
 refine VC.seq ?_
 refine VK.keep (by exact .cons (i := 0) rfl (.cons (i := 3) rfl (.cons (i := 4) rfl (.cons (i := 7) rfl (.cons (i := 8) rfl ( .nil)))))) ?_
 refine VC.region ?_
 refine VL.q (Q.move rfl) ?_
 refine VL.nil ?_
 refine VE.seq ?_
 refine VC.condT rfl ?_
 refine VC.region ?_
 refine VL.q (Q.move rfl) ?_
 refine VL.q (Q.move rfl) ?_
 refine VL.q (Q.indexAddr sl23 (j := 0) rfl rfl rfl (by simp)) ?_
 refine VL.q (Q.load (p := ⟨b1, o1 + 0 * 1, none⟩) (v := .int .u8 (ld.toNat : Int)) rfl (fun W ho _ => lies_one ty5 (only_cell (only_base hro ho hfr) (Rd.at hr1 rfl) (by simp)))) ?_
 refine VL.q ((by first | exact Q.convF ti5 ti3 rfl (by simp only [klo]; omega) (by simp only [khi]; omega) | exact Q.convM (M := 0) ti5 ti3 rfl rfl rfl | exact Q.conv ti5 ti3 rfl)) ?_
 refine VL.q (Q.nilCheck rfl) ?_
 refine VL.q (Q.fieldAddr fa117_3 rfl) ?_
 refine VL.eff (O.store ty3 rfl rfl rfl rfl zU zP ?_)
 refine VL.nil ?_
 refine VE.seq ?_
 cases hsec : decide (2 < els.length)
 ·
  have hs2 : els.length = 2 := by have := of_decide_eq_false hsec; omega
  have hsx : sec = false := hsay.sec.trans hsec
  subst hsx
  refine VC.seq ?_
  refine VC.region ?_
  refine VL.q (Q.move rfl) ?_
  refine VL.q (Q.fieldAddr fa111_3 rfl) ?_
  refine VL.q (Q.load1 ty109 rfl zM rfl) ?_
  refine VL.eff (O.call0 ok160 rfl rfl (by decide) (find_f pe ce els hlen3 48 (hsay.no48 hs2)) (fun _ ho _ => hre.1.only0 (only_base hro ho hfr)) ?_)
  intro x60 y60
  refine VL.q (Q.move rfl) ?_
  refine VL.q (Q.extract rfl rfl) ?_
  refine VL.q (Q.extract rfl rfl) ?_
  refine VL.q (Q.nilCheck rfl) ?_
  refine VL.q (Q.fieldAddr fa117_7 rfl) ?_
  refine VL.eff (O.store ty4 rfl rfl rfl rfl zU zP ?_)
  refine VL.nil ?_
  refine VE.seq ?_
  refine VC.seq ?_
  refine VC.region ?_
  refine VL.q (Q.assign rfl) ?_
  refine VL.nil ?_
  refine VE.seq ?_
  refine VC.ret ?_
  exact VE.ret rfl (.tmp rfl .nil) () trivial rfl zB
 ·
  have hs3 : 2 < els.length := of_decide_eq_true hsec
  have hsx : sec = true := hsay.sec.trans hsec
  subst hsx
  refine VC.seq ?_
  refine VC.region ?_
  refine VL.q (Q.move rfl) ?_
  refine VL.q (Q.fieldAddr fa111_3 rfl) ?_
  refine VL.q (Q.load1 ty109 rfl zM rfl) ?_
  refine VL.eff (O.call0 ok160 rfl rfl (by decide) (find_t pe ce els hlen3 48 2 hs3 (hsay.id2 _) hsay.ne48) (fun _ ho _ => hre.1.only0 (only_base hro ho hfr)) ?_)
  intro x60_1 y60_1
  refine VL.q (Q.move rfl) ?_
  refine VL.q (Q.extract rfl rfl) ?_
  refine VL.q (Q.extract rfl rfl) ?_
  refine VL.q (Q.nilCheck rfl) ?_
  refine VL.q (Q.fieldAddr fa117_7 rfl) ?_
  refine VL.eff (O.store ty4 rfl rfl rfl rfl zU zP ?_)
  refine VL.nil ?_
  refine VE.seq ?_
  refine VC.seq ?_
  refine VC.region ?_
  refine VL.q (Q.assign rfl) ?_
  refine VL.nil ?_
  refine VE.seq ?_
  refine VC.ret ?_
  exact VE.ret rfl (.tmp rfl .nil) () trivial rfl zB

end Go.Proofs.YtencghlmckbmlaaGreat
