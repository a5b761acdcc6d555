/- The contracts of package scan: the best candidate. Conditions: those that each bears. -/
import Derived.Test.YtencghlmckbmlaaGreatRows
import Derived.Test.YtencghlmckbmlaaGreatCScan2
namespace Go.Proofs.YtencghlmckbmlaaGreat
open Go Go.RowKit Go.Sx
set_option maxRecDepth 100000

theorem fa121_0 : tyField Tryz.prog 121 0 = some 0 := by kernel_rfl
theorem fa121_1 : tyField Tryz.prog 121 1 = some 1 := by kernel_rfl
theorem fa121_2 : tyField Tryz.prog 121 2 = some 2 := by kernel_rfl
theorem fa121_3 : tyField Tryz.prog 121 3 = some 3 := by kernel_rfl
theorem ok164 : okFunc Tryz.prog 164 = true := by kernel_rfl
theorem ok93 : okFunc Tryz.prog 93 = true := by kernel_rfl
theorem ok96 : okFunc Tryz.prog 96 = true := by kernel_rfl
theorem ok97 : okFunc Tryz.prog 97 = true := by kernel_rfl
theorem ok98 : okFunc Tryz.prog 98 = true := by kernel_rfl
theorem ub4 : Tryz.prog.underlying 4 = some .bool := by kernel_rfl

def cmpZ (x y : Int) : Int := if x < y then -1 else if y < x then 1 else 0
def orZ (x y : Int) : Int := if x = 0 then y else x
theorem cmpZ_1 {x y : Int} (h : decide (x < y) = true) : -1 = cmpZ x y := by
  unfold cmpZ
  rw [if_pos (of_decide_eq_true h)]
theorem cmpZ_2 {x y : Int} (h : decide (x < y) = false) (h2 : decide (y < x) = true) : 1 = cmpZ x y := by
  unfold cmpZ
  rw [if_neg (of_decide_eq_false h), if_pos (of_decide_eq_true h2)]
theorem cmpZ_3 {x y : Int} (h : decide (x < y) = false) (h2 : decide (y < x) = false) : 0 = cmpZ x y := by
  unfold cmpZ
  rw [if_neg (of_decide_eq_false h), if_neg (of_decide_eq_false h2)]
theorem cmpZ_bd (x y : Int) : -1 ≤ cmpZ x y ∧ cmpZ x y ≤ 1 := by
  unfold cmpZ
  split
  · omega
  · split <;> omega
theorem orZ_1 {x y : Int} (h : (x != 0) = true) : x = orZ x y := by
  unfold orZ
  rw [if_neg (by simpa using h)]
theorem orZ_2 {x y : Int} (h : (x != 0) = false) : y = orZ x y := by
  unfold orZ
  rw [if_pos (by simpa using h)]
def betterB (c b : Cd) : Bool := decide (0 < orZ (cmpZ (c.lv - c.ld) (b.lv - b.ld)) (cmpZ c.lv b.lv))
def betterO (c : Cd) : Option Cd → Bool
  | none => true
  | some b => betterB c b
def zeroCd : List Value := [.int .u8 0, .int .u8 0, .int .u8 0, .int .u8 0, .int .u8 0, .int .u8 0, .int .i64 0, .int .i64 0, .int .i64 0, .int .i64 0, .int .i64 0, .string ByteArray.empty, .bool false]
def bestC : Option Cd → List Value
  | none => zeroCd
  | some b => cdC b
theorem bestC_len (b : Option Cd) : (bestC b).length = 13 := by cases b <;> rfl
def pstep (name : ByteArray) (sec : Bool) (b : Option Cd) (c : Cd) : Option Cd := if (c.nm.toList == name.toList) && ((c.sec == sec) && betterO c b) then some c else b
def pickF (name : ByteArray) (sec : Bool) (l : List Cd) : Option Cd := l.foldl (pstep name sec) none
theorem pick_step (name : ByteArray) (sec : Bool) (l : List Cd) (k : Nat) (h : k < l.length) : pickF name sec (l.take (k + 1)) = pstep name sec (pickF name sec (l.take k)) l[k] := by
  unfold pickF
  rw [List.take_succ_eq_append_getElem h, List.foldl_append]
  rfl
theorem pick_mem (name : ByteArray) (sec : Bool) : ∀ (l : List Cd) (b : Option Cd) (c : Cd), l.foldl (pstep name sec) b = some c → c ∈ l ∨ b = some c
  | [], b, c, h => .inr h
  | x :: l, b, c, h => by
    rw [List.foldl_cons] at h
    rcases pick_mem name sec l _ c h with h | h
    · exact .inl (.tail _ h)
    · unfold pstep at h
      split at h
      · simp only [Option.some.injEq] at h
        subst h
        exact .inl (.head _)
      · exact .inr h
def chooseV : Option Cd → Value
  | none => .tuple #[.agg zeroCd.toArray, .int .i64 6]
  | some b => .tuple #[.agg (cdC b).toArray, .int .i64 0]

theorem isnan_c (x : Int) :
  Does Tryz.prog 164 [.int .i64 x] [] (fun _ => True) (X := Unit) (fun _ => True) (fun _ => .bool false) (fun _ => []) := by
 refine Does.enter Tryz.func164 rfl (m := 6) rfl (by simp) ?_
 intro W0 hro
 refine VC.seq ?_
 refine VC.region ?_
 refine VL.q (Q.assign rfl) ?_
 refine VL.nil ?_
 refine VE.seq ?_
 refine VC.seq ?_
 refine VC.region ?_
 refine VL.q (Q.move rfl) ?_
 refine VL.q (Q.move rfl) ?_
 refine VL.quietE (v' := .bool false) (by decide) (Q.ne rfl rfl) (congrArg Value.bool (by simp)) ?_
 refine VL.q (Q.assign rfl) ?_
 refine VL.nil ?_
 refine VE.seq ?_
 refine VC.ret ?_
 refine VE.ret rfl (.tmp rfl .nil) () ?_ ?_ (List.nil_sublist _)
 ·
  trivial
 ·
  first | rfl | (exfalso; simp at *; omega)

theorem cmp_c (x y : Int) :
  Does Tryz.prog 93 [.int .i64 x, .int .i64 y] [] (fun _ => True) (X := Unit) (fun _ => True) (fun _ => .int .i64 (cmpZ x y)) (fun _ => []) := by
 refine Does.enter Tryz.func93 rfl (m := 20) rfl (by simp) ?_
 intro W0 hro
 refine VC.seq ?_
 refine VC.region ?_
 refine VL.q (Q.assign rfl) ?_
 refine VL.nil ?_
 refine VE.seq ?_
 refine VC.seq ?_
 refine VC.region ?_
 refine VL.q (Q.move rfl) ?_
 refine VL.eff (O.call0 ok164 rfl rfl (by decide) (isnan_c _) (fun _ _ _ => trivial) ?_)
 intro x8 y8
 refine VL.q (Q.assign rfl) ?_
 refine VL.nil ?_
 refine VE.seq ?_
 refine VC.seq ?_
 refine VC.region ?_
 refine VL.q (Q.move rfl) ?_
 refine VL.eff (O.call0 ok164 rfl rfl (by decide) (isnan_c _) (fun _ _ _ => trivial) ?_)
 intro x10 y10
 refine VL.q (Q.assign rfl) ?_
 refine VL.nil ?_
 refine VE.seq ?_
 refine VC.seq ?_
 refine VC.seq ?_
 refine VC.region ?_
 refine VL.q (Q.move rfl) ?_
 refine VL.nil ?_
 refine VE.seq ?_
 refine VC.condF rfl ?_
 refine VC.skip ?_
 refine VE.seq ?_
 refine VC.seq ?_
 refine VC.seq ?_
 refine VC.region ?_
 refine VL.q (Q.move rfl) ?_
 refine VL.nil ?_
 refine VE.seq ?_
 refine VC.condF rfl ?_
 refine VC.skip ?_
 refine VE.seq ?_
 refine VC.seq ?_
 refine VC.seq ?_
 refine VC.region ?_
 refine VL.q (Q.move rfl) ?_
 refine VL.q (Q.move rfl) ?_
 refine VL.q (Q.lt rfl rfl) ?_
 refine VL.nil ?_
 refine VE.seq ?_
 refine VC.cond rfl ?_ ?_
 ·
  intro h16
  refine VC.seq ?_
  refine VC.region ?_
  refine VL.q (Q.assign rfl) ?_
  refine VL.nil ?_
  refine VE.seq ?_
  refine VC.ret ?_
  refine VE.then_ret ?_
  refine VE.ret rfl (.tmp rfl .nil) () ?_ ?_ (List.nil_sublist _)
  ·
   trivial
  ·
   first | exact congrArg (Value.int .i64) (cmpZ_1 h16) | exact congrArg (Value.int .i64) (cmpZ_2 h16 h19) | exact congrArg (Value.int .i64) (cmpZ_3 h16 h19)
 ·
  intro h16
  refine VC.skip ?_
  refine VE.seq ?_
  refine VC.seq ?_
  refine VC.seq ?_
  refine VC.region ?_
  refine VL.q (Q.move rfl) ?_
  refine VL.q (Q.move rfl) ?_
  refine VL.q (Q.gt rfl rfl) ?_
  refine VL.nil ?_
  refine VE.seq ?_
  refine VC.cond rfl ?_ ?_
  ·
   intro h19
   refine VC.seq ?_
   refine VC.region ?_
   refine VL.q (Q.assign rfl) ?_
   refine VL.nil ?_
   refine VE.seq ?_
   refine VC.ret ?_
   refine VE.then_ret ?_
   refine VE.ret rfl (.tmp rfl .nil) () ?_ ?_ (List.nil_sublist _)
   ·
    trivial
   ·
    first | exact congrArg (Value.int .i64) (cmpZ_1 h16) | exact congrArg (Value.int .i64) (cmpZ_2 h16 h19) | exact congrArg (Value.int .i64) (cmpZ_3 h16 h19)
  ·
   intro h19
   refine VC.skip ?_
   refine VE.seq ?_
   refine VC.seq ?_
   refine VC.region ?_
   refine VL.q (Q.assign rfl) ?_
   refine VL.nil ?_
   refine VE.seq ?_
   refine VC.ret ?_
   refine VE.ret rfl (.tmp rfl .nil) () ?_ ?_ (List.nil_sublist _)
   ·
    trivial
   ·
    first | exact congrArg (Value.int .i64) (cmpZ_1 h16) | exact congrArg (Value.int .i64) (cmpZ_2 h16 h19) | exact congrArg (Value.int .i64) (cmpZ_3 h16 h19)

theorem or_c (gs : Nat) (x y : Int) :
  Does Tryz.prog 98 [.slice (some ⟨gs, 0, none⟩) 2 2] [] (fun W => Rd W (some ⟨gs, 0, none⟩) [.int .i64 x, .int .i64 y]) (X := Unit) (fun _ => True) (fun _ => .int .i64 (orZ x y)) (fun _ => []) := by
 refine Does.enter Tryz.func98 rfl (m := 18) rfl (by simp) ?_
 intro W0 hro
 refine VC.seq ?_
 refine VC.region ?_
 refine VL.q (Q.assign rfl) ?_
 refine VL.nil ?_
 refine VE.seq ?_
 refine VC.seq ?_
 refine VC.region ?_
 refine VL.q (Q.assign rfl) ?_
 refine VL.nil ?_
 refine VE.seq ?_
 refine VC.seq ?_
 refine VC.seq ?_
 refine VC.region ?_
 refine VL.q (Q.move rfl) ?_
 refine VL.q (Q.len sl78 rfl) ?_
 refine VL.q (Q.move rfl) ?_
 refine VL.nil ?_
 refine VE.seq ?_
 refine VC.block ?_
 refine VC.rounds 4 ?_
 refine VC.rnd (m := 3) ?_
 refine VC.seq ?_
 refine VC.region ?_
 refine VL.q (Q.lt rfl rfl) ?_
 refine VL.nil ?_
 refine VE.seq ?_
 refine VC.seq ?_
 refine VC.condT rfl ?_
 refine VC.skip ?_
 refine VE.seq ?_
 refine VC.seq ?_
 refine VC.block ?_
 refine VC.seq ?_
 refine VC.region ?_
 refine VL.q (Q.indexAddr sl78 (j := 0) rfl rfl rfl (by omega)) ?_
 refine VL.q (Q.load0 ty3 rfl (Rd.at (j := 0) hro rfl) (by simp)) ?_
 refine VL.q (Q.assign rfl) ?_
 refine VL.nil ?_
 refine VE.seq ?_
 refine VC.seq ?_
 refine VC.region ?_
 refine VL.q (Q.move rfl) ?_
 refine VL.q (Q.move rfl) ?_
 refine VL.q (Q.ne rfl rfl) ?_
 refine VL.nil ?_
 refine VE.seq ?_
 refine VC.cond rfl ?_ ?_
 ·
  intro h14
  refine VC.seq ?_
  refine VC.region ?_
  refine VL.q (Q.move rfl) ?_
  refine VL.q (Q.assign rfl) ?_
  refine VL.nil ?_
  refine VE.seq ?_
  refine VC.ret ?_
  refine VE.block_ret ?_
  refine VE.then_ret ?_
  refine VE.then_ret ?_
  refine VE.block_ret ?_
  refine VE.then_ret ?_
  refine VE.ret rfl (.tmp rfl .nil) () ?_ ?_ (List.nil_sublist _)
  ·
   trivial
  ·
   first | exact congrArg (Value.int .i64) (orZ_1 h14) | exact congrArg (Value.int .i64) (orZ_2 (by assumption)) | (simp [orZ] at *; simp_all [pack])
 ·
  intro h14
  refine VC.skip ?_
  refine VE.block_normal ?_
  refine VE.seq ?_
  refine VC.region ?_
  refine VL.quietE (v' := .int .i64 1) (by decide) ((by first | exact Q.addI rfl rfl (by omega) (by omega) | exact Q.add rfl rfl)) (by rfl) ?_
  refine VL.q (Q.move rfl) ?_
  refine VL.nil ?_
  refine VE.then_normal ?_
  refine VC.rnd (m := 2) ?_
  refine VC.seq ?_
  refine VC.region ?_
  refine VL.q (Q.lt rfl rfl) ?_
  refine VL.nil ?_
  refine VE.seq ?_
  refine VC.seq ?_
  refine VC.condT rfl ?_
  refine VC.skip ?_
  refine VE.seq ?_
  refine VC.seq ?_
  refine VC.block ?_
  refine VC.seq ?_
  refine VC.region ?_
  refine VL.q (Q.indexAddr sl78 (j := 1) rfl rfl rfl (by omega)) ?_
  refine VL.q (Q.load0 ty3 rfl (Rd.at (j := 1) hro rfl) (by simp)) ?_
  refine VL.q (Q.assign rfl) ?_
  refine VL.nil ?_
  refine VE.seq ?_
  refine VC.seq ?_
  refine VC.region ?_
  refine VL.q (Q.move rfl) ?_
  refine VL.q (Q.move rfl) ?_
  refine VL.q (Q.ne rfl rfl) ?_
  refine VL.nil ?_
  refine VE.seq ?_
  refine VC.cond rfl ?_ ?_
  ·
   intro h14
   refine VC.seq ?_
   refine VC.region ?_
   refine VL.q (Q.move rfl) ?_
   refine VL.q (Q.assign rfl) ?_
   refine VL.nil ?_
   refine VE.seq ?_
   refine VC.ret ?_
   refine VE.block_ret ?_
   refine VE.then_ret ?_
   refine VE.then_ret ?_
   refine VE.block_ret ?_
   refine VE.then_ret ?_
   refine VE.ret rfl (.tmp rfl .nil) () ?_ ?_ (List.nil_sublist _)
   ·
    trivial
   ·
    first | exact congrArg (Value.int .i64) (orZ_1 h14) | exact congrArg (Value.int .i64) (orZ_2 (by assumption)) | (simp [orZ] at *; simp_all [pack])
  ·
   intro h14
   refine VC.skip ?_
   refine VE.block_normal ?_
   refine VE.seq ?_
   refine VC.region ?_
   refine VL.quietE (v' := .int .i64 2) (by decide) ((by first | exact Q.addI rfl rfl (by omega) (by omega) | exact Q.add rfl rfl)) (by rfl) ?_
   refine VL.q (Q.move rfl) ?_
   refine VL.nil ?_
   refine VE.then_normal ?_
   refine VC.rnd (m := 1) ?_
   refine VC.seq ?_
   refine VC.region ?_
   refine VL.q (Q.lt rfl rfl) ?_
   refine VL.nil ?_
   refine VE.seq ?_
   refine VC.seq ?_
   refine VC.condF rfl ?_
   refine VC.exit ?_
   refine VE.then_exit ?_
   refine VE.then_exit ?_
   refine VE.block_here ?_
   refine VE.seq ?_
   refine VC.seq ?_
   refine VC.region ?_
   refine VL.q (Q.move rfl) ?_
   refine VL.q (Q.assign rfl) ?_
   refine VL.nil ?_
   refine VE.seq ?_
   refine VC.ret ?_
   refine VE.ret rfl (.tmp rfl .nil) () ?_ ?_ (List.nil_sublist _)
   ·
    trivial
   ·
    first | exact congrArg (Value.int .i64) (orZ_1 h14) | exact congrArg (Value.int .i64) (orZ_2 (by assumption)) | (simp [orZ] at *; simp_all [pack])

theorem better_n (c : Cd) (gf gb : Nat) :
  Does Tryz.prog 97 [.agg #[.int .u8 2, .int .u8 0, .int .u8 0, .int .u8 0, .int .u8 1, .int .u8 (c.a : Int), .int .i64 c.ch, .int .i64 c.lv, .int .i64 c.ld, .int .i64 c.hd, .int .i64 c.iv, .string c.nm, .bool c.sec], .pointer (some ⟨gf, 0, none⟩), .pointer (some ⟨gb, 0, none⟩)] [] (fun W => W.cell? ⟨gf, 0, none⟩ = some (.bool false)) (X := Unit) (fun _ => True) (fun _ => .bool true) (fun _ => []) := by
 refine Does.enter Tryz.func97 rfl (m := 28) rfl (by simp) ?_
 intro W0 hro
 refine VC.seq ?_
 refine VC.region ?_
 refine VL.eff (O.box rfl rfl (by decide) ?_)
 intro g3
 refine VL.q (Q.assign rfl) ?_
 refine VL.nil ?_
 refine VE.seq ?_
 refine VC.seq ?_
 refine VA.start (Ls := []) (Cs := []) mixed ?_
 refine VA.tk 0 rfl (zt ze) (List.nil_sublist _) Cells.nil (Quiet.c (Q.load0 (v := .bool false) ty4 rfl hro (by simp))) ?_
 refine VA.tk 1 rfl (zt ze) (List.nil_sublist _) Cells.nil (Quiet.c (Q.not rfl)) ?_
 refine VA.tk 2 rfl (zt ze) (List.nil_sublist _) Cells.nil (Quiet.c (Q.move rfl)) ?_
 refine VA.tkN 3 (.inl rfl) (zt ze) (List.nil_sublist _) Cells.nil ?_
 refine VA.tkN 4 (.inl rfl) (zt ze) (List.nil_sublist _) Cells.nil ?_
 refine VA.tkN 5 (.inl rfl) (zt ze) (List.nil_sublist _) Cells.nil ?_
 refine VA.tkN 6 (.inl rfl) (zt ze) (List.nil_sublist _) Cells.nil ?_
 refine VA.tkN 7 (.inl rfl) (zt ze) (List.nil_sublist _) Cells.nil ?_
 refine VA.tkN 8 (.inl rfl) (zt ze) (List.nil_sublist _) Cells.nil ?_
 refine VA.tkN 9 (.inl rfl) (zt ze) (List.nil_sublist _) Cells.nil ?_
 refine VA.tkN 10 (.inl rfl) (zt ze) (List.nil_sublist _) Cells.nil ?_
 refine VA.tkN 11 (.inl rfl) (zt ze) (List.nil_sublist _) Cells.nil ?_
 refine VA.tkN 12 (.inl rfl) (zt ze) (List.nil_sublist _) Cells.nil ?_
 refine VA.tkN 13 (.inl rfl) (zt ze) (List.nil_sublist _) Cells.nil ?_
 refine VA.tkN 14 (.inl rfl) (zt ze) (List.nil_sublist _) Cells.nil ?_
 refine VA.tkN 15 (.inl rfl) (zt ze) (List.nil_sublist _) Cells.nil ?_
 refine VA.tkN 16 (.inl rfl) (zt ze) (List.nil_sublist _) Cells.nil ?_
 refine VA.tkN 17 (.inl rfl) (zt ze) (List.nil_sublist _) Cells.nil ?_
 refine VA.tkN 18 (.inl rfl) (zt ze) (List.nil_sublist _) Cells.nil ?_
 refine VA.tkN 19 (.inl rfl) (zt ze) (List.nil_sublist _) Cells.nil ?_
 refine VA.tkN 20 (.inl rfl) (zt ze) (List.nil_sublist _) Cells.nil ?_
 refine VA.tkN 21 (.inl rfl) (zt ze) (List.nil_sublist _) Cells.nil ?_
 refine VA.tk 22 rfl (zt ze) (List.nil_sublist _) Cells.nil (Quiet.c (Q.pick_true rfl rfl)) ?_
 refine VA.tk 23 rfl (zt ze) (List.nil_sublist _) Cells.nil (Quiet.c (Q.assign rfl)) ?_
 refine VA.done (by kernel_rfl) ?_
 refine VE.seq ?_
 refine VC.ret ?_
 refine VE.ret rfl (.tmp rfl .nil) () ?_ ?_ (List.nil_sublist _)
 ·
  trivial
 ·
  first | rfl | (exfalso; simp at *; omega)

theorem better_t (c b : Cd) (hc : CdOk c) (hb : CdOk b) (gf gb : Nat) :
  Does Tryz.prog 97 [.agg #[.int .u8 2, .int .u8 0, .int .u8 0, .int .u8 0, .int .u8 1, .int .u8 (c.a : Int), .int .i64 c.ch, .int .i64 c.lv, .int .i64 c.ld, .int .i64 c.hd, .int .i64 c.iv, .string c.nm, .bool c.sec], .pointer (some ⟨gf, 0, none⟩), .pointer (some ⟨gb, 0, none⟩)] [] (fun W => W.cell? ⟨gf, 0, none⟩ = some (.bool true) ∧ Rd W (some ⟨gb, 0, none⟩) (cdC b)) (X := Unit) (fun _ => True) (fun _ => .bool (betterB c b)) (fun _ => []) := by
 have h1 := hc.lv
 have h2 := hc.ld
 have h3 := hb.lv
 have h4 := hb.ld
 have h5 := cmpZ_bd (c.lv - c.ld) (b.lv - b.ld)
 have h6 := cmpZ_bd c.lv b.lv
 refine Does.enter Tryz.func97 rfl (m := 28) rfl (by simp) ?_
 intro W0 hro
 refine VC.seq ?_
 refine VC.region ?_
 refine VL.eff (O.box rfl rfl (by decide) ?_)
 intro g3
 refine VL.q (Q.assign rfl) ?_
 refine VL.nil ?_
 refine VE.seq ?_
 refine VC.seq ?_
 refine VA.start (Ls := [.blk g3 [.int .u8 2, .int .u8 0, .int .u8 0, .int .u8 0, .int .u8 1, .int .u8 (c.a : Int), .int .i64 c.ch, .int .i64 c.lv, .int .i64 c.ld, .int .i64 c.hd, .int .i64 c.iv, .string c.nm, .bool c.sec] 117]) (Cs := []) mixed ?_
 refine VA.tk 0 rfl (zt ze) (List.singleton_sublist.2 zM) Cells.nil (Quiet.c (Q.load0 (v := .bool true) ty4 rfl hro.1 (by simp))) ?_
 refine VA.tk 1 rfl (zt ze) (List.singleton_sublist.2 zM) Cells.nil (Quiet.c (Q.not rfl)) ?_
 refine VA.tk 2 rfl (zt ze) (List.singleton_sublist.2 zM) Cells.nil (Quiet.c (Q.move rfl)) ?_
 refine VA.tkY 3 rfl (zt ze) (List.singleton_sublist.2 zM) Cells.nil (Quiet.c (Q.fieldAddr fa117_2 rfl)) ?_
 refine VA.tkY 4 rfl (zt ze) (List.singleton_sublist.2 zM) Cells.nil (Quiet.c (Q.load1 ty3 rfl zM rfl)) ?_
 refine VA.tkY 5 rfl (zt ze) (List.singleton_sublist.2 zM) Cells.nil (Quiet.c (Q.fieldAddr fa117_3 rfl)) ?_
 refine VA.tkY 6 rfl (zt ze) (List.singleton_sublist.2 zM) Cells.nil (Quiet.c (Q.load1 ty3 rfl zM rfl)) ?_
 refine VA.tkY 7 rfl (zt ze) (List.singleton_sublist.2 zM) Cells.nil (Quiet.c ((by first | exact Q.subI rfl rfl (by omega) (by omega) | exact Q.sub rfl rfl))) ?_
 refine VA.tkY 8 rfl (zt ze) (List.singleton_sublist.2 zM) Cells.nil (Quiet.c (Q.fieldAddr fa117_2 rfl)) ?_
 refine VA.tkY 9 rfl (zt ze) (List.singleton_sublist.2 zM) Cells.nil (Quiet.c (Q.load0 ty3 rfl (Rd.at (j := 7) hro.2 rfl) (by simp))) ?_
 refine VA.tkY 10 rfl (zt ze) (List.singleton_sublist.2 zM) Cells.nil (Quiet.c (Q.fieldAddr fa117_3 rfl)) ?_
 refine VA.tkY 11 rfl (zt ze) (List.singleton_sublist.2 zM) Cells.nil (Quiet.c (Q.load0 ty3 rfl (Rd.at (j := 8) hro.2 rfl) (by simp))) ?_
 refine VA.tkY 12 rfl (zt ze) (List.singleton_sublist.2 zM) Cells.nil (Quiet.c ((by first | exact Q.subI rfl rfl (by omega) (by omega) | exact Q.sub rfl rfl))) ?_
 refine VA.tkY 14 rfl (zt ze) (List.singleton_sublist.2 zM) Cells.nil (Quiet.c (Q.fieldAddr fa117_2 rfl)) ?_
 refine VA.tkY 15 rfl (zt ze) (List.singleton_sublist.2 zM) Cells.nil (Quiet.c (Q.load1 ty3 rfl zM rfl)) ?_
 refine VA.tkY 16 rfl (zt ze) (List.singleton_sublist.2 zM) Cells.nil (Quiet.c (Q.fieldAddr fa117_2 rfl)) ?_
 refine VA.tkY 17 rfl (zt ze) (List.singleton_sublist.2 zM) Cells.nil (Quiet.c (Q.load0 ty3 rfl (Rd.at (j := 7) hro.2 rfl) (by simp))) ?_
 refine VA.all (rs := [13]) (by kernel_rfl) (by simp) ?_
 refine VA.forall1 ?_
 ·
  refine VA.effY rfl rfl rfl ?_
  refine id (O.call0 ok93 rfl rfl (by decide) (cmp_c _ _) (fun _ _ _ => trivial) ?_)
  intro x18 y18
  refine VA.next (List.singleton_sublist.2 zM) Cells.nil ?_
  refine VA.all (rs := [18]) (by kernel_rfl) (by simp) ?_
  refine VA.forall1 ?_
  ·
   refine VA.effY rfl rfl rfl ?_
   refine id (O.call0 ok93 rfl rfl (by decide) (cmp_c _ _) (fun _ _ _ => trivial) ?_)
   intro x23 y23
   refine VA.next (List.singleton_sublist.2 zM) Cells.nil ?_
   refine VA.all (rs := [19]) (by kernel_rfl) (by simp) ?_
   refine VA.forall1 ?_
   ·
    refine VA.effY rfl rfl rfl ?_
    refine id (O.buildSlice sl78 ze3 (by decide) zF (by decide) ?_)
    intro g24
    refine VA.next (List.singleton_sublist.2 zM) Cells.nil ?_
    refine VA.all (rs := [20]) (by kernel_rfl) (by simp) ?_
    refine VA.forall1 ?_
    ·
     refine VA.effY rfl rfl rfl ?_
     refine id (O.call0 ok98 rfl rfl (by decide) (or_c g24 _ _) (fun _ _ hW => Rd.own hW zM (fun j u hj => by rw [Nat.zero_add]; exact hj)) ?_)
     intro x25 y25
     refine VA.next (List.singleton_sublist.2 zM) Cells.nil ?_
     refine VA.tkY 21 rfl (zt ze) (List.singleton_sublist.2 zM) Cells.nil (Quiet.c (Q.gt rfl rfl)) ?_
     refine VA.tk 22 rfl (zt ze) (List.singleton_sublist.2 zM) Cells.nil (Quiet.c (Q.pick_false rfl rfl)) ?_
     refine VA.tk 23 rfl (zt ze) (List.singleton_sublist.2 zM) Cells.nil (Quiet.c (Q.assign rfl)) ?_
     refine VA.done (by kernel_rfl) ?_
     refine VE.seq ?_
     refine VC.ret ?_
     refine VE.ret rfl (.tmp rfl .nil) () ?_ ?_ (List.nil_sublist _)
     ·
      trivial
     ·
      first | rfl | (exfalso; simp at *; omega)

theorem better_c (c : Cd) (hc : CdOk c) (b : Option Cd) (hb : ∀ q, b = some q → CdOk q) (gf gb : Nat) : Does Tryz.prog 97 [.agg #[.int .u8 2, .int .u8 0, .int .u8 0, .int .u8 0, .int .u8 1, .int .u8 (c.a : Int), .int .i64 c.ch, .int .i64 c.lv, .int .i64 c.ld, .int .i64 c.hd, .int .i64 c.iv, .string c.nm, .bool c.sec], .pointer (some ⟨gf, 0, none⟩), .pointer (some ⟨gb, 0, none⟩)] [] (fun W => W.cell? ⟨gf, 0, none⟩ = some (.bool b.isSome) ∧ Rd W (some ⟨gb, 0, none⟩) (bestC b)) (X := Unit) (fun _ => True) (fun _ => .bool (betterO c b)) (fun _ => []) := by
  cases b with
  | none => exact (better_n c gf gb).mono (fun W h => h.1) fun x hx => ⟨x, hx, rfl, List.Sublist.refl _⟩
  | some b => exact (better_t c b hc (hb b rfl) gf gb).mono (fun W h => h) fun x hx => ⟨x, hx, rfl, List.Sublist.refl _⟩

theorem sasked_c (p : Option Addr) (n c : Nat) (l : List Cd) (hl : l.length = n) (hn : n ≤ 60) (hok : CdsOk l) (now : Int) (hnow : 0 ≤ now ∧ now ≤ 1099511627776) :
  Does Tryz.prog 96 [.agg #[.slice p n c], .int .i64 now] [] (fun W => Rd W p (l.flatMap cdC)) (X := Unit) (fun _ => True) (fun _ => .int .i64 0) (fun _ => []) := by
 refine Does.enter Tryz.func96 rfl (m := 14) rfl (by simp) ?_
 intro W0 hro
 refine VC.seq ?_
 refine VC.region ?_
 refine VL.eff (O.box rfl rfl (by decide) ?_)
 intro g2
 refine VL.q (Q.assign rfl) ?_
 refine VL.nil ?_
 refine VE.seq ?_
 refine VC.seq ?_
 refine VC.seq ?_
 refine VC.region ?_
 refine VL.q (Q.loadA ty83 rfl zM zS) ?_
 refine VL.eff (O.call0 ok83 rfl rfl (by decide) (scheck_c p n c l hl hn hok) (fun _ ho _ => hro.only0 ho) ?_)
 intro x7 y7
 refine VL.q (Q.assign rfl) ?_
 refine VL.nil ?_
 refine VE.seq ?_
 refine VC.seq ?_
 refine VC.region ?_
 refine VL.q (Q.move rfl) ?_
 refine VL.quietE (v' := .bool false) (by decide) (Q.ne rfl rfl) (by rfl) ?_
 refine VL.nil ?_
 refine VE.seq ?_
 refine VC.condF rfl ?_
 refine VC.skip ?_
 refine VE.seq ?_
 refine VC.seq ?_
 refine VC.seq ?_
 refine VC.region ?_
 refine VL.q (Q.move rfl) ?_
 refine VL.eff (O.call0 ok54 rfl rfl (by decide) (sin_c _ _ _ hnow) (fun _ _ _ => trivial) ?_)
 intro x12 y12
 refine VL.quietE (v' := .bool false) (by decide) (Q.not rfl) (by rfl) ?_
 refine VL.nil ?_
 refine VE.seq ?_
 refine VC.condF rfl ?_
 refine VC.skip ?_
 refine VE.seq ?_
 refine VC.seq ?_
 refine VC.region ?_
 refine VL.q (Q.assign rfl) ?_
 refine VL.nil ?_
 refine VE.seq ?_
 refine VC.ret ?_
 refine VE.ret rfl (.tmp rfl .nil) () ?_ ?_ (List.nil_sublist _)
 ·
  trivial
 ·
  first | rfl | (exfalso; simp at *; omega)

theorem choose_c (p : Option Addr) (n c : Nat) (l : List Cd) (hl : l.length = n) (hn : n ≤ 60) (hok : CdsOk l) (name : ByteArray) (sec : Bool) (now : Int) (hnow : 0 ≤ now ∧ now ≤ 1099511627776) (hh : ∀ q ∈ l, q.hd ≤ now) :
  Does Tryz.prog 28 [.agg #[.slice p n c], .agg #[.string name, .bool sec, .int .i64 (-2000), .int .i64 1099511627776], .int .i64 now] [] (fun W => Rd W p (l.flatMap cdC)) (X := Unit) (fun _ => True) (fun _ => chooseV (pickF name sec l)) (fun _ => []) := by
 subst hl
 refine Does.enter Tryz.func28 rfl (m := 73) rfl (by simp) ?_
 intro W0 hro
 refine VC.seq ?_
 refine VC.region ?_
 refine VL.eff (O.box rfl rfl (by decide) ?_)
 intro g3
 refine VL.eff (O.box rfl rfl (by decide) ?_)
 intro g4
 refine VL.eff (O.alloc zo117 (by decide) ?_)
 intro g6
 refine VL.q (Q.assign rfl) ?_
 refine VL.nil ?_
 refine VE.seq ?_
 refine VC.seq ?_
 refine VC.seq ?_
 refine VC.region ?_
 refine VL.q (Q.loadA ty83 rfl zM zS) ?_
 refine VL.q (Q.move rfl) ?_
 refine VL.eff (O.call0 ok96 rfl rfl (by decide) (sasked_c p l.length c l rfl hn hok now hnow) (fun _ ho _ => hro.only0 ho) ?_)
 intro x16 y16
 refine VL.q (Q.assign rfl) ?_
 refine VL.nil ?_
 refine VE.seq ?_
 refine VC.seq ?_
 refine VC.region ?_
 refine VL.q (Q.move rfl) ?_
 refine VL.quietE (v' := .bool false) (by decide) (Q.ne rfl rfl) (by rfl) ?_
 refine VL.nil ?_
 refine VE.seq ?_
 refine VC.condF rfl ?_
 refine VC.skip ?_
 refine VE.seq ?_
 refine VC.seq ?_
 refine VC.region ?_
 refine VL.eff (O.alloc zo4 (by decide) ?_)
 intro g9
 refine VL.eff (O.store ty4 rfl rfl rfl rfl zU zP ?_)
 refine VL.nil ?_
 refine VE.seq ?_
 refine VC.seq ?_
 refine VC.region ?_
 refine VL.q (Q.makeFunc rfl rfl) ?_
 refine VL.q (Q.assign rfl) ?_
 refine VL.nil ?_
 refine VE.seq ?_
 refine VC.seq ?_
 refine VC.seq ?_
 refine VC.region ?_
 refine VL.q (Q.fieldAddr fa83_0 rfl) ?_
 refine VL.q (Q.load1 ty81 rfl zM rfl) ?_
 refine VL.q (Q.len sl81 rfl) ?_
 refine VL.q (Q.move rfl) ?_
 refine VL.nil ?_
 refine VE.seq ?_
 refine VC.block ?_
 refine VC.loop (X := Nat × Option Cd) (fun x => [(2, .int .i64 now), (3, .pointer (some ⟨g3, 0, none⟩)), (4, .pointer (some ⟨g4, 0, none⟩)), (6, .pointer (some ⟨g6, 0, none⟩)), (9, .pointer (some ⟨g9, 0, none⟩)), (10, .func (.func 97) #[] #[.pointer (some ⟨g9, 0, none⟩), .pointer (some ⟨g6, 0, none⟩)]), (23, .slice p l.length c), (24, .int .i64 (l.length : Int)), (25, .int .i64 (x.1 : Int))]) (fun x => [.blk g9 [.bool x.2.isSome] 4, .blk g6 (bestC x.2) 117, .blk g4 [.string name, .bool sec, .int .i64 (-2000), .int .i64 1099511627776] 121, .blk g3 [.slice p l.length c] 83]) (fun x => x.1 ≤ l.length ∧ x.2 = pickF name sec (l.take x.1)) (fun x => l.length - x.1) (0, none) ⟨Nat.zero_le _, rfl⟩ ?_ ?_
 ·
  exact VS.mk zE (List.Sublist.refl _)
 ·
  rintro x ⟨hk, hx2⟩
  refine VC.seq ?_
  refine VC.region ?_
  refine VL.q (Q.lt rfl rfl) ?_
  refine VL.nil ?_
  refine VE.seq ?_
  refine VC.seq ?_
  refine VC.cond rfl ?_ ?_
  ·
   intro h26
   have hlt : x.1 < l.length := by have := of_decide_eq_true h26; omega
   obtain ⟨b0, o0, rfl⟩ := hro.pos (by rw [fm_length cdC_len]; omega)
   have hck := hok.ok _ (List.getElem_mem hlt)
   have hc1 := hck.hd
   have hc2 := hck.lv
   have hc3 := hh _ (List.getElem_mem hlt)
   have hbo : ∀ q, x.2 = some q → CdOk q := fun q hq => by
    rw [hx2] at hq
    rcases pick_mem name sec _ none q hq with h | h
    ·
     exact hok.ok q (List.mem_of_mem_take h)
    ·
     cases h
   refine VC.skip ?_
   refine VE.seq ?_
   refine VC.seq ?_
   refine VC.block ?_
   refine VC.seq ?_
   refine VC.region ?_
   refine VL.q (Q.indexAddr sl81 (j := x.1) rfl rfl rfl hlt) ?_
   refine VL.q (Q.load0A (xs := cdC l[x.1]) ty117 rfl (Rd.sg hro (fm_seg cdC_len l x.1 hlt)) (by simp)) ?_
   refine VL.eff (O.alloc zo117 (by decide) ?_)
   intro g12
   refine VL.eff (O.store ty117 rfl rfl rfl rfl zU zP ?_)
   refine VL.nil ?_
   refine VE.seq ?_
   refine VC.seq ?_
   refine VC.region ?_
   refine VL.q (Q.move rfl) ?_
   refine VL.q (Q.fieldAddr fa117_4 rfl) ?_
   refine VL.q (Q.load1 ty3 rfl zM rfl) ?_
   refine VL.q ((by first | exact Q.subI rfl rfl (by omega) (by omega) | exact Q.sub rfl rfl)) ?_
   refine VL.q (Q.assign rfl) ?_
   refine VL.nil ?_
   refine VE.seq ?_
   refine VC.seq ?_
   refine VC.region ?_
   refine VL.q (Q.fieldAddr fa117_6 rfl) ?_
   refine VL.q (Q.load1 ty9 rfl zM rfl) ?_
   refine VL.q (Q.fieldAddr fa121_0 rfl) ?_
   refine VL.q (Q.load1 ty9 rfl zM rfl) ?_
   refine VL.q (Q.eqStrB rfl rfl) ?_
   refine VL.q (Q.move rfl) ?_
   refine VK.case 38 rfl ?_ ?_
   ·
    intro h38
    refine VL.yes rfl rfl ?_
    refine VL.q (Q.fieldAddr fa117_7 rfl) ?_
    refine VL.yes rfl rfl ?_
    refine VL.q (Q.load1 ty4 rfl zM rfl) ?_
    refine VL.yes rfl rfl ?_
    refine VL.q (Q.fieldAddr fa121_1 rfl) ?_
    refine VL.yes rfl rfl ?_
    refine VL.q (Q.load1 ty4 rfl zM rfl) ?_
    refine VL.yes rfl rfl ?_
    refine VL.q (Q.beq ub4 rfl rfl) ?_
    refine VL.q (Q.pick_true rfl rfl) ?_
    refine VL.q (Q.move rfl) ?_
    refine VK.case 45 rfl ?_ ?_
    ·
     intro h45
     refine VL.yes rfl rfl ?_
     refine VL.q (Q.fieldAddr fa117_2 rfl) ?_
     refine VL.yes rfl rfl ?_
     refine VL.q (Q.load1 ty3 rfl zM rfl) ?_
     refine VL.yes rfl rfl ?_
     refine VL.q (Q.fieldAddr fa121_2 rfl) ?_
     refine VL.yes rfl rfl ?_
     refine VL.q (Q.load1 ty3 rfl zM rfl) ?_
     refine VL.yes rfl rfl ?_
     refine VL.quietE (v' := .bool true) (by decide) (Q.ge rfl rfl) (congrArg Value.bool (decide_eq_true (by omega))) ?_
     refine VL.quietE (v' := .bool true) (by decide) (Q.pick_true rfl rfl) (by rfl) ?_
     refine VL.q (Q.move rfl) ?_
     refine VL.yes rfl rfl ?_
     refine VL.q (Q.move rfl) ?_
     refine VL.yes rfl rfl ?_
     refine VL.quietE (v' := .bool true) (by decide) (Q.ge rfl rfl) (congrArg Value.bool (decide_eq_true (by omega))) ?_
     refine VL.quietE (v' := .bool true) (by decide) (Q.pick_true rfl rfl) (by rfl) ?_
     refine VL.q (Q.move rfl) ?_
     refine VL.yes rfl rfl ?_
     refine VL.q (Q.move rfl) ?_
     refine VL.yes rfl rfl ?_
     refine VL.q (Q.fieldAddr fa121_3 rfl) ?_
     refine VL.yes rfl rfl ?_
     refine VL.q (Q.load1 ty3 rfl zM rfl) ?_
     refine VL.yes rfl rfl ?_
     refine VL.quietE (v' := .bool true) (by decide) (Q.le rfl rfl) (congrArg Value.bool (decide_eq_true (by omega))) ?_
     refine VL.quietE (v' := .bool true) (by decide) (Q.pick_true rfl rfl) (by rfl) ?_
     refine VL.q (Q.move rfl) ?_
     refine VL.yes rfl rfl ?_
     refine VL.q (Q.move rfl) ?_
     refine VL.yes rfl rfl ?_
     refine VL.q (Q.loadA ty117 rfl zM zS) ?_
     refine VL.yes rfl rfl ?_
     refine VL.eff (O.callV (first := []) ok97 rfl rfl (by decide) (better_c l[x.1] hck x.2 hbo g9 g6) (fun _ _ hW => ⟨by rw [own_cell hW zM]; rfl, Rd.own hW zM (fun j u hj => by rw [Nat.zero_add]; exact hj)⟩) ?_)
     intro x65 y65
     refine VL.q (Q.pick_true rfl rfl) ?_
     refine VL.nil ?_
     refine VE.seq ?_
     refine VC.cond rfl ?_ ?_
     ·
      intro h66
      refine VC.region ?_
      refine VL.q (Q.loadA ty117 rfl zM zS) ?_
      refine VL.eff (O.store (xs := cdC l[x.1]) ty117 rfl rfl rfl (cdC_one _) zU (Put.all (bestC_len _)) ?_)
      refine VL.eff (O.store ty4 rfl rfl rfl rfl zU zP ?_)
      refine VL.nil ?_
      refine VE.block_normal ?_
      refine VE.seq ?_
      refine VC.region ?_
      refine VL.q ((by first | exact Q.addI rfl rfl (by omega) (by omega) | exact Q.add rfl rfl)) ?_
      refine VL.q (Q.move rfl) ?_
      refine VL.nil ?_
      refine VE.then_normal ?_
      refine VK.picks (Lin := [.blk g9 [.bool (some l[x.1]).isSome] 4, .blk g6 (bestC (some l[x.1])) 117, .blk g4 [.string name, .bool sec, .int .i64 (-2000), .int .i64 1099511627776] 121, .blk g3 [.slice (some ⟨b0, o0, none⟩) l.length c] 83]) zM2 ?_
      refine VE.round ((x.1 + 1, (some l[x.1])) : Nat × Option Cd) ?_ ?_ ?_ (List.Sublist.refl _)
      ·
       refine ⟨hlt, ?_⟩
       show (some l[x.1]) = pickF name sec (l.take (x.1 + 1))
       rw [pick_step name sec l x.1 hlt, ← hx2]
       simp [pstep, h38, h45, h66]
      ·
       show l.length - (x.1 + 1) < l.length - x.1
       omega
      ·
       exact zE
     ·
      intro h66
      refine VC.skip ?_
      refine VE.block_normal ?_
      refine VE.seq ?_
      refine VC.region ?_
      refine VL.q ((by first | exact Q.addI rfl rfl (by omega) (by omega) | exact Q.add rfl rfl)) ?_
      refine VL.q (Q.move rfl) ?_
      refine VL.nil ?_
      refine VE.then_normal ?_
      refine VK.picks (Lin := [.blk g9 [.bool x.2.isSome] 4, .blk g6 (bestC x.2) 117, .blk g4 [.string name, .bool sec, .int .i64 (-2000), .int .i64 1099511627776] 121, .blk g3 [.slice (some ⟨b0, o0, none⟩) l.length c] 83]) zM2 ?_
      refine VE.round ((x.1 + 1, x.2) : Nat × Option Cd) ?_ ?_ ?_ (List.Sublist.refl _)
      ·
       refine ⟨hlt, ?_⟩
       show x.2 = pickF name sec (l.take (x.1 + 1))
       rw [pick_step name sec l x.1 hlt, ← hx2]
       simp [pstep, h38, h45, h66]
      ·
       show l.length - (x.1 + 1) < l.length - x.1
       omega
      ·
       exact zE
    ·
     intro h45
     refine VL.no (by simp) rfl rfl (.inl rfl) ?_
     refine VL.no (by simp) rfl rfl (.inl rfl) ?_
     refine VL.no (by simp) rfl rfl (.inl rfl) ?_
     refine VL.no (by simp) rfl rfl (.inl rfl) ?_
     refine VL.no (by simp) rfl rfl (.inl rfl) ?_
     refine VL.quietE (v' := .bool false) (by decide) (Q.pick_false rfl rfl) (by rfl) ?_
     refine VL.q (Q.move rfl) ?_
     refine VL.no (by simp) rfl rfl (.inl rfl) ?_
     refine VL.no (by simp) rfl rfl (.inl rfl) ?_
     refine VL.quietE (v' := .bool false) (by decide) (Q.pick_false rfl rfl) (by rfl) ?_
     refine VL.q (Q.move rfl) ?_
     refine VL.no (by simp) rfl rfl (.inl rfl) ?_
     refine VL.no (by simp) rfl rfl (.inl rfl) ?_
     refine VL.no (by simp) rfl rfl (.inl rfl) ?_
     refine VL.no (by simp) rfl rfl (.inl rfl) ?_
     refine VL.quietE (v' := .bool false) (by decide) (Q.pick_false rfl rfl) (by rfl) ?_
     refine VL.q (Q.move rfl) ?_
     refine VL.no (by simp) rfl rfl (.inl rfl) ?_
     refine VL.no (by simp) rfl rfl (.inl rfl) ?_
     refine VL.no (by simp) rfl rfl (.inl rfl) ?_
     refine VL.quietE (v' := .bool false) (by decide) (Q.pick_false rfl rfl) (by rfl) ?_
     refine VL.nil ?_
     refine VE.seq ?_
     refine VC.condF rfl ?_
     refine VC.skip ?_
     refine VE.block_normal ?_
     refine VE.seq ?_
     refine VC.region ?_
     refine VL.q ((by first | exact Q.addI rfl rfl (by omega) (by omega) | exact Q.add rfl rfl)) ?_
     refine VL.q (Q.move rfl) ?_
     refine VL.nil ?_
     refine VE.then_normal ?_
     refine VK.picks (Lin := [.blk g9 [.bool x.2.isSome] 4, .blk g6 (bestC x.2) 117, .blk g4 [.string name, .bool sec, .int .i64 (-2000), .int .i64 1099511627776] 121, .blk g3 [.slice (some ⟨b0, o0, none⟩) l.length c] 83]) zM2 ?_
     refine VE.round ((x.1 + 1, x.2) : Nat × Option Cd) ?_ ?_ ?_ (List.Sublist.refl _)
     ·
      refine ⟨hlt, ?_⟩
      show x.2 = pickF name sec (l.take (x.1 + 1))
      rw [pick_step name sec l x.1 hlt, ← hx2]
      simp [pstep, h38, h45]
     ·
      show l.length - (x.1 + 1) < l.length - x.1
      omega
     ·
      exact zE
   ·
    intro h38
    refine VL.no (by simp) rfl rfl (.inl rfl) ?_
    refine VL.no (by simp) rfl rfl (.inl rfl) ?_
    refine VL.no (by simp) rfl rfl (.inl rfl) ?_
    refine VL.no (by simp) rfl rfl (.inl rfl) ?_
    refine VL.no (by simp) rfl rfl (.inl rfl) ?_
    refine VL.quietE (v' := .bool false) (by decide) (Q.pick_false rfl rfl) (by rfl) ?_
    refine VL.q (Q.move rfl) ?_
    refine VL.no (by simp) rfl rfl (.inl rfl) ?_
    refine VL.no (by simp) rfl rfl (.inl rfl) ?_
    refine VL.no (by simp) rfl rfl (.inl rfl) ?_
    refine VL.no (by simp) rfl rfl (.inl rfl) ?_
    refine VL.no (by simp) rfl rfl (.inl rfl) ?_
    refine VL.quietE (v' := .bool false) (by decide) (Q.pick_false rfl rfl) (by rfl) ?_
    refine VL.q (Q.move rfl) ?_
    refine VL.no (by simp) rfl rfl (.inl rfl) ?_
    refine VL.no (by simp) rfl rfl (.inl rfl) ?_
    refine VL.quietE (v' := .bool false) (by decide) (Q.pick_false rfl rfl) (by rfl) ?_
    refine VL.q (Q.move rfl) ?_
    refine VL.no (by simp) rfl rfl (.inl rfl) ?_
    refine VL.no (by simp) rfl rfl (.inl rfl) ?_
    refine VL.no (by simp) rfl rfl (.inl rfl) ?_
    refine VL.no (by simp) rfl rfl (.inl rfl) ?_
    refine VL.quietE (v' := .bool false) (by decide) (Q.pick_false rfl rfl) (by rfl) ?_
    refine VL.q (Q.move rfl) ?_
    refine VL.no (by simp) rfl rfl (.inl rfl) ?_
    refine VL.no (by simp) rfl rfl (.inl rfl) ?_
    refine VL.no (by simp) rfl rfl (.inl rfl) ?_
    refine VL.quietE (v' := .bool false) (by decide) (Q.pick_false rfl rfl) (by rfl) ?_
    refine VL.nil ?_
    refine VE.seq ?_
    refine VC.condF rfl ?_
    refine VC.skip ?_
    refine VE.block_normal ?_
    refine VE.seq ?_
    refine VC.region ?_
    refine VL.q ((by first | exact Q.addI rfl rfl (by omega) (by omega) | exact Q.add rfl rfl)) ?_
    refine VL.q (Q.move rfl) ?_
    refine VL.nil ?_
    refine VE.then_normal ?_
    refine VK.picks (Lin := [.blk g9 [.bool x.2.isSome] 4, .blk g6 (bestC x.2) 117, .blk g4 [.string name, .bool sec, .int .i64 (-2000), .int .i64 1099511627776] 121, .blk g3 [.slice (some ⟨b0, o0, none⟩) l.length c] 83]) zM2 ?_
    refine VE.round ((x.1 + 1, x.2) : Nat × Option Cd) ?_ ?_ ?_ (List.Sublist.refl _)
    ·
     refine ⟨hlt, ?_⟩
     show x.2 = pickF name sec (l.take (x.1 + 1))
     rw [pick_step name sec l x.1 hlt, ← hx2]
     simp [pstep, h38]
    ·
     show l.length - (x.1 + 1) < l.length - x.1
     omega
    ·
     exact zE
  ·
   intro h26
   have hke : x.1 = l.length := by have := of_decide_eq_false h26; omega
   rw [hke, List.take_length] at hx2
   refine VC.exit ?_
   refine VE.then_exit ?_
   refine VE.then_exit ?_
   refine VE.block_here ?_
   refine VE.seq ?_
   rcases hb : x.2 with _ | b
   ·
    rw [hb] at hx2
    refine VC.seq ?_
    refine VC.seq ?_
    refine VC.region ?_
    refine VL.q (Q.load1 ty4 rfl zM rfl) ?_
    refine VL.quietE (v' := .bool true) (by decide) (Q.not rfl) (by rfl) ?_
    refine VL.nil ?_
    refine VE.seq ?_
    refine VC.condT rfl ?_
    refine VC.seq ?_
    refine VC.region ?_
    refine VL.q (Q.loadA ty117 rfl zM zS) ?_
    refine VL.eff (O.store ty117 rfl rfl rfl rfl zU zP ?_)
    refine VL.q (Q.assign rfl) ?_
    refine VL.nil ?_
    refine VE.seq ?_
    refine VC.ret ?_
    refine VE.then_ret ?_
    rw [← hx2]
    exact VE.ret rfl (.cell ty117 rfl zM rfl (.tmp rfl .nil)) () trivial rfl (List.nil_sublist _)
   ·
    rw [hb] at hx2
    refine VC.seq ?_
    refine VC.seq ?_
    refine VC.region ?_
    refine VL.q (Q.load1 ty4 rfl zM rfl) ?_
    refine VL.quietE (v' := .bool false) (by decide) (Q.not rfl) (by rfl) ?_
    refine VL.nil ?_
    refine VE.seq ?_
    refine VC.condF rfl ?_
    refine VC.skip ?_
    refine VE.seq ?_
    refine VC.seq ?_
    refine VC.region ?_
    refine VL.q (Q.loadA ty117 rfl zM zS) ?_
    refine VL.eff (O.store ty117 rfl rfl rfl rfl zU zP ?_)
    refine VL.q (Q.assign rfl) ?_
    refine VL.nil ?_
    refine VE.seq ?_
    refine VC.ret ?_
    rw [← hx2]
    exact VE.ret rfl (.cell ty117 rfl zM rfl (.tmp rfl .nil)) () trivial rfl (List.nil_sublist _)

end Go.Proofs.YtencghlmckbmlaaGreat
