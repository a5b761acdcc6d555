/- The contracts of the bytes of announcements and actions. Conditions: those that each bears. -/
import Derived.Test.YtencghlmckbmlaaGreatRows
import Derived.Test.YtencghlmckbmlaaGreatZPut
import Derived.Test.YtencghlmckbmlaaGreatZRoot
namespace Go.Proofs.YtencghlmckbmlaaGreat
open Go Go.RowKit Go.Sx
set_option maxRecDepth 100000

theorem fa132_0 : tyField Tryz.prog 132 0 = some 0 := by kernel_rfl
theorem fa132_4 : tyField Tryz.prog 132 4 = some 9 := by kernel_rfl
theorem fa141_0 : tyField Tryz.prog 141 0 = some 0 := by kernel_rfl
theorem fa141_1 : tyField Tryz.prog 141 1 = some 1 := by kernel_rfl
theorem fa141_2 : tyField Tryz.prog 141 2 = some 2 := by kernel_rfl
theorem fa141_3 : tyField Tryz.prog 141 3 = some 3 := by kernel_rfl
theorem fa232_0 : tyField Tryz.prog 232 0 = some 0 := by kernel_rfl
theorem fa232_1 : tyField Tryz.prog 232 1 = some 2 := by kernel_rfl
theorem fa279_0 : tyField Tryz.prog 279 0 = some 0 := by kernel_rfl
theorem lay141 : laysOf Tryz.prog 141 = some ([.int .u8 0, .int .u8 0, .int .u8 0, .slice none 0 0], [(0, 1), (1, 1), (2, 1), (3, 1)]) := by kernel_rfl
theorem lay230 : laysOf Tryz.prog 230 = some ([.slice none 0 0, .int .i64 0], [(0, 1), (1, 1)]) := by kernel_rfl
theorem lay232 : laysOf Tryz.prog 232 = some ([.slice none 0 0, .int .i64 0, .int .i64 0], [(0, 2), (2, 1)]) := by kernel_rfl
theorem lay279 : laysOf Tryz.prog 279 = some ([.slice none 0 0], [(0, 1)]) := by kernel_rfl
theorem ok106 : okFunc Tryz.prog 106 = true := by kernel_rfl
theorem ok107 : okFunc Tryz.prog 107 = true := by kernel_rfl
theorem ok109 : okFunc Tryz.prog 109 = true := by kernel_rfl
theorem ok110 : okFunc Tryz.prog 110 = true := by kernel_rfl
theorem ok111 : okFunc Tryz.prog 111 = true := by kernel_rfl
theorem ok112 : okFunc Tryz.prog 112 = true := by kernel_rfl
theorem ok113 : okFunc Tryz.prog 113 = true := by kernel_rfl
theorem ok140 : okFunc Tryz.prog 140 = true := by kernel_rfl
theorem ok168 : okFunc Tryz.prog 168 = true := by kernel_rfl
theorem ok169 : okFunc Tryz.prog 169 = true := by kernel_rfl
theorem ok170 : okFunc Tryz.prog 170 = true := by kernel_rfl
theorem ok171 : okFunc Tryz.prog 171 = true := by kernel_rfl
theorem ok78 : okFunc Tryz.prog 78 = true := by kernel_rfl
theorem ty141 : tySz Tryz.prog 141 = some (true, 4) := by kernel_rfl
theorem ty72 : tySz Tryz.prog 72 = some (false, 1) := by kernel_rfl
theorem zo141 : tyZero Tryz.prog 141 = some [.int .u8 0, .int .u8 0, .int .u8 0, .slice none 0 0] := by kernel_rfl

open Go.Mesh
def gateN (r : Nat) : Nat := if r = 0 then 1 else 0
def wordB (r s h co : Nat) : List UInt8 := nodeB r ++ putLE 4 s ++ putLE 1 h ++ putLE 8 co ++ putLE 1 (gateN r)
theorem wordB_len (r s h co : Nat) : (wordB r s h co).length = 20 := rfl
theorem word_root (r s h co : Nat) : ((wordB r s h co).drop 0).take 6 = nodeB r := rfl
theorem word_seq (r s h co : Nat) (hs : s < 4294967296) : leP (((wordB r s h co).drop 6).take 4) = s := (show leP (putLE 4 s) = s from leP_put s 4 hs)
theorem word_hops (r s h co : Nat) (hh : h < 256) : leP (((wordB r s h co).drop 10).take 1) = h := (show leP (putLE 1 h) = h from leP_put h 1 hh)
theorem word_cost (r s h co : Nat) (hc : co < 18446744073709551616) : leP (((wordB r s h co).drop 11).take 8) = co := (show leP (putLE 8 co) = co from leP_put co 8 hc)
theorem word_gate (r s h co : Nat) : leP (((wordB r s h co).drop 19).take 1) = gateN r := (show leP (putLE 1 (gateN r)) = gateN r from leP_put _ 1 (by unfold gateN; split <;> decide))
theorem gate_le (r : Nat) : gateN r ≤ 1 := by unfold gateN; split <;> decide
theorem gate_is (r : Nat) : (((gateN r : Nat) : Int) == 1) = decide (r = 0) := by
  unfold gateN
  by_cases h : r = 0 <;> simp [h]
def actB (l : List UInt8) : List UInt8 := [13, 1, 7] ++ l
theorem actB_len (l : List UInt8) : (actB l).length = 3 + l.length := by simp [actB]; omega

theorem rencode_c (r s h co : Nat) (hr : r < 2) (hs : 1 ≤ s ∧ s ≤ 2147483647) (hh : h ≤ 15) (hco : co ≤ 1099511627776) :
  Does Tryz.prog 103 [.agg #[.int .u8 2, .int .u8 0, .int .u8 0, .int .u8 0, .int .u8 2, .int .u8 (r : Int), .int .i64 (s : Int), .int .i64 (h : Int), .int .i64 (co : Int), .bool (decide (r = 0))]] [] (fun _ => True) (X := Option Addr × Nat) (fun x => 20 ≤ x.2) (fun x => .tuple #[.slice x.1 20 x.2, .int .i64 0]) (fun x => [.row (.slice x.1 20 x.2) 5 1 20 (bs (wordB r s h co))]) := by
 refine Does.enter Tryz.func103 rfl (m := 32) rfl (by simp) ?_
 intro W0 hro
 refine VC.seq ?_
 refine VC.region ?_
 refine VL.eff (O.box rfl rfl (by decide) ?_)
 intro g1
 refine VL.q (Q.assign rfl) ?_
 refine VL.q (Q.assign rfl) ?_
 refine VL.nil ?_
 refine VE.seq ?_
 refine VC.seq ?_
 refine VC.seq ?_
 refine VC.region ?_
 refine VL.q (Q.loadA ty132 rfl zM zS) ?_
 refine VL.eff (O.call0 ok113 rfl rfl (by decide) (checkword_c r s h co (decide (r = 0)) hs hh hco) (fun _ _ _ => trivial) ?_)
 intro x7 y7
 refine VL.quietE (v' := .bool false) (by decide) (Q.not rfl) (by rfl) ?_
 refine VL.nil ?_
 refine VE.seq ?_
 refine VC.condF rfl ?_
 refine VC.skip ?_
 refine VE.seq ?_
 refine VC.seq ?_
 refine VC.region ?_
 refine VL.q (Q.fieldAddr fa132_0 rfl) ?_
 refine VL.q (Q.slcA0 ar44 (h := _) rfl rfl (by omega)) ?_
 refine VL.eff (O.call0 ok168 rfl rfl (by decide) (clone_byte (some ⟨g1, 0, none⟩) 6 6 (nodeC r) rfl rfl (by decide)) (fun _ _ hw => Rd.seg (k := 6) hw zM zS) ?_)
 intro x11 y11
 rw [← nodeB_bs r (by omega)]
 refine VL.q (Q.assign rfl) ?_
 refine VL.nil ?_
 refine VE.seq ?_
 refine VC.seq ?_
 refine VC.region ?_
 refine VL.q (Q.move rfl) ?_
 refine VL.q (Q.fieldAddr fa132_1 rfl) ?_
 refine VL.q (Q.load1 ty3 rfl zM rfl) ?_
 refine VL.q ((by first | exact Q.convF ti3 ti236 rfl (by simp only [klo]; omega) (by simp only [khi]; omega) | exact Q.convM (M := 4294967296) ti3 ti236 rfl rfl rfl | exact Q.conv ti3 ti236 rfl)) ?_
 refine VL.eff (O.call0 ok169 rfl rfl (by decide) (put32_c x11.1 6 x11.2 s (nodeB r) (by simp [putLE_len, nodeB]) (by decide) (by omega)) (fun _ _ hw => Rd.row hw zM) ?_)
 intro x16 y16
 refine VL.q (Q.assign rfl) ?_
 refine VL.nil ?_
 refine VE.seq ?_
 refine VC.seq ?_
 refine VC.region ?_
 refine VL.q (Q.move rfl) ?_
 refine VL.q (Q.fieldAddr fa132_2 rfl) ?_
 refine VL.q (Q.load1 ty3 rfl zM rfl) ?_
 refine VL.q ((by first | exact Q.convF ti3 ti5 rfl (by simp only [klo]; omega) (by simp only [khi]; omega) | exact Q.convM (M := 256) ti3 ti5 rfl rfl rfl | exact Q.conv ti3 ti5 rfl)) ?_
 refine VL.eff (O.call0 ok170 rfl rfl (by decide) (put8_c x16.1 10 x16.2 h (nodeB r ++ putLE 4 s) (by simp [putLE_len, nodeB]) (by decide) (by omega)) (fun _ _ hw => Rd.row hw zM) ?_)
 intro x21 y21
 refine VL.q (Q.assign rfl) ?_
 refine VL.nil ?_
 refine VE.seq ?_
 refine VC.seq ?_
 refine VC.region ?_
 refine VL.q (Q.move rfl) ?_
 refine VL.q (Q.fieldAddr fa132_3 rfl) ?_
 refine VL.q (Q.load1 ty3 rfl zM rfl) ?_
 refine VL.q ((by first | exact Q.convF ti3 ti108 rfl (by simp only [klo]; omega) (by simp only [khi]; omega) | exact Q.convM (M := 18446744073709551616) ti3 ti108 rfl rfl rfl | exact Q.conv ti3 ti108 rfl)) ?_
 refine VL.eff (O.call0 ok140 rfl rfl (by decide) (put64_c x21.1 11 x21.2 co (nodeB r ++ putLE 4 s ++ putLE 1 h) (by simp [putLE_len, nodeB]) (by decide) (by omega)) (fun _ _ hw => Rd.row hw zM) ?_)
 intro x26 y26
 refine VL.q (Q.assign rfl) ?_
 refine VL.nil ?_
 refine VE.seq ?_
 refine VC.seq ?_
 refine VC.region ?_
 refine VL.q (Q.assign rfl) ?_
 refine VL.nil ?_
 refine VE.seq ?_
 refine VC.seq ?_
 refine VC.seq ?_
 refine VC.region ?_
 refine VL.q (Q.fieldAddr fa132_4 rfl) ?_
 refine VL.q (Q.load1 ty4 rfl zM rfl) ?_
 refine VL.nil ?_
 refine VE.seq ?_
 refine VC.cond rfl ?_ ?_
 ·
  intro h28
  have hg : gateN r = 1 := if_pos (of_decide_eq_true h28)
  refine VC.region ?_
  refine VL.q (Q.assign rfl) ?_
  refine VL.nil ?_
  refine VE.seq ?_
  refine VC.seq ?_
  refine VC.region ?_
  refine VL.q (Q.move rfl) ?_
  refine VL.q (Q.move rfl) ?_
  refine VL.eff (O.call0 ok170 rfl rfl (by decide) (put8_c x26.1 19 x26.2 1 (nodeB r ++ putLE 4 s ++ putLE 1 h ++ putLE 8 co) (by simp [putLE_len, nodeB]) (by decide) (by decide)) (fun _ _ hw => Rd.row hw zM) ?_)
  intro x31 y31
  refine VL.q (Q.assign rfl) ?_
  refine VL.q (Q.assign rfl) ?_
  refine VL.nil ?_
  refine VE.seq ?_
  refine VC.ret ?_
  have he : wordB r s h co = nodeB r ++ putLE 4 s ++ putLE 1 h ++ putLE 8 co ++ putLE 1 1 := by unfold wordB; rw [hg]
  rw [← he]
  exact VE.ret rfl (.tmp rfl (.tmp rfl .nil)) _ y31 rfl zB
 ·
  intro h28
  have hg : gateN r = 0 := if_neg (of_decide_eq_false h28)
  refine VC.skip ?_
  refine VE.seq ?_
  refine VC.seq ?_
  refine VC.region ?_
  refine VL.q (Q.move rfl) ?_
  refine VL.q (Q.move rfl) ?_
  refine VL.eff (O.call0 ok170 rfl rfl (by decide) (put8_c x26.1 19 x26.2 0 (nodeB r ++ putLE 4 s ++ putLE 1 h ++ putLE 8 co) (by simp [putLE_len, nodeB]) (by decide) (by decide)) (fun _ _ hw => Rd.row hw zM) ?_)
  intro x31_1 y31_1
  refine VL.q (Q.assign rfl) ?_
  refine VL.q (Q.assign rfl) ?_
  refine VL.nil ?_
  refine VE.seq ?_
  refine VC.ret ?_
  have he : wordB r s h co = nodeB r ++ putLE 4 s ++ putLE 1 h ++ putLE 8 co ++ putLE 1 0 := by unfold wordB; rw [hg]
  rw [← he]
  exact VE.ret rfl (.tmp rfl (.tmp rfl .nil)) _ y31_1 rfl zB

theorem rdecode_c (p : Option Addr) (c : Nat) (hc : 20 ≤ c) (r s h co : Nat) (hr : r < 2) (hs : 1 ≤ s ∧ s ≤ 2147483647) (hh : h ≤ 15) (hco : co ≤ 1099511627776) :
  Does Tryz.prog 42 [.slice p 20 c] [] (fun W => Rd W p (bs (wordB r s h co))) (X := Unit) (fun _ => True) (fun _ => .tuple #[.agg #[.int .u8 2, .int .u8 0, .int .u8 0, .int .u8 0, .int .u8 2, .int .u8 (r : Int), .int .i64 (s : Int), .int .i64 (h : Int), .int .i64 (co : Int), .bool (decide (r = 0))], .int .i64 0]) (fun _ => []) := by
 refine Does.enter Tryz.func42 rfl (m := 98) rfl (by simp) ?_
 intro W0 hro
 obtain ⟨b, o, rfl⟩ := hro.pos (by rw [bs_length]; exact Nat.zero_lt_succ _)
 have hg := gate_le r
 refine VC.seq ?_
 refine VC.region ?_
 refine VL.eff (O.alloc zo132 (by decide) ?_)
 intro g2
 refine VL.q (Q.assign rfl) ?_
 refine VL.nil ?_
 refine VE.seq ?_
 refine VC.seq ?_
 refine VC.region ?_
 refine VL.eff (O.alloc zo132 (by decide) ?_)
 intro g4
 refine VL.nil ?_
 refine VE.seq ?_
 refine VC.seq ?_
 refine VC.region ?_
 refine VL.q (Q.move rfl) ?_
 refine VL.q (Q.build lay230 zF) ?_
 refine VL.eff (O.call0 ok108 rfl rfl (by decide) (otake_c b o 20 c 0 6 (wordB r s h co) rfl (by decide) (by decide) hc (by decide)) (fun _ ho _ => hro.only0 ho) ?_)
 intro x16 y16
 obtain ⟨p16, c16⟩ := x16
 refine VK.rowHead (m := 6) zM (by decide) ?_
 intro gr hgr _ _
 dsimp only at hgr
 subst hgr
 rw [word_root, nodeB_bs r (by omega)]
 refine VL.q (Q.move rfl) ?_
 refine VL.q (Q.extract rfl rfl) ?_
 refine VL.q (Q.extract rfl rfl) ?_
 refine VL.q (Q.extract rfl rfl) ?_
 refine VL.eff (O.alloc zo230 (by decide) ?_)
 intro g6
 refine VL.q (Q.assign rfl) ?_
 refine VL.eff (O.store ty230 rfl rfl rfl rfl zU zP ?_)
 refine VL.q (Q.assign rfl) ?_
 refine VL.nil ?_
 refine VE.seq ?_
 refine VC.seq ?_
 refine VC.seq ?_
 refine VC.region ?_
 refine VL.q (Q.move rfl) ?_
 refine VL.quietE (v' := .bool false) (by decide) (Q.ne rfl rfl) (by rfl) ?_
 refine VL.nil ?_
 refine VE.seq ?_
 refine VC.condF rfl ?_
 refine VC.skip ?_
 refine VE.seq ?_
 refine VC.seq ?_
 refine VC.region ?_
 refine VL.q (Q.fieldAddr fa132_0 rfl) ?_
 refine VL.q (Q.slcA0 ar44 (h := _) rfl rfl (by omega)) ?_
 refine VL.q (Q.move rfl) ?_
 refine VL.eff (O.copyR sl23 rfl rfl zM zS rfl (by decide) zU zP ?_)
 refine VL.nil ?_
 refine VE.seq ?_
 refine VC.seq ?_
 refine VC.region ?_
 refine VL.q (Q.loadA ty230 rfl zM zS) ?_
 refine VL.eff (O.call0 ok109 rfl rfl (by decide) (u32_c b o 20 c 6 (wordB r s h co) rfl (by decide) hc (by decide)) (fun _ ho _ => hro.only0 ho) ?_)
 intro x30 y30
 rw [word_seq r s h co (by omega)]
 refine VL.q (Q.move rfl) ?_
 refine VL.q (Q.extract rfl rfl) ?_
 refine VL.q (Q.extract rfl rfl) ?_
 refine VL.q (Q.extract rfl rfl) ?_
 refine VL.q (Q.assign rfl) ?_
 refine VL.eff (O.store ty230 rfl rfl rfl rfl zU zP ?_)
 refine VL.q (Q.assign rfl) ?_
 refine VL.nil ?_
 refine VE.seq ?_
 refine VC.seq ?_
 refine VC.seq ?_
 refine VC.region ?_
 refine VL.q (Q.move rfl) ?_
 refine VL.quietE (v' := .bool false) (by decide) (Q.ne rfl rfl) (by rfl) ?_
 refine VL.nil ?_
 refine VE.seq ?_
 refine VC.condF rfl ?_
 refine VC.skip ?_
 refine VE.seq ?_
 refine VC.seq ?_
 refine VC.region ?_
 refine VL.q (Q.loadA ty230 rfl zM zS) ?_
 refine VL.eff (O.call0 ok110 rfl rfl (by decide) (u8_c b o 20 c 10 (wordB r s h co) rfl (by decide) hc (by decide)) (fun _ ho _ => hro.only0 ho) ?_)
 intro x40 y40
 rw [word_hops r s h co (by omega)]
 refine VL.q (Q.move rfl) ?_
 refine VL.q (Q.extract rfl rfl) ?_
 refine VL.q (Q.extract rfl rfl) ?_
 refine VL.q (Q.extract rfl rfl) ?_
 refine VL.q (Q.assign rfl) ?_
 refine VL.eff (O.store ty230 rfl rfl rfl rfl zU zP ?_)
 refine VL.q (Q.assign rfl) ?_
 refine VL.nil ?_
 refine VE.seq ?_
 refine VC.seq ?_
 refine VC.seq ?_
 refine VC.region ?_
 refine VL.q (Q.move rfl) ?_
 refine VL.quietE (v' := .bool false) (by decide) (Q.ne rfl rfl) (by rfl) ?_
 refine VL.nil ?_
 refine VE.seq ?_
 refine VC.condF rfl ?_
 refine VC.skip ?_
 refine VE.seq ?_
 refine VC.seq ?_
 refine VC.region ?_
 refine VL.q (Q.loadA ty230 rfl zM zS) ?_
 refine VL.eff (O.call0 ok111 rfl rfl (by decide) (u64_c b o 20 c 11 (wordB r s h co) rfl (by decide) hc (by decide)) (fun _ ho _ => hro.only0 ho) ?_)
 intro x50 y50
 rw [word_cost r s h co (by omega)]
 refine VL.q (Q.move rfl) ?_
 refine VL.q (Q.extract rfl rfl) ?_
 refine VL.q (Q.extract rfl rfl) ?_
 refine VL.q (Q.extract rfl rfl) ?_
 refine VL.q (Q.assign rfl) ?_
 refine VL.eff (O.store ty230 rfl rfl rfl rfl zU zP ?_)
 refine VL.q (Q.assign rfl) ?_
 refine VL.nil ?_
 refine VE.seq ?_
 refine VC.seq ?_
 refine VC.seq ?_
 refine VK.keep (by exact .cons (i := 2) rfl (.cons (i := 3) rfl (.cons (i := 4) rfl (.cons (i := 6) rfl (.cons (i := 7) rfl (.cons (i := 8) rfl (.cons (i := 9) rfl (.cons (i := 10) rfl ( .nil))))))))) ?_
 refine VC.region ?_
 refine VL.q (Q.move rfl) ?_
 refine VL.quietE (v' := .bool false) (by decide) (Q.ne rfl rfl) (by rfl) ?_
 refine VL.nil ?_
 refine VE.seq ?_
 refine VC.condF rfl ?_
 refine VC.skip ?_
 refine VE.seq ?_
 refine VC.seq ?_
 refine VC.region ?_
 refine VL.q (Q.loadA ty230 rfl zM zS) ?_
 refine VL.eff (O.call0 ok110 rfl rfl (by decide) (u8_c b o 20 c 19 (wordB r s h co) rfl (by decide) hc (by decide)) (fun _ ho _ => hro.only0 ho) ?_)
 intro x60 y60
 rw [word_gate r s h co]
 refine VL.q (Q.move rfl) ?_
 refine VL.q (Q.extract rfl rfl) ?_
 refine VL.q (Q.extract rfl rfl) ?_
 refine VL.q (Q.extract rfl rfl) ?_
 refine VL.q (Q.assign rfl) ?_
 refine VL.eff (O.store ty230 rfl rfl rfl rfl zU zP ?_)
 refine VL.q (Q.assign rfl) ?_
 refine VL.nil ?_
 refine VE.seq ?_
 refine VC.seq ?_
 refine VC.seq ?_
 refine VC.region ?_
 refine VL.q (Q.move rfl) ?_
 refine VL.quietE (v' := .bool false) (by decide) (Q.ne rfl rfl) (by rfl) ?_
 refine VL.nil ?_
 refine VE.seq ?_
 refine VC.condF rfl ?_
 refine VC.skip ?_
 refine VE.seq ?_
 refine VC.seq ?_
 refine VC.seq ?_
 refine VC.region ?_
 refine VL.q (Q.loadA ty230 rfl zM zS) ?_
 refine VL.eff (O.call0 ok112 rfl rfl (by decide) (odone_c _ 20 c _ rfl) (fun _ _ _ => trivial) ?_)
 intro x69 y69
 refine VL.q (Q.assign rfl) ?_
 refine VL.nil ?_
 refine VE.seq ?_
 refine VC.seq ?_
 refine VC.region ?_
 refine VL.q (Q.move rfl) ?_
 refine VL.quietE (v' := .bool false) (by decide) (Q.ne rfl rfl) (by rfl) ?_
 refine VL.nil ?_
 refine VE.seq ?_
 refine VC.condF rfl ?_
 refine VC.skip ?_
 refine VE.seq ?_
 refine VC.seq ?_
 refine VC.region ?_
 refine VL.q (Q.move rfl) ?_
 refine VL.q ((by first | exact Q.convF ti236 ti3 rfl (by simp only [klo]; omega) (by simp only [khi]; omega) | exact Q.convM (M := 0) ti236 ti3 rfl rfl rfl | exact Q.conv ti236 ti3 rfl)) ?_
 refine VL.q (Q.move rfl) ?_
 refine VL.q ((by first | exact Q.convF ti5 ti3 rfl (by simp only [klo]; omega) (by simp only [khi]; omega) | exact Q.convM (M := 0) ti5 ti3 rfl rfl rfl | exact Q.conv ti5 ti3 rfl)) ?_
 refine VL.q (Q.move rfl) ?_
 refine VL.quietE (v' := .bool (decide (r = 0))) (by decide) (Q.eq rfl rfl) (congrArg Value.bool (gate_is r)) ?_
 refine VL.q (Q.fieldAddr fa132_1 rfl) ?_
 refine VL.eff (O.store ty3 rfl rfl rfl rfl zU zP ?_)
 refine VL.q (Q.fieldAddr fa132_2 rfl) ?_
 refine VL.eff (O.store ty3 rfl rfl rfl rfl zU zP ?_)
 refine VL.q (Q.fieldAddr fa132_4 rfl) ?_
 refine VL.eff (O.store ty4 rfl rfl rfl rfl zU zP ?_)
 refine VL.nil ?_
 refine VE.seq ?_
 refine VC.seq ?_
 refine VC.seq ?_
 refine VC.region ?_
 refine VL.q (Q.move rfl) ?_
 refine VL.quietE (v' := .bool false) (by decide) (Q.gt rfl rfl) (congrArg Value.bool (decide_eq_false (by omega))) ?_
 refine VL.q (Q.move rfl) ?_
 refine VL.yes rfl rfl ?_
 refine VL.q (Q.move rfl) ?_
 refine VL.yes rfl rfl ?_
 refine VL.quietE (v' := .bool false) (by decide) (Q.gt rfl rfl) (congrArg Value.bool (decide_eq_false (by omega))) ?_
 refine VL.quietE (v' := .bool false) (by decide) (Q.pick_false rfl rfl) (by rfl) ?_
 refine VL.nil ?_
 refine VE.seq ?_
 refine VC.condF rfl ?_
 refine VC.skip ?_
 refine VE.seq ?_
 refine VC.seq ?_
 refine VC.region ?_
 refine VL.q (Q.move rfl) ?_
 refine VL.q ((by first | exact Q.convF ti108 ti3 rfl (by simp only [klo]; omega) (by simp only [khi]; omega) | exact Q.convM (M := 0) ti108 ti3 rfl rfl rfl | exact Q.conv ti108 ti3 rfl)) ?_
 refine VL.q (Q.fieldAddr fa132_3 rfl) ?_
 refine VL.eff (O.store ty3 rfl rfl rfl rfl zU zP ?_)
 refine VL.nil ?_
 refine VE.seq ?_
 refine VC.seq ?_
 refine VC.seq ?_
 refine VK.keep (by exact .cons (i := 2) rfl (.cons (i := 3) rfl (.cons (i := 4) rfl ( .nil)))) ?_
 refine VC.region ?_
 refine VL.q (Q.loadA ty132 rfl zM zS) ?_
 refine VL.eff (O.call0 ok113 rfl rfl (by decide) (checkword_c r s h co (decide (r = 0)) hs hh hco) (fun _ _ _ => trivial) ?_)
 intro x94 y94
 refine VL.quietE (v' := .bool false) (by decide) (Q.not rfl) (by rfl) ?_
 refine VL.nil ?_
 refine VE.seq ?_
 refine VC.condF rfl ?_
 refine VC.skip ?_
 refine VE.seq ?_
 refine VC.seq ?_
 refine VC.region ?_
 refine VL.q (Q.loadA ty132 rfl zM zS) ?_
 refine VL.eff (O.store ty132 rfl rfl rfl rfl zU zP ?_)
 refine VL.q (Q.assign rfl) ?_
 refine VL.nil ?_
 refine VE.seq ?_
 refine VC.ret ?_
 refine VE.ret rfl (.cell ty132 rfl zM rfl (.tmp rfl .nil)) () ?_ ?_ (List.nil_sublist _)
 ·
  trivial
 ·
  first | rfl | (exfalso; simp at *; omega)

theorem wend_c (gw g : Nat) (p : Option Addr) (m c : Nat) (l : List UInt8) (hl : l.length = m) (hm : m ≤ 2301) :
  Does Tryz.prog 171 [.pointer (some ⟨gw, 0, none⟩), .slice p m c] [.blk gw [.slice (some ⟨g, 0, none⟩) 3 3] 279, .row (.slice (some ⟨g, 0, none⟩) 3 3) 5 1 3 (bs [13, 1, 7])] (fun W => Rd W p (bs l) ∧ (∀ x, p = some x → x.block ∉ [gw, g])) (X := Option Addr × Nat) (fun x => 3 + m ≤ x.2) (fun x => .tuple #[.slice x.1 (3 + m) x.2, .int .i64 0]) (fun x => [.row (.slice x.1 (3 + m) x.2) 5 1 (3 + m) (bs (actB l))]) := by
 refine Does.enter Tryz.func171 rfl (m := 21) rfl (by simp) ?_
 rintro W0 ⟨hro, hdis⟩
 refine VC.seq ?_
 refine VC.region ?_
 refine VL.q (Q.assign rfl) ?_
 refine VL.q (Q.assign rfl) ?_
 refine VL.nil ?_
 refine VE.seq ?_
 refine VC.seq ?_
 refine VC.seq ?_
 refine VC.region ?_
 refine VL.q (Q.move rfl) ?_
 refine VL.q (Q.nilCheck rfl) ?_
 refine VL.q (Q.fieldAddr fa279_0 rfl) ?_
 refine VL.q (Q.load1 ty23 rfl zM rfl) ?_
 refine VL.q (Q.len sl23 rfl) ?_
 refine VL.q (Q.move rfl) ?_
 refine VL.q (Q.len sl23 rfl) ?_
 refine VL.q ((by first | exact Q.addI rfl rfl (by omega) (by omega) | exact Q.add rfl rfl)) ?_
 refine VL.quietE (v' := .bool false) (by decide) (Q.gt rfl rfl) (congrArg Value.bool (decide_eq_false (by omega))) ?_
 refine VL.nil ?_
 refine VE.seq ?_
 refine VC.condF rfl ?_
 refine VC.skip ?_
 refine VE.seq ?_
 refine VC.seq ?_
 refine VC.region ?_
 refine VL.q (Q.move rfl) ?_
 refine VL.q (Q.nilCheck rfl) ?_
 refine VL.q (Q.fieldAddr fa279_0 rfl) ?_
 refine VL.q (Q.load1 ty23 rfl zM rfl) ?_
 refine VL.q (Q.move rfl) ?_
 refine VL.eff (O.append sl23 ze5 rfl (by decide) rfl rfl (by rw [bs_length]; omega) (bs_one l) (by decide) (by unfold maxLen; omega) (by omega) zA (fun _ ho _ => hro.only ho hdis) ?_)
 intro p20 c20 hc20
 rw [show bs [13, 1, 7] ++ bs l = bs (actB l) from (bs_append _ _).symm]
 refine VL.q (Q.assign rfl) ?_
 refine VL.q (Q.assign rfl) ?_
 refine VL.nil ?_
 refine VE.seq ?_
 refine VC.ret ?_
 exact VE.ret rfl (.tmp rfl (.tmp rfl .nil)) (p20, c20) hc20 rfl zB

theorem encact_c (p : Option Addr) (m c : Nat) (l : List UInt8) (hl : l.length = m) (h1 : 1 ≤ m) (hm : m ≤ 2301) :
  Does Tryz.prog 104 [.agg #[.int .u8 13, .int .u8 1, .int .u8 7, .slice p m c]] [] (fun W => Rd W p (bs l)) (X := Option Addr × Nat) (fun x => 3 + m ≤ x.2) (fun x => .tuple #[.slice x.1 (3 + m) x.2, .int .i64 0]) (fun x => [.row (.slice x.1 (3 + m) x.2) 5 1 (3 + m) (bs (actB l))]) := by
 refine Does.enter Tryz.func104 rfl (m := 20) rfl (by simp) ?_
 intro W0 hro
 obtain ⟨b, o, rfl⟩ := hro.pos (by rw [bs_length]; omega)
 have hb := hro.lt (by rw [bs_length]; omega)
 refine VC.seq ?_
 refine VC.region ?_
 refine VL.eff (O.box rfl rfl (by decide) ?_)
 intro g1
 refine VL.q (Q.assign rfl) ?_
 refine VL.q (Q.assign rfl) ?_
 refine VL.nil ?_
 refine VE.seq ?_
 refine VC.seq ?_
 refine VC.region ?_
 refine VL.q (Q.fieldAddr fa141_0 rfl) ?_
 refine VL.q (Q.load1 ty5 rfl zM rfl) ?_
 refine VL.q (Q.fieldAddr fa141_1 rfl) ?_
 refine VL.q (Q.load1 ty5 rfl zM rfl) ?_
 refine VL.q (Q.fieldAddr fa141_2 rfl) ?_
 refine VL.q (Q.load1 ty5 rfl zM rfl) ?_
 refine VL.eff (O.buildSlice sl23 ze5 (by decide) zF (by decide) ?_)
 intro g11
 refine VL.q (Q.build lay279 zF) ?_
 refine VL.eff (O.box rfl rfl (by decide) ?_)
 intro g13
 refine VL.q (Q.assign rfl) ?_
 refine VL.nil ?_
 refine VE.seq ?_
 refine VC.seq ?_
 refine VC.region ?_
 refine VL.q (Q.move rfl) ?_
 refine VL.q (Q.fieldAddr fa141_3 rfl) ?_
 refine VL.q (Q.load1 ty23 rfl zM rfl) ?_
 refine VK.toRow (g := g11) (s := 1) (m := 3) (c := 3) zU rfl (by omega) (by unfold maxLen; omega) ?_
 refine VK.freshR (r := .blk g13 [.slice (some ⟨g11, 0, none⟩) 3 3] 279) zM ?_
 intro f13
 refine VK.freshR (r := .row (.slice (some ⟨g11, 0, none⟩) 3 3) 5 1 3 (bs [13, 1, 7])) zM ?_
 intro f11
 have d13 : W0.heap.size ≤ g13 := by simpa [Rs.ids] using f13
 have d11 : W0.heap.size ≤ g11 := by simpa [Rs.ids, Value.ownBlock] using f11
 refine VL.eff (O.callP ok171 rfl rfl (by decide) (wend_c g13 g11 (some ⟨b, o, none⟩) m c l hl hm) zKs (fun _ ho _ => ⟨hro.only0 ho, fun x e => by cases e; simp; omega⟩) ?_)
 intro x17 y17
 refine VL.q (Q.extract rfl rfl) ?_
 refine VL.q (Q.extract rfl rfl) ?_
 refine VL.q (Q.assign rfl) ?_
 refine VL.q (Q.assign rfl) ?_
 refine VL.nil ?_
 refine VE.seq ?_
 refine VC.ret ?_
 exact VE.ret rfl (.tmp rfl (.tmp rfl .nil)) x17 y17 rfl zB

theorem bread_c (b o n c : Nat) (hn : n ≤ 2304) :
  Does Tryz.prog 78 [.slice (some ⟨b, o, none⟩) n c] [] (fun _ => True) (X := Nat) (fun _ => True) (fun x => .pointer (some ⟨x, 0, none⟩)) (fun x => [.blk x [.slice (some ⟨b, o, none⟩) n c, .int .i64 ((0 : Nat) : Int), .int .i64 0] 232]) := by
 refine Does.enter Tryz.func78 rfl (m := 15) rfl (by simp) ?_
 intro W0 hro
 refine VC.seq ?_
 refine VC.region ?_
 refine VL.q (Q.assign rfl) ?_
 refine VL.nil ?_
 refine VE.seq ?_
 refine VC.seq ?_
 refine VC.region ?_
 refine VL.q (Q.move rfl) ?_
 refine VL.q (Q.build lay230 zF) ?_
 refine VL.q (Q.build lay232 zF) ?_
 refine VL.eff (O.box rfl rfl (by decide) ?_)
 intro g7
 refine VL.q (Q.assign rfl) ?_
 refine VL.nil ?_
 refine VE.seq ?_
 refine VC.seq ?_
 refine VC.seq ?_
 refine VC.region ?_
 refine VL.q (Q.move rfl) ?_
 refine VL.q (Q.len sl23 rfl) ?_
 refine VL.quietE (v' := .bool false) (by decide) (Q.gt rfl rfl) (congrArg Value.bool (decide_eq_false (by omega))) ?_
 refine VL.nil ?_
 refine VE.seq ?_
 refine VC.condF rfl ?_
 refine VC.skip ?_
 refine VE.seq ?_
 refine VC.seq ?_
 refine VC.region ?_
 refine VL.q (Q.move rfl) ?_
 refine VL.q (Q.assign rfl) ?_
 refine VL.nil ?_
 refine VE.seq ?_
 refine VC.ret ?_
 refine VE.ret rfl (.tmp rfl .nil) g7 ?_ ?_ zB
 ·
  trivial
 ·
  first | rfl | (exfalso; simp at *; omega)

theorem bbytes_c (g b o n c at0 k : Nat) (l : List UInt8) (hl : l.length = n) (h : at0 + k ≤ n) (h1 : 1 ≤ k) (hc : n ≤ c) (hn : n ≤ 2304) :
  Does Tryz.prog 106 [.pointer (some ⟨g, 0, none⟩), .int .i64 (k : Int)] [.blk g [.slice (some ⟨b, o, none⟩) n c, .int .i64 (at0 : Int), .int .i64 0] 232] (fun W => Rd W (some ⟨b, o, none⟩) (bs l) ∧ b ≠ g) (X := Option Addr × Nat) (fun x => k ≤ x.2) (fun x => .slice x.1 k x.2) (fun x => [.row (.slice x.1 k x.2) 5 1 k (bs ((l.drop at0).take k)), .blk g [.slice (some ⟨b, o, none⟩) n c, .int .i64 ((at0 + k : Nat) : Int), .int .i64 0] 232]) := by
 refine Does.enter Tryz.func106 rfl (m := 36) rfl (by simp) ?_
 rintro W0 ⟨hro, hbg⟩
 refine VC.seq ?_
 refine VC.region ?_
 refine VL.q (Q.assign rfl) ?_
 refine VL.nil ?_
 refine VE.seq ?_
 refine VC.seq ?_
 refine VC.seq ?_
 refine VC.region ?_
 refine VL.q (Q.move rfl) ?_
 refine VL.q (Q.nilCheck rfl) ?_
 refine VL.q (Q.fieldAddr fa232_1 rfl) ?_
 refine VL.q (Q.load1 ty72 rfl zM rfl) ?_
 refine VL.quietE (v' := .bool true) (by decide) (Q.eq rfl rfl) (by rfl) ?_
 refine VL.nil ?_
 refine VE.seq ?_
 refine VC.condT rfl ?_
 refine VC.seq ?_
 refine VC.region ?_
 refine VL.q (Q.move rfl) ?_
 refine VL.q (Q.nilCheck rfl) ?_
 refine VL.q (Q.fieldAddr fa232_0 rfl) ?_
 refine VL.q (Q.loadA ty230 rfl zM zS) ?_
 refine VL.q (Q.move rfl) ?_
 refine VL.eff (O.call0 ok108 rfl rfl (by decide) (otake_c b o n c at0 k l hl h h1 hc (by omega)) (fun _ ho _ => hro.only ho (fun x e => by cases e; simpa [Rs.ids] using hbg)) ?_)
 intro x19 y19
 refine VL.q (Q.move rfl) ?_
 refine VL.q (Q.extract rfl rfl) ?_
 refine VL.q (Q.extract rfl rfl) ?_
 refine VL.q (Q.extract rfl rfl) ?_
 refine VL.eff (O.alloc zo230 (by decide) ?_)
 intro g6
 refine VL.q (Q.assign rfl) ?_
 refine VL.eff (O.store ty230 rfl rfl rfl rfl zU zP ?_)
 refine VL.q (Q.assign rfl) ?_
 refine VL.nil ?_
 refine VE.seq ?_
 refine VC.seq ?_
 refine VC.seq ?_
 refine VC.region ?_
 refine VL.q (Q.move rfl) ?_
 refine VL.quietE (v' := .bool true) (by decide) (Q.eq rfl rfl) (by rfl) ?_
 refine VL.nil ?_
 refine VE.seq ?_
 refine VC.condT rfl ?_
 refine VC.seq ?_
 refine VC.region ?_
 refine VL.q (Q.move rfl) ?_
 refine VL.q (Q.loadA ty230 rfl zM zS) ?_
 refine VL.q (Q.nilCheck rfl) ?_
 refine VL.q (Q.fieldAddr fa232_0 rfl) ?_
 refine VL.eff (O.store ty230 rfl rfl rfl rfl zU zP ?_)
 refine VL.nil ?_
 refine VE.seq ?_
 refine VC.seq ?_
 refine VC.region ?_
 refine VL.q (Q.move rfl) ?_
 refine VL.q (Q.assign rfl) ?_
 refine VL.nil ?_
 refine VE.seq ?_
 refine VC.ret ?_
 refine VE.then_ret ?_
 refine VE.then_ret ?_
 exact VE.ret rfl (.tmp rfl .nil) x19 y19 rfl zB

theorem bresult_c (g : Nat) (q : Option Addr) (m d : Nat) :
  Does Tryz.prog 107 [.agg #[.int .u8 13, .int .u8 1, .int .u8 7, .slice q m d], .pointer (some ⟨g, 0, none⟩)] [] (fun W => W.cell? ⟨g, 0 + 2, none⟩ = some (.int .i64 0)) (X := Unit) (fun _ => True) (fun _ => .tuple #[.agg #[.int .u8 13, .int .u8 1, .int .u8 7, .slice q m d], .int .i64 0]) (fun _ => []) := by
 refine Does.enter Tryz.func107 rfl (m := 18) rfl (by simp) ?_
 intro W0 hro
 refine VC.seq ?_
 refine VC.region ?_
 refine VL.eff (O.box rfl rfl (by decide) ?_)
 intro g2
 refine VL.eff (O.alloc zo141 (by decide) ?_)
 intro g4
 refine VL.q (Q.assign rfl) ?_
 refine VL.nil ?_
 refine VE.seq ?_
 refine VC.seq ?_
 refine VC.region ?_
 refine VL.eff (O.alloc zo141 (by decide) ?_)
 intro g6
 refine VL.nil ?_
 refine VE.seq ?_
 refine VC.seq ?_
 refine VC.seq ?_
 refine VC.region ?_
 refine VL.q (Q.move rfl) ?_
 refine VL.q (Q.nilCheck rfl) ?_
 refine VL.q (Q.fieldAddr fa232_1 rfl) ?_
 refine VL.q (Q.load0 ty72 rfl hro (by simp)) ?_
 refine VL.quietE (v' := .bool false) (by decide) (Q.ne rfl rfl) (by rfl) ?_
 refine VL.nil ?_
 refine VE.seq ?_
 refine VC.condF rfl ?_
 refine VC.skip ?_
 refine VE.seq ?_
 refine VC.seq ?_
 refine VC.region ?_
 refine VL.q (Q.loadA ty141 rfl zM zS) ?_
 refine VL.eff (O.store ty141 rfl rfl rfl rfl zU zP ?_)
 refine VL.q (Q.assign rfl) ?_
 refine VL.nil ?_
 refine VE.seq ?_
 refine VC.ret ?_
 refine VE.ret rfl (.cell ty141 rfl zM rfl (.tmp rfl .nil)) () ?_ ?_ (List.nil_sublist _)
 ·
  trivial
 ·
  first | rfl | (exfalso; simp at *; omega)

theorem decact_c (p : Option Addr) (m c : Nat) (l : List UInt8) (hl : l.length = m) (h1 : 1 ≤ m) (hm : m ≤ 2301) (hc : 3 + m ≤ c) :
  Does Tryz.prog 41 [.slice p (3 + m) c] [] (fun W => Rd W p (bs (actB l))) (X := Option Addr × Nat) (fun x => m ≤ x.2) (fun x => .tuple #[.agg #[.int .u8 13, .int .u8 1, .int .u8 7, .slice x.1 m x.2], .int .i64 0]) (fun x => [.row (.slice x.1 m x.2) 5 1 m (bs l)]) := by
 refine Does.enter Tryz.func41 rfl (m := 42) rfl (by simp) ?_
 intro W0 hro
 obtain ⟨b, o, rfl⟩ := hro.pos (by rw [bs_length, actB_len]; omega)
 have hb := hro.lt (by rw [bs_length, actB_len]; omega)
 have hal : (actB l).length = 3 + m := by rw [actB_len, hl]
 refine VC.seq ?_
 refine VC.region ?_
 refine VL.eff (O.alloc zo141 (by decide) ?_)
 intro g2
 refine VL.q (Q.assign rfl) ?_
 refine VL.nil ?_
 refine VE.seq ?_
 refine VC.seq ?_
 refine VC.region ?_
 refine VL.q (Q.move rfl) ?_
 refine VL.eff (O.call0 ok78 rfl rfl (by decide) (bread_c b o (3 + m) c (by omega)) (fun _ _ _ => trivial) ?_)
 intro x8 y8
 refine VK.freshR (r := .blk x8 [.slice (some ⟨b, o, none⟩) (3 + m) c, .int .i64 ((0 : Nat) : Int), .int .i64 0] 232) zM ?_
 intro f8
 have d8 : W0.heap.size ≤ x8 := by simpa [Rs.ids] using f8
 refine VL.q (Q.assign rfl) ?_
 refine VL.nil ?_
 refine VE.seq ?_
 refine VC.seq ?_
 refine VC.region ?_
 refine VL.q (Q.move rfl) ?_
 refine VL.eff (O.callP ok106 rfl rfl (by decide) (bbytes_c x8 b o (3 + m) c 0 3 (actB l) hal (by omega) (by decide) hc (by omega)) zKs (fun _ ho _ => ⟨hro.only0 ho, by omega⟩) ?_)
 intro x10 y10
 obtain ⟨p10, c10⟩ := x10
 rw [show ((actB l).drop 0).take 3 = [13, 1, 7] from rfl]
 refine VK.rowHead (m := 3) (p := p10) (c := c10) zM (by decide) ?_
 intro gr hgr _ _
 subst hgr
 refine VL.q (Q.assign rfl) ?_
 refine VL.nil ?_
 refine VE.seq ?_
 refine VC.seq ?_
 refine VA.start (Ls := [.row (.slice (some ⟨gr, 0, none⟩) 3 c10) 5 1 3 (bs [13, 1, 7])]) (Cs := []) mixed ?_
 refine VA.tk 0 rfl (Still.then Still.body) (List.singleton_sublist.2 zM) Cells.nil (Quiet.c (Q.move rfl)) ?_
 refine VA.tk 1 rfl (Still.then Still.body) (List.singleton_sublist.2 zM) Cells.nil (Quiet.c (Q.indexAddr sl23 (j := 0) rfl rfl rfl (by omega))) ?_
 refine VA.tk 2 rfl (Still.then Still.body) (List.singleton_sublist.2 zM) Cells.nil (Quiet.c (Q.loadRow ty5 rfl zM rfl)) ?_
 refine VA.tk 3 rfl (Still.then Still.body) (List.singleton_sublist.2 zM) Cells.nil (Quiet.c (Q.move rfl)) ?_
 refine VA.tk 4 rfl (Still.then Still.body) (List.singleton_sublist.2 zM) Cells.nil (Quiet.c (Q.indexAddr sl23 (j := 1) rfl rfl rfl (by omega))) ?_
 refine VA.tk 5 rfl (Still.then Still.body) (List.singleton_sublist.2 zM) Cells.nil (Quiet.c (Q.loadRow ty5 rfl zM rfl)) ?_
 refine VA.tk 6 rfl (Still.then Still.body) (List.singleton_sublist.2 zM) Cells.nil (Quiet.c (Q.move rfl)) ?_
 refine VA.tk 7 rfl (Still.then Still.body) (List.singleton_sublist.2 zM) Cells.nil (Quiet.c (Q.indexAddr sl23 (j := 2) rfl rfl rfl (by omega))) ?_
 refine VA.tk 8 rfl (Still.then Still.body) (List.singleton_sublist.2 zM) Cells.nil (Quiet.c (Q.loadRow ty5 rfl zM rfl)) ?_
 refine VA.tk 9 rfl (Still.then Still.body) (List.singleton_sublist.2 zM) Cells.nil (Quiet.c (Q.build lay141 zF)) ?_
 refine VA.all (rs := [10]) (by kernel_rfl) (by simp) ?_
 refine VA.forall1 ?_
 ·
  refine VA.eff rfl ?_
  refine id (O.alloc zo141 (by decide) ?_)
  intro g6
  refine VA.next (List.singleton_sublist.2 zM) Cells.nil ?_
  refine VA.all (rs := [11]) (by kernel_rfl) (by simp) ?_
  refine VA.forall1 ?_
  ·
   refine VA.eff rfl ?_
   refine id (O.store ty141 rfl rfl rfl rfl zU zP ?_)
   refine VA.next (List.singleton_sublist.2 zM) Cells.nil ?_
   refine VA.done (by kernel_rfl) ?_
   refine VE.seq ?_
   refine VC.seq ?_
   refine VC.seq ?_
   refine VC.region ?_
   refine VL.q (Q.move rfl) ?_
   refine VL.q (Q.nilCheck rfl) ?_
   refine VL.q (Q.fieldAddr fa232_1 rfl) ?_
   refine VL.q (Q.load1 ty72 rfl zM rfl) ?_
   refine VL.quietE (v' := .bool true) (by decide) (Q.eq rfl rfl) (by rfl) ?_
   refine VL.nil ?_
   refine VE.seq ?_
   refine VC.condT rfl ?_
   refine VC.region ?_
   refine VL.q (Q.move rfl) ?_
   refine VL.q (Q.move rfl) ?_
   refine VL.q (Q.len sl23 rfl) ?_
   refine VL.q (Q.move rfl) ?_
   refine VL.q (Q.nilCheck rfl) ?_
   refine VL.q (Q.fieldAddr fa232_0 rfl) ?_
   refine VL.q (Q.fieldAddr fa230_1 rfl) ?_
   refine VL.q (Q.load1 ty3 rfl zM rfl) ?_
   refine VL.quietE (v' := .int .i64 (m : Int)) (by decide) ((by first | exact Q.subI rfl rfl (by omega) (by omega) | exact Q.sub rfl rfl)) (congrArg (Value.int .i64) (by omega)) ?_
   refine VL.eff (O.callP ok106 rfl rfl (by decide) (bbytes_c x8 b o (3 + m) c 3 m (actB l) hal (by omega) h1 hc (by omega)) zKs (fun _ ho _ => ⟨hro.only0 ho, by omega⟩) ?_)
   intro x35 y35
   obtain ⟨p35, c35⟩ := x35
   have y35 : m ≤ c35 := y35
   rw [show ((actB l).drop 3).take m = l from List.take_of_length_le (by show l.length ≤ m; omega)]
   refine VL.q (Q.fieldAddr fa141_3 rfl) ?_
   refine VL.eff (O.store ty23 rfl rfl rfl rfl zU zP ?_)
   refine VL.nil ?_
   refine VE.seq ?_
   refine VC.seq ?_
   refine VC.region ?_
   refine VL.q (Q.loadA ty141 rfl zM zS) ?_
   refine VL.q (Q.move rfl) ?_
   refine VL.eff (O.call0 ok107 rfl rfl (by decide) (bresult_c x8 p35 m c35) (fun _ _ hw => (own_cell hw zM 2).trans rfl) ?_)
   intro x39 y39
   refine VL.q (Q.extract rfl rfl) ?_
   refine VL.q (Q.extract rfl rfl) ?_
   refine VL.eff (O.store ty141 rfl rfl rfl rfl zU zP ?_)
   refine VL.q (Q.assign rfl) ?_
   refine VL.nil ?_
   refine VE.seq ?_
   refine VC.ret ?_
   exact VE.ret rfl (.cell ty141 rfl zM rfl (.tmp rfl .nil)) (p35, c35) y35 rfl zB

end Go.Proofs.YtencghlmckbmlaaGreat
