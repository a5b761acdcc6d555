/- The contracts of package header, for the shapes of headers that the seat makes. Conditions: those that each bears. -/
import Derived.Test.YtencghlmckbmlaaDoorRows
import Derived.Test.YtencghlmckbmlaaDoorHeader
namespace Go.Proofs.YtencghlmckbmlaaDoor
open Go Go.RowKit Go.Sx
set_option maxRecDepth 100000

theorem fa58_0 : tyField Tryd.prog 58 0 = some 0 := by kernel_rfl
theorem fa58_1 : tyField Tryd.prog 58 1 = some 40 := by kernel_rfl
theorem ok28 : okFunc Tryd.prog 28 = true := by kernel_rfl
theorem ok29 : okFunc Tryd.prog 29 = true := by kernel_rfl
theorem ok30 : okFunc Tryd.prog 30 = true := by kernel_rfl
theorem ok31 : okFunc Tryd.prog 31 = true := by kernel_rfl
theorem ok50 : okFunc Tryd.prog 50 = true := by kernel_rfl
theorem sl25 : tySlice Tryd.prog 25 = some (4, 1, 1) := by kernel_rfl
theorem ty54 : tySz Tryd.prog 54 = some (false, 1) := by kernel_rfl
theorem ze4 : (Tryd.prog.info? 4).bind (·.zero) = some (.bool false) := by kernel_rfl

def hb_rts (D : Nat) : List UInt8 := [180, 0, UInt8.ofNat D, UInt8.ofNat (D / 256), 2, 0, 0, 0, 0, 1, 2, 0, 0, 0, 0, 2]
theorem hbs_rts (D : Nat) (hD : D ≤ 32767) : bs (hb_rts D) = [.int .u8 180, .int .u8 0, .int .u8 ((D : Int) % 256), .int .u8 ((D : Int) / 256), .int .u8 2, .int .u8 0, .int .u8 0, .int .u8 0, .int .u8 0, .int .u8 1, .int .u8 2, .int .u8 0, .int .u8 0, .int .u8 0, .int .u8 0, .int .u8 2] := by
  simp [bs, hb_rts]
  omega
theorem write_rts (D : Nat) (hD : D ≤ 32767) :
    Does Tryd.prog 31 [.agg #[.int .u8 1, .int .u8 11, .bool false, .bool false, .bool false, .bool false, .bool false, .bool false, .bool false, .int .i64 (D : Int), .int .u8 2, .int .u8 0, .int .u8 0, .int .u8 0, .int .u8 0, .int .u8 1, .int .u8 2, .int .u8 0, .int .u8 0, .int .u8 0, .int .u8 0, .int .u8 2, .int .u8 0, .int .u8 0, .int .u8 0, .int .u8 0, .int .u8 0, .int .u8 0, .int .u8 0, .int .u8 0, .int .u8 0, .int .u8 0, .int .u8 0, .int .u8 0, .int .i64 0, .int .i64 0, .int .i64 0, .int .u8 0, .bool false, .bool false]] [] (fun _ => True) (X := Option Addr × Nat) (fun x => 16 ≤ x.2) (fun x => .slice x.1 16 x.2) (fun x => [.row (.slice x.1 16 x.2) 5 1 16 (bs (hb_rts D))]) := by
  refine Does.enter Tryd.func31 rfl (m := 122) rfl (by simp) ?_
  intro W0 hro
  refine VC.seq ?_
  refine VC.region ?_
  refine VL.eff (O.box rfl rfl (by decide) ?_)
  intro g1
  refine VL.q (Q.assign rfl) ?_
  refine VL.nil ?_
  refine VE.seq ?_
  refine VC.seq ?_
  refine VC.region ?_
  refine VL.q (Q.fieldAddr fa50_0 rfl) ?_
  refine VL.q (Q.load1 ty5 rfl zM rfl) ?_
  refine VL.q (Q.fieldAddr fa50_1 rfl) ?_
  refine VL.q (Q.load1 ty5 rfl zM rfl) ?_
  refine VL.eff (O.call0 ok34 rfl rfl (by decide) (known_rts) (fun _ _ _ => trivial) ?_)
  intro x21 y21
  refine VL.q (Q.move rfl) ?_
  refine VL.q (Q.extract rfl rfl) ?_
  refine VL.q (Q.extract rfl rfl) ?_
  refine VL.eff (O.alloc zo90 (by decide) ?_)
  intro g3
  refine VL.eff (O.store ty90 rfl rfl rfl rfl zU zP ?_)
  refine VL.q (Q.assign rfl) ?_
  refine VL.nil ?_
  refine VE.seq ?_
  refine VC.seq ?_
  refine VC.region ?_
  refine VL.q (Q.assign rfl) ?_
  refine VL.nil ?_
  refine VE.seq ?_
  refine VC.seq ?_
  refine VC.seq ?_
  refine VC.region ?_
  refine VL.q (Q.fieldAddr fa50_2 rfl) ?_
  refine VL.q (Q.load1 ty4 rfl zM rfl) ?_
  refine VL.q (Q.fieldAddr fa50_3 rfl) ?_
  refine VL.q (Q.load1 ty4 rfl zM rfl) ?_
  refine VL.q (Q.fieldAddr fa50_4 rfl) ?_
  refine VL.q (Q.load1 ty4 rfl zM rfl) ?_
  refine VL.q (Q.fieldAddr fa50_5 rfl) ?_
  refine VL.q (Q.load1 ty4 rfl zM rfl) ?_
  refine VL.q (Q.fieldAddr fa50_6 rfl) ?_
  refine VL.q (Q.load1 ty4 rfl zM rfl) ?_
  refine VL.q (Q.fieldAddr fa50_7 rfl) ?_
  refine VL.q (Q.load1 ty4 rfl zM rfl) ?_
  refine VL.q (Q.fieldAddr fa50_8 rfl) ?_
  refine VL.q (Q.load1 ty4 rfl zM rfl) ?_
  refine VL.eff (O.buildSlice sl25 ze4 (by decide) zF (by decide) ?_)
  intro g38
  refine VL.q (Q.len sl25 rfl) ?_
  refine VL.q (Q.move rfl) ?_
  refine VL.nil ?_
  refine VE.seq ?_
  refine VC.block ?_
  refine VC.rounds 40 ?_
  refine VC.rnd (m := 39) ?_
  refine VC.seq ?_
  refine VC.region ?_
  refine VL.q (Q.lt rfl rfl) ?_
  refine VL.nil ?_
  refine VE.seq ?_
  refine VC.seq ?_
  refine VC.condT rfl ?_
  refine VC.skip ?_
  refine VE.seq ?_
  refine VC.seq ?_
  refine VC.block ?_
  refine VC.seq ?_
  refine VC.region ?_
  refine VL.q (Q.move rfl) ?_
  refine VL.q (Q.indexAddr sl25 (j := 0) rfl rfl rfl (by omega)) ?_
  refine VL.q (Q.load1 ty4 rfl zM rfl) ?_
  refine VL.q (Q.assign rfl) ?_
  refine VL.q (Q.assign rfl) ?_
  refine VL.nil ?_
  refine VE.seq ?_
  refine VC.seq ?_
  refine VC.region ?_
  refine VL.q (Q.move rfl) ?_
  refine VL.nil ?_
  refine VE.seq ?_
  refine VC.condF rfl ?_
  refine VC.skip ?_
  refine VE.block_normal ?_
  refine VE.seq ?_
  refine VC.region ?_
  refine VL.quietE (v' := .int .i64 1) (by decide) ((by first | exact Q.addI rfl rfl (by omega) (by omega) | exact Q.add rfl rfl)) (by rfl) ?_
  refine VL.q (Q.move rfl) ?_
  refine VL.nil ?_
  refine VE.then_normal ?_
  refine VC.rnd (m := 38) ?_
  refine VC.seq ?_
  refine VC.region ?_
  refine VL.q (Q.lt rfl rfl) ?_
  refine VL.nil ?_
  refine VE.seq ?_
  refine VC.seq ?_
  refine VC.condT rfl ?_
  refine VC.skip ?_
  refine VE.seq ?_
  refine VC.seq ?_
  refine VC.block ?_
  refine VC.seq ?_
  refine VC.region ?_
  refine VL.q (Q.move rfl) ?_
  refine VL.q (Q.indexAddr sl25 (j := 1) rfl rfl rfl (by omega)) ?_
  refine VL.q (Q.load1 ty4 rfl zM rfl) ?_
  refine VL.q (Q.assign rfl) ?_
  refine VL.q (Q.assign rfl) ?_
  refine VL.nil ?_
  refine VE.seq ?_
  refine VC.seq ?_
  refine VC.region ?_
  refine VL.q (Q.move rfl) ?_
  refine VL.nil ?_
  refine VE.seq ?_
  refine VC.condF rfl ?_
  refine VC.skip ?_
  refine VE.block_normal ?_
  refine VE.seq ?_
  refine VC.region ?_
  refine VL.quietE (v' := .int .i64 2) (by decide) ((by first | exact Q.addI rfl rfl (by omega) (by omega) | exact Q.add rfl rfl)) (by rfl) ?_
  refine VL.q (Q.move rfl) ?_
  refine VL.nil ?_
  refine VE.then_normal ?_
  refine VC.rnd (m := 37) ?_
  refine VC.seq ?_
  refine VC.region ?_
  refine VL.q (Q.lt rfl rfl) ?_
  refine VL.nil ?_
  refine VE.seq ?_
  refine VC.seq ?_
  refine VC.condT rfl ?_
  refine VC.skip ?_
  refine VE.seq ?_
  refine VC.seq ?_
  refine VC.block ?_
  refine VC.seq ?_
  refine VC.region ?_
  refine VL.q (Q.move rfl) ?_
  refine VL.q (Q.indexAddr sl25 (j := 2) rfl rfl rfl (by omega)) ?_
  refine VL.q (Q.load1 ty4 rfl zM rfl) ?_
  refine VL.q (Q.assign rfl) ?_
  refine VL.q (Q.assign rfl) ?_
  refine VL.nil ?_
  refine VE.seq ?_
  refine VC.seq ?_
  refine VC.region ?_
  refine VL.q (Q.move rfl) ?_
  refine VL.nil ?_
  refine VE.seq ?_
  refine VC.condF rfl ?_
  refine VC.skip ?_
  refine VE.block_normal ?_
  refine VE.seq ?_
  refine VC.region ?_
  refine VL.quietE (v' := .int .i64 3) (by decide) ((by first | exact Q.addI rfl rfl (by omega) (by omega) | exact Q.add rfl rfl)) (by rfl) ?_
  refine VL.q (Q.move rfl) ?_
  refine VL.nil ?_
  refine VE.then_normal ?_
  refine VC.rnd (m := 36) ?_
  refine VC.seq ?_
  refine VC.region ?_
  refine VL.q (Q.lt rfl rfl) ?_
  refine VL.nil ?_
  refine VE.seq ?_
  refine VC.seq ?_
  refine VC.condT rfl ?_
  refine VC.skip ?_
  refine VE.seq ?_
  refine VC.seq ?_
  refine VC.block ?_
  refine VC.seq ?_
  refine VC.region ?_
  refine VL.q (Q.move rfl) ?_
  refine VL.q (Q.indexAddr sl25 (j := 3) rfl rfl rfl (by omega)) ?_
  refine VL.q (Q.load1 ty4 rfl zM rfl) ?_
  refine VL.q (Q.assign rfl) ?_
  refine VL.q (Q.assign rfl) ?_
  refine VL.nil ?_
  refine VE.seq ?_
  refine VC.seq ?_
  refine VC.region ?_
  refine VL.q (Q.move rfl) ?_
  refine VL.nil ?_
  refine VE.seq ?_
  refine VC.condF rfl ?_
  refine VC.skip ?_
  refine VE.block_normal ?_
  refine VE.seq ?_
  refine VC.region ?_
  refine VL.quietE (v' := .int .i64 4) (by decide) ((by first | exact Q.addI rfl rfl (by omega) (by omega) | exact Q.add rfl rfl)) (by rfl) ?_
  refine VL.q (Q.move rfl) ?_
  refine VL.nil ?_
  refine VE.then_normal ?_
  refine VC.rnd (m := 35) ?_
  refine VC.seq ?_
  refine VC.region ?_
  refine VL.q (Q.lt rfl rfl) ?_
  refine VL.nil ?_
  refine VE.seq ?_
  refine VC.seq ?_
  refine VC.condT rfl ?_
  refine VC.skip ?_
  refine VE.seq ?_
  refine VC.seq ?_
  refine VC.block ?_
  refine VC.seq ?_
  refine VC.region ?_
  refine VL.q (Q.move rfl) ?_
  refine VL.q (Q.indexAddr sl25 (j := 4) rfl rfl rfl (by omega)) ?_
  refine VL.q (Q.load1 ty4 rfl zM rfl) ?_
  refine VL.q (Q.assign rfl) ?_
  refine VL.q (Q.assign rfl) ?_
  refine VL.nil ?_
  refine VE.seq ?_
  refine VC.seq ?_
  refine VC.region ?_
  refine VL.q (Q.move rfl) ?_
  refine VL.nil ?_
  refine VE.seq ?_
  refine VC.condF rfl ?_
  refine VC.skip ?_
  refine VE.block_normal ?_
  refine VE.seq ?_
  refine VC.region ?_
  refine VL.quietE (v' := .int .i64 5) (by decide) ((by first | exact Q.addI rfl rfl (by omega) (by omega) | exact Q.add rfl rfl)) (by rfl) ?_
  refine VL.q (Q.move rfl) ?_
  refine VL.nil ?_
  refine VE.then_normal ?_
  refine VC.rnd (m := 34) ?_
  refine VC.seq ?_
  refine VC.region ?_
  refine VL.q (Q.lt rfl rfl) ?_
  refine VL.nil ?_
  refine VE.seq ?_
  refine VC.seq ?_
  refine VC.condT rfl ?_
  refine VC.skip ?_
  refine VE.seq ?_
  refine VC.seq ?_
  refine VC.block ?_
  refine VC.seq ?_
  refine VC.region ?_
  refine VL.q (Q.move rfl) ?_
  refine VL.q (Q.indexAddr sl25 (j := 5) rfl rfl rfl (by omega)) ?_
  refine VL.q (Q.load1 ty4 rfl zM rfl) ?_
  refine VL.q (Q.assign rfl) ?_
  refine VL.q (Q.assign rfl) ?_
  refine VL.nil ?_
  refine VE.seq ?_
  refine VC.seq ?_
  refine VC.region ?_
  refine VL.q (Q.move rfl) ?_
  refine VL.nil ?_
  refine VE.seq ?_
  refine VC.condF rfl ?_
  refine VC.skip ?_
  refine VE.block_normal ?_
  refine VE.seq ?_
  refine VC.region ?_
  refine VL.quietE (v' := .int .i64 6) (by decide) ((by first | exact Q.addI rfl rfl (by omega) (by omega) | exact Q.add rfl rfl)) (by rfl) ?_
  refine VL.q (Q.move rfl) ?_
  refine VL.nil ?_
  refine VE.then_normal ?_
  refine VC.rnd (m := 33) ?_
  refine VC.seq ?_
  refine VC.region ?_
  refine VL.q (Q.lt rfl rfl) ?_
  refine VL.nil ?_
  refine VE.seq ?_
  refine VC.seq ?_
  refine VC.condT rfl ?_
  refine VC.skip ?_
  refine VE.seq ?_
  refine VC.seq ?_
  refine VC.block ?_
  refine VC.seq ?_
  refine VC.region ?_
  refine VL.q (Q.move rfl) ?_
  refine VL.q (Q.indexAddr sl25 (j := 6) rfl rfl rfl (by omega)) ?_
  refine VL.q (Q.load1 ty4 rfl zM rfl) ?_
  refine VL.q (Q.assign rfl) ?_
  refine VL.q (Q.assign rfl) ?_
  refine VL.nil ?_
  refine VE.seq ?_
  refine VC.seq ?_
  refine VC.region ?_
  refine VL.q (Q.move rfl) ?_
  refine VL.nil ?_
  refine VE.seq ?_
  refine VC.condF rfl ?_
  refine VC.skip ?_
  refine VE.block_normal ?_
  refine VE.seq ?_
  refine VC.region ?_
  refine VL.quietE (v' := .int .i64 7) (by decide) ((by first | exact Q.addI rfl rfl (by omega) (by omega) | exact Q.add rfl rfl)) (by rfl) ?_
  refine VL.q (Q.move rfl) ?_
  refine VL.nil ?_
  refine VE.then_normal ?_
  refine VC.rnd (m := 32) ?_
  refine VC.seq ?_
  refine VC.region ?_
  refine VL.q (Q.lt rfl rfl) ?_
  refine VL.nil ?_
  refine VE.seq ?_
  refine VC.seq ?_
  refine VC.condF rfl ?_
  refine VC.exit ?_
  refine VE.then_exit ?_
  refine VE.then_exit ?_
  refine VE.block_here ?_
  refine VE.seq ?_
  refine VC.seq ?_
  refine VC.region ?_
  refine VL.q (Q.fieldAddr fa50_0 rfl) ?_
  refine VL.q (Q.load1 ty5 rfl zM rfl) ?_
  refine VL.quietE (v' := .int .u8 4) (by decide) ((by first | exact Q.shlF (s := 2) (m := 4) rfl rfl (by decide) (by decide) (by simp only [klo]; omega) (by simp only [khi]; omega) | exact Q.shlM (M := 256) (s := 2) (m := 4) rfl rfl (by decide) (by decide) rfl rfl)) (by rfl) ?_
  refine VL.q (Q.fieldAddr fa50_1 rfl) ?_
  refine VL.q (Q.load1 ty5 rfl zM rfl) ?_
  refine VL.quietE (v' := .int .u8 176) (by decide) ((by first | exact Q.shlF (s := 4) (m := 16) rfl rfl (by decide) (by decide) (by simp only [klo]; omega) (by simp only [khi]; omega) | exact Q.shlM (M := 256) (s := 4) (m := 16) rfl rfl (by decide) (by decide) rfl rfl)) (by rfl) ?_
  refine VL.quietE (v' := .int .u8 180) (by decide) (Q.or rfl rfl (by omega) (by simp only [khi]; omega) (by omega) (by simp only [khi]; omega)) (by rfl) ?_
  refine VL.q (Q.move rfl) ?_
  refine VL.eff (O.buildSlice sl54 ze5 (by decide) zF (by decide) ?_)
  intro g59
  refine VL.q (Q.fieldAddr fa50_9 rfl) ?_
  refine VL.q (Q.load1 ty3 rfl zM rfl) ?_
  refine VK.toRow (g := g59) (s := 1) (m := 2) (c := 2) zU rfl (by omega) (by unfold maxLen; omega) ?_
  refine VL.eff (O.callB ok50 rfl rfl (by decide) (put16_c _ _ _ _ _ (by first | omega | decide) (by omega)) zK (fun _ _ _ => trivial) ?_)
  intro x62 y62
  refine VL.q (Q.assign rfl) ?_
  refine VL.nil ?_
  refine VE.seq ?_
  refine VC.seq ?_
  refine VK.keep (by exact .cons (i := 1) rfl (.cons (i := 2) rfl (.cons (i := 3) rfl (.cons (i := 8) rfl ( .nil))))) ?_
  refine VC.region ?_
  refine VL.eff (O.call0 ok36 rfl rfl (by decide) (places_rts _) (fun _ _ hw => Rd.seg hw zM zS) ?_)
  intro x64 y64
  refine VL.q (Q.move rfl) ?_
  refine VL.q (Q.extract rfl rfl) ?_
  refine VL.q (Q.extract rfl rfl) ?_
  refine VL.q (Q.assign rfl) ?_
  refine VL.q (Q.assign rfl) ?_
  refine VL.nil ?_
  refine VE.seq ?_
  refine VC.seq ?_
  refine VC.seq ?_
  refine VC.region ?_
  refine VL.q (Q.move rfl) ?_
  refine VL.q (Q.len sl93 rfl) ?_
  refine VL.q (Q.move rfl) ?_
  refine VL.nil ?_
  refine VE.seq ?_
  refine VC.block ?_
  refine VC.rounds 40 ?_
  refine VC.rnd (m := 39) ?_
  refine VC.seq ?_
  refine VC.region ?_
  refine VL.q (Q.lt rfl rfl) ?_
  refine VL.nil ?_
  refine VE.seq ?_
  refine VC.seq ?_
  refine VC.condT rfl ?_
  refine VC.skip ?_
  refine VE.seq ?_
  refine VC.seq ?_
  refine VC.block ?_
  refine VC.seq ?_
  refine VC.region ?_
  refine VL.q (Q.indexAddr sl93 (j := 0) rfl rfl rfl (by omega)) ?_
  refine VL.q (Q.load1 ty97 rfl zM rfl) ?_
  refine VL.q (Q.assign rfl) ?_
  refine VL.nil ?_
  refine VE.seq ?_
  refine VC.region ?_
  refine VL.q (Q.move rfl) ?_
  refine VL.q (Q.move rfl) ?_
  refine VL.q (Q.nilCheck rfl) ?_
  refine VL.q (Q.slcA0 ar43 (h := _) rfl rfl (by omega)) ?_
  refine VL.eff (O.appendS sl54 ze5 rfl (by decide) rfl rfl zM zS rfl (by decide) (by unfold maxLen; omega) (by omega) zA ?_)
  intro p77 c77 hc77
  refine VL.q (Q.assign rfl) ?_
  refine VL.nil ?_
  refine VE.block_normal ?_
  refine VE.seq ?_
  refine VC.region ?_
  refine VL.quietE (v' := .int .i64 1) (by decide) ((by first | exact Q.addI rfl rfl (by omega) (by omega) | exact Q.add rfl rfl)) (by rfl) ?_
  refine VL.q (Q.move rfl) ?_
  refine VL.nil ?_
  refine VE.then_normal ?_
  refine VC.rnd (m := 38) ?_
  refine VC.seq ?_
  refine VC.region ?_
  refine VL.q (Q.lt rfl rfl) ?_
  refine VL.nil ?_
  refine VE.seq ?_
  refine VC.seq ?_
  refine VC.condT rfl ?_
  refine VC.skip ?_
  refine VE.seq ?_
  refine VC.seq ?_
  refine VC.block ?_
  refine VC.seq ?_
  refine VC.region ?_
  refine VL.q (Q.indexAddr sl93 (j := 1) rfl rfl rfl (by omega)) ?_
  refine VL.q (Q.load1 ty97 rfl zM rfl) ?_
  refine VL.q (Q.assign rfl) ?_
  refine VL.nil ?_
  refine VE.seq ?_
  refine VC.region ?_
  refine VL.q (Q.move rfl) ?_
  refine VL.q (Q.move rfl) ?_
  refine VL.q (Q.nilCheck rfl) ?_
  refine VL.q (Q.slcA0 ar43 (h := _) rfl rfl (by omega)) ?_
  refine VL.eff (O.appendS sl54 ze5 rfl (by decide) rfl rfl zM zS rfl (by decide) (by unfold maxLen; omega) (by omega) zA ?_)
  intro p77_1 c77_1 hc77_1
  refine VL.q (Q.assign rfl) ?_
  refine VL.nil ?_
  refine VE.block_normal ?_
  refine VE.seq ?_
  refine VC.region ?_
  refine VL.quietE (v' := .int .i64 2) (by decide) ((by first | exact Q.addI rfl rfl (by omega) (by omega) | exact Q.add rfl rfl)) (by rfl) ?_
  refine VL.q (Q.move rfl) ?_
  refine VL.nil ?_
  refine VE.then_normal ?_
  refine VC.rnd (m := 37) ?_
  refine VC.seq ?_
  refine VC.region ?_
  refine VL.q (Q.lt rfl rfl) ?_
  refine VL.nil ?_
  refine VE.seq ?_
  refine VC.seq ?_
  refine VC.condF rfl ?_
  refine VC.exit ?_
  refine VE.then_exit ?_
  refine VE.then_exit ?_
  refine VE.block_here ?_
  refine VE.seq ?_
  refine VC.seq ?_
  refine VC.seq ?_
  refine VC.region ?_
  refine VL.q (Q.fieldAddr fa90_1 rfl) ?_
  refine VL.q (Q.load1 ty4 rfl zM rfl) ?_
  refine VL.nil ?_
  refine VE.seq ?_
  refine VC.condF rfl ?_
  refine VC.skip ?_
  refine VE.seq ?_
  refine VC.seq ?_
  refine VC.seq ?_
  refine VC.region ?_
  refine VL.q (Q.move rfl) ?_
  refine VL.q (Q.len sl93 rfl) ?_
  refine VL.q (Q.move rfl) ?_
  refine VL.nil ?_
  refine VE.seq ?_
  refine VC.block ?_
  refine VC.rounds 40 ?_
  refine VC.rnd (m := 39) ?_
  refine VC.seq ?_
  refine VC.region ?_
  refine VL.q (Q.lt rfl rfl) ?_
  refine VL.nil ?_
  refine VE.seq ?_
  refine VC.seq ?_
  refine VC.condF rfl ?_
  refine VC.exit ?_
  refine VE.then_exit ?_
  refine VE.then_exit ?_
  refine VE.block_here ?_
  refine VE.seq ?_
  refine VC.seq ?_
  refine VC.seq ?_
  refine VC.region ?_
  refine VL.q (Q.fieldAddr fa90_2 rfl) ?_
  refine VL.q (Q.load1 ty4 rfl zM rfl) ?_
  refine VL.nil ?_
  refine VE.seq ?_
  refine VC.condF rfl ?_
  refine VC.skip ?_
  refine VE.seq ?_
  refine VC.seq ?_
  refine VC.region ?_
  refine VL.q (Q.move rfl) ?_
  refine VL.q (Q.assign rfl) ?_
  refine VL.nil ?_
  refine VE.seq ?_
  refine VC.ret ?_
  rw [hbs_rts D hD]
  exact VE.ret rfl (.tmp rfl .nil) (_, _) (by first | assumption | omega) rfl (by repeat (first | exact List.Sublist.refl _ | exact .cons_cons _ (List.nil_sublist _) | apply List.Sublist.cons))

theorem encode_rts (D : Nat) (hD : D ≤ 32767) :
    Does Tryd.prog 15 [.agg #[.int .u8 1, .int .u8 11, .bool false, .bool false, .bool false, .bool false, .bool false, .bool false, .bool false, .int .i64 (D : Int), .int .u8 2, .int .u8 0, .int .u8 0, .int .u8 0, .int .u8 0, .int .u8 1, .int .u8 2, .int .u8 0, .int .u8 0, .int .u8 0, .int .u8 0, .int .u8 2, .int .u8 0, .int .u8 0, .int .u8 0, .int .u8 0, .int .u8 0, .int .u8 0, .int .u8 0, .int .u8 0, .int .u8 0, .int .u8 0, .int .u8 0, .int .u8 0, .int .i64 0, .int .i64 0, .int .i64 0, .int .u8 0, .bool false, .bool false, .slice none 0 0]] [] (fun _ => True) (X := Option Addr × Nat) (fun x => 20 ≤ x.2) (fun x => .tuple #[.slice x.1 20 x.2, .int .i64 0]) (fun x => [.row (.slice x.1 20 x.2) 5 1 20 (bs (hb_rts D ++ crcBytes (hb_rts D)))]) := by
  refine Does.enter Tryd.func15 rfl (m := 30) rfl (by simp) ?_
  intro W0 hro
  refine VC.seq ?_
  refine VC.region ?_
  refine VL.eff (O.box rfl rfl (by decide) ?_)
  intro g1
  refine VL.q (Q.assign rfl) ?_
  refine VL.q (Q.assign rfl) ?_
  refine VL.nil ?_
  refine VE.seq ?_
  refine VC.seq ?_
  refine VC.seq ?_
  refine VC.region ?_
  refine VL.q (Q.fieldAddr fa58_0 rfl) ?_
  refine VL.q (Q.loadA ty50 rfl zM zS) ?_
  refine VL.eff (O.call0 ok28 rfl rfl (by decide) (check_rts D hD) (fun _ _ _ => trivial) ?_)
  intro x6 y6
  refine VL.quietE (v' := .bool false) (by decide) (Q.ne rfl rfl) (by rfl) ?_
  refine VL.q (Q.move rfl) ?_
  refine VL.yes rfl rfl ?_
  refine VL.q (Q.fieldAddr fa58_0 rfl) ?_
  refine VL.yes rfl rfl ?_
  refine VL.q (Q.loadA ty50 rfl zM zS) ?_
  refine VL.yes rfl rfl ?_
  refine VL.eff (O.call0 ok29 rfl rfl (by decide) (bare_rts D) (fun _ _ _ => trivial) ?_)
  intro x11 y11
  refine VL.yes rfl rfl ?_
  refine VL.q (Q.move rfl) ?_
  refine VL.yes rfl rfl ?_
  refine VL.q (Q.fieldAddr fa58_1 rfl) ?_
  refine VL.yes rfl rfl ?_
  refine VL.q (Q.load1 ty54 rfl zM rfl) ?_
  refine VL.yes rfl rfl ?_
  refine VL.q (Q.len sl54 rfl) ?_
  refine VL.yes rfl rfl ?_
  refine VL.quietE (v' := .bool false) (by decide) (Q.gt rfl rfl) (by rfl) ?_
  refine VL.yes rfl rfl ?_
  refine VL.quietE (v' := .bool false) (by decide) (Q.pick_true rfl rfl) (by rfl) ?_
  refine VL.quietE (v' := .bool false) (by decide) (Q.pick_false rfl rfl) (by rfl) ?_
  refine VL.nil ?_
  refine VE.seq ?_
  refine VC.condF rfl ?_
  refine VC.skip ?_
  refine VE.seq ?_
  refine VC.seq ?_
  refine VC.seq ?_
  refine VC.region ?_
  refine VL.q (Q.fieldAddr fa58_1 rfl) ?_
  refine VL.q (Q.load1 ty54 rfl zM rfl) ?_
  refine VL.q (Q.len sl54 rfl) ?_
  refine VL.quietE (v' := .bool false) (by decide) (Q.gt rfl rfl) (by rfl) ?_
  refine VL.nil ?_
  refine VE.seq ?_
  refine VC.condF rfl ?_
  refine VC.skip ?_
  refine VE.seq ?_
  refine VC.seq ?_
  refine VA.start (Ls := [.blk g1 [.int .u8 1, .int .u8 11, .bool false, .bool false, .bool false, .bool false, .bool false, .bool false, .bool false, .int .i64 (D : Int), .int .u8 2, .int .u8 0, .int .u8 0, .int .u8 0, .int .u8 0, .int .u8 1, .int .u8 2, .int .u8 0, .int .u8 0, .int .u8 0, .int .u8 0, .int .u8 2, .int .u8 0, .int .u8 0, .int .u8 0, .int .u8 0, .int .u8 0, .int .u8 0, .int .u8 0, .int .u8 0, .int .u8 0, .int .u8 0, .int .u8 0, .int .u8 0, .int .i64 0, .int .i64 0, .int .i64 0, .int .u8 0, .bool false, .bool false, .slice none 0 0] 58]) (Cs := []) mixed ?_
  refine VA.take 0 rfl (by kernel_rfl) (by kernel_rfl) (by kernel_rfl) (Still.then Still.body) (List.singleton_sublist.2 zM) Cells.nil (by decide) (Quiet.c (Q.fieldAddr fa58_0 rfl)) ?_
  refine VA.take 1 rfl (by kernel_rfl) (by kernel_rfl) (by kernel_rfl) (Still.then Still.body) (List.singleton_sublist.2 zM) Cells.nil (by decide) (Quiet.c (Q.loadA ty50 rfl zM zS)) ?_
  refine VA.take 3 rfl (by kernel_rfl) (by kernel_rfl) (by kernel_rfl) (Still.then Still.body) (List.singleton_sublist.2 zM) Cells.nil (by decide) (Quiet.c (Q.fieldAddr fa58_1 rfl)) ?_
  refine VA.take 4 rfl (by kernel_rfl) (by kernel_rfl) (by kernel_rfl) (Still.then Still.body) (List.singleton_sublist.2 zM) Cells.nil (by decide) (Quiet.c (Q.load1 ty54 rfl zM rfl)) ?_
  refine VA.all (rs := [2]) (by kernel_rfl) (by simp) ?_
  refine VA.forall1 ?_
  · skip
    refine VA.eff rfl ?_
    refine id (O.call0 ok31 rfl rfl (by decide) (write_rts D hD) (fun _ _ _ => trivial) ?_)
    intro x25 y25
    refine VA.next (List.singleton_sublist.2 zM) Cells.nil ?_
    refine VA.take 5 rfl (by kernel_rfl) (by kernel_rfl) (by kernel_rfl) (Still.then Still.body) (List.singleton_sublist.2 zM) Cells.nil (by decide) (Quiet.c (Q.append0 sl54 rfl rfl (by omega))) ?_
    refine VA.all (rs := [6]) (by kernel_rfl) (by simp) ?_
    refine VA.forall1 ?_
    · skip
      refine VA.eff rfl ?_
      refine id (O.call0 ok30 rfl rfl (by decide) (append_c _ 16 _ (hb_rts D) rfl (by omega)) (fun _ _ hw => Rd.row hw zM) ?_)
      intro x29 y29
      refine VA.next (List.singleton_sublist.2 zM) Cells.nil ?_
      refine VA.take 7 rfl (by kernel_rfl) (by kernel_rfl) (by kernel_rfl) (Still.then Still.body) (List.singleton_sublist.2 zM) Cells.nil (by decide) (Quiet.c (Q.assign rfl)) ?_
      refine VA.take 8 rfl (by kernel_rfl) (by kernel_rfl) (by kernel_rfl) (Still.then Still.body) (List.singleton_sublist.2 zM) Cells.nil (by decide) (Quiet.c (Q.assign rfl)) ?_
      refine VA.done (by kernel_rfl) ?_
      refine VE.seq ?_
      refine VC.ret ?_
      exact VE.ret rfl (.tmp rfl (.tmp rfl .nil)) x29 y29 rfl (by repeat (first | exact List.Sublist.refl _ | exact .cons_cons _ (List.nil_sublist _) | apply List.Sublist.cons))

def hb_cts (D : Nat) : List UInt8 := [196, 0, UInt8.ofNat D, UInt8.ofNat (D / 256), 2, 0, 0, 0, 0, 2]
theorem hbs_cts (D : Nat) (hD : D ≤ 32767) : bs (hb_cts D) = [.int .u8 196, .int .u8 0, .int .u8 ((D : Int) % 256), .int .u8 ((D : Int) / 256), .int .u8 2, .int .u8 0, .int .u8 0, .int .u8 0, .int .u8 0, .int .u8 2] := by
  simp [bs, hb_cts]
  omega
theorem write_cts (D : Nat) (hD : D ≤ 32767) :
    Does Tryd.prog 31 [.agg #[.int .u8 1, .int .u8 12, .bool false, .bool false, .bool false, .bool false, .bool false, .bool false, .bool false, .int .i64 (D : Int), .int .u8 2, .int .u8 0, .int .u8 0, .int .u8 0, .int .u8 0, .int .u8 2, .int .u8 0, .int .u8 0, .int .u8 0, .int .u8 0, .int .u8 0, .int .u8 0, .int .u8 0, .int .u8 0, .int .u8 0, .int .u8 0, .int .u8 0, .int .u8 0, .int .u8 0, .int .u8 0, .int .u8 0, .int .u8 0, .int .u8 0, .int .u8 0, .int .i64 0, .int .i64 0, .int .i64 0, .int .u8 0, .bool false, .bool false]] [] (fun _ => True) (X := Option Addr × Nat) (fun x => 10 ≤ x.2) (fun x => .slice x.1 10 x.2) (fun x => [.row (.slice x.1 10 x.2) 5 1 10 (bs (hb_cts D))]) := by
  refine Does.enter Tryd.func31 rfl (m := 122) rfl (by simp) ?_
  intro W0 hro
  refine VC.seq ?_
  refine VC.region ?_
  refine VL.eff (O.box rfl rfl (by decide) ?_)
  intro g1
  refine VL.q (Q.assign rfl) ?_
  refine VL.nil ?_
  refine VE.seq ?_
  refine VC.seq ?_
  refine VC.region ?_
  refine VL.q (Q.fieldAddr fa50_0 rfl) ?_
  refine VL.q (Q.load1 ty5 rfl zM rfl) ?_
  refine VL.q (Q.fieldAddr fa50_1 rfl) ?_
  refine VL.q (Q.load1 ty5 rfl zM rfl) ?_
  refine VL.eff (O.call0 ok34 rfl rfl (by decide) (known_cts) (fun _ _ _ => trivial) ?_)
  intro x21 y21
  refine VL.q (Q.move rfl) ?_
  refine VL.q (Q.extract rfl rfl) ?_
  refine VL.q (Q.extract rfl rfl) ?_
  refine VL.eff (O.alloc zo90 (by decide) ?_)
  intro g3
  refine VL.eff (O.store ty90 rfl rfl rfl rfl zU zP ?_)
  refine VL.q (Q.assign rfl) ?_
  refine VL.nil ?_
  refine VE.seq ?_
  refine VC.seq ?_
  refine VC.region ?_
  refine VL.q (Q.assign rfl) ?_
  refine VL.nil ?_
  refine VE.seq ?_
  refine VC.seq ?_
  refine VC.seq ?_
  refine VC.region ?_
  refine VL.q (Q.fieldAddr fa50_2 rfl) ?_
  refine VL.q (Q.load1 ty4 rfl zM rfl) ?_
  refine VL.q (Q.fieldAddr fa50_3 rfl) ?_
  refine VL.q (Q.load1 ty4 rfl zM rfl) ?_
  refine VL.q (Q.fieldAddr fa50_4 rfl) ?_
  refine VL.q (Q.load1 ty4 rfl zM rfl) ?_
  refine VL.q (Q.fieldAddr fa50_5 rfl) ?_
  refine VL.q (Q.load1 ty4 rfl zM rfl) ?_
  refine VL.q (Q.fieldAddr fa50_6 rfl) ?_
  refine VL.q (Q.load1 ty4 rfl zM rfl) ?_
  refine VL.q (Q.fieldAddr fa50_7 rfl) ?_
  refine VL.q (Q.load1 ty4 rfl zM rfl) ?_
  refine VL.q (Q.fieldAddr fa50_8 rfl) ?_
  refine VL.q (Q.load1 ty4 rfl zM rfl) ?_
  refine VL.eff (O.buildSlice sl25 ze4 (by decide) zF (by decide) ?_)
  intro g38
  refine VL.q (Q.len sl25 rfl) ?_
  refine VL.q (Q.move rfl) ?_
  refine VL.nil ?_
  refine VE.seq ?_
  refine VC.block ?_
  refine VC.rounds 40 ?_
  refine VC.rnd (m := 39) ?_
  refine VC.seq ?_
  refine VC.region ?_
  refine VL.q (Q.lt rfl rfl) ?_
  refine VL.nil ?_
  refine VE.seq ?_
  refine VC.seq ?_
  refine VC.condT rfl ?_
  refine VC.skip ?_
  refine VE.seq ?_
  refine VC.seq ?_
  refine VC.block ?_
  refine VC.seq ?_
  refine VC.region ?_
  refine VL.q (Q.move rfl) ?_
  refine VL.q (Q.indexAddr sl25 (j := 0) rfl rfl rfl (by omega)) ?_
  refine VL.q (Q.load1 ty4 rfl zM rfl) ?_
  refine VL.q (Q.assign rfl) ?_
  refine VL.q (Q.assign rfl) ?_
  refine VL.nil ?_
  refine VE.seq ?_
  refine VC.seq ?_
  refine VC.region ?_
  refine VL.q (Q.move rfl) ?_
  refine VL.nil ?_
  refine VE.seq ?_
  refine VC.condF rfl ?_
  refine VC.skip ?_
  refine VE.block_normal ?_
  refine VE.seq ?_
  refine VC.region ?_
  refine VL.quietE (v' := .int .i64 1) (by decide) ((by first | exact Q.addI rfl rfl (by omega) (by omega) | exact Q.add rfl rfl)) (by rfl) ?_
  refine VL.q (Q.move rfl) ?_
  refine VL.nil ?_
  refine VE.then_normal ?_
  refine VC.rnd (m := 38) ?_
  refine VC.seq ?_
  refine VC.region ?_
  refine VL.q (Q.lt rfl rfl) ?_
  refine VL.nil ?_
  refine VE.seq ?_
  refine VC.seq ?_
  refine VC.condT rfl ?_
  refine VC.skip ?_
  refine VE.seq ?_
  refine VC.seq ?_
  refine VC.block ?_
  refine VC.seq ?_
  refine VC.region ?_
  refine VL.q (Q.move rfl) ?_
  refine VL.q (Q.indexAddr sl25 (j := 1) rfl rfl rfl (by omega)) ?_
  refine VL.q (Q.load1 ty4 rfl zM rfl) ?_
  refine VL.q (Q.assign rfl) ?_
  refine VL.q (Q.assign rfl) ?_
  refine VL.nil ?_
  refine VE.seq ?_
  refine VC.seq ?_
  refine VC.region ?_
  refine VL.q (Q.move rfl) ?_
  refine VL.nil ?_
  refine VE.seq ?_
  refine VC.condF rfl ?_
  refine VC.skip ?_
  refine VE.block_normal ?_
  refine VE.seq ?_
  refine VC.region ?_
  refine VL.quietE (v' := .int .i64 2) (by decide) ((by first | exact Q.addI rfl rfl (by omega) (by omega) | exact Q.add rfl rfl)) (by rfl) ?_
  refine VL.q (Q.move rfl) ?_
  refine VL.nil ?_
  refine VE.then_normal ?_
  refine VC.rnd (m := 37) ?_
  refine VC.seq ?_
  refine VC.region ?_
  refine VL.q (Q.lt rfl rfl) ?_
  refine VL.nil ?_
  refine VE.seq ?_
  refine VC.seq ?_
  refine VC.condT rfl ?_
  refine VC.skip ?_
  refine VE.seq ?_
  refine VC.seq ?_
  refine VC.block ?_
  refine VC.seq ?_
  refine VC.region ?_
  refine VL.q (Q.move rfl) ?_
  refine VL.q (Q.indexAddr sl25 (j := 2) rfl rfl rfl (by omega)) ?_
  refine VL.q (Q.load1 ty4 rfl zM rfl) ?_
  refine VL.q (Q.assign rfl) ?_
  refine VL.q (Q.assign rfl) ?_
  refine VL.nil ?_
  refine VE.seq ?_
  refine VC.seq ?_
  refine VC.region ?_
  refine VL.q (Q.move rfl) ?_
  refine VL.nil ?_
  refine VE.seq ?_
  refine VC.condF rfl ?_
  refine VC.skip ?_
  refine VE.block_normal ?_
  refine VE.seq ?_
  refine VC.region ?_
  refine VL.quietE (v' := .int .i64 3) (by decide) ((by first | exact Q.addI rfl rfl (by omega) (by omega) | exact Q.add rfl rfl)) (by rfl) ?_
  refine VL.q (Q.move rfl) ?_
  refine VL.nil ?_
  refine VE.then_normal ?_
  refine VC.rnd (m := 36) ?_
  refine VC.seq ?_
  refine VC.region ?_
  refine VL.q (Q.lt rfl rfl) ?_
  refine VL.nil ?_
  refine VE.seq ?_
  refine VC.seq ?_
  refine VC.condT rfl ?_
  refine VC.skip ?_
  refine VE.seq ?_
  refine VC.seq ?_
  refine VC.block ?_
  refine VC.seq ?_
  refine VC.region ?_
  refine VL.q (Q.move rfl) ?_
  refine VL.q (Q.indexAddr sl25 (j := 3) rfl rfl rfl (by omega)) ?_
  refine VL.q (Q.load1 ty4 rfl zM rfl) ?_
  refine VL.q (Q.assign rfl) ?_
  refine VL.q (Q.assign rfl) ?_
  refine VL.nil ?_
  refine VE.seq ?_
  refine VC.seq ?_
  refine VC.region ?_
  refine VL.q (Q.move rfl) ?_
  refine VL.nil ?_
  refine VE.seq ?_
  refine VC.condF rfl ?_
  refine VC.skip ?_
  refine VE.block_normal ?_
  refine VE.seq ?_
  refine VC.region ?_
  refine VL.quietE (v' := .int .i64 4) (by decide) ((by first | exact Q.addI rfl rfl (by omega) (by omega) | exact Q.add rfl rfl)) (by rfl) ?_
  refine VL.q (Q.move rfl) ?_
  refine VL.nil ?_
  refine VE.then_normal ?_
  refine VC.rnd (m := 35) ?_
  refine VC.seq ?_
  refine VC.region ?_
  refine VL.q (Q.lt rfl rfl) ?_
  refine VL.nil ?_
  refine VE.seq ?_
  refine VC.seq ?_
  refine VC.condT rfl ?_
  refine VC.skip ?_
  refine VE.seq ?_
  refine VC.seq ?_
  refine VC.block ?_
  refine VC.seq ?_
  refine VC.region ?_
  refine VL.q (Q.move rfl) ?_
  refine VL.q (Q.indexAddr sl25 (j := 4) rfl rfl rfl (by omega)) ?_
  refine VL.q (Q.load1 ty4 rfl zM rfl) ?_
  refine VL.q (Q.assign rfl) ?_
  refine VL.q (Q.assign rfl) ?_
  refine VL.nil ?_
  refine VE.seq ?_
  refine VC.seq ?_
  refine VC.region ?_
  refine VL.q (Q.move rfl) ?_
  refine VL.nil ?_
  refine VE.seq ?_
  refine VC.condF rfl ?_
  refine VC.skip ?_
  refine VE.block_normal ?_
  refine VE.seq ?_
  refine VC.region ?_
  refine VL.quietE (v' := .int .i64 5) (by decide) ((by first | exact Q.addI rfl rfl (by omega) (by omega) | exact Q.add rfl rfl)) (by rfl) ?_
  refine VL.q (Q.move rfl) ?_
  refine VL.nil ?_
  refine VE.then_normal ?_
  refine VC.rnd (m := 34) ?_
  refine VC.seq ?_
  refine VC.region ?_
  refine VL.q (Q.lt rfl rfl) ?_
  refine VL.nil ?_
  refine VE.seq ?_
  refine VC.seq ?_
  refine VC.condT rfl ?_
  refine VC.skip ?_
  refine VE.seq ?_
  refine VC.seq ?_
  refine VC.block ?_
  refine VC.seq ?_
  refine VC.region ?_
  refine VL.q (Q.move rfl) ?_
  refine VL.q (Q.indexAddr sl25 (j := 5) rfl rfl rfl (by omega)) ?_
  refine VL.q (Q.load1 ty4 rfl zM rfl) ?_
  refine VL.q (Q.assign rfl) ?_
  refine VL.q (Q.assign rfl) ?_
  refine VL.nil ?_
  refine VE.seq ?_
  refine VC.seq ?_
  refine VC.region ?_
  refine VL.q (Q.move rfl) ?_
  refine VL.nil ?_
  refine VE.seq ?_
  refine VC.condF rfl ?_
  refine VC.skip ?_
  refine VE.block_normal ?_
  refine VE.seq ?_
  refine VC.region ?_
  refine VL.quietE (v' := .int .i64 6) (by decide) ((by first | exact Q.addI rfl rfl (by omega) (by omega) | exact Q.add rfl rfl)) (by rfl) ?_
  refine VL.q (Q.move rfl) ?_
  refine VL.nil ?_
  refine VE.then_normal ?_
  refine VC.rnd (m := 33) ?_
  refine VC.seq ?_
  refine VC.region ?_
  refine VL.q (Q.lt rfl rfl) ?_
  refine VL.nil ?_
  refine VE.seq ?_
  refine VC.seq ?_
  refine VC.condT rfl ?_
  refine VC.skip ?_
  refine VE.seq ?_
  refine VC.seq ?_
  refine VC.block ?_
  refine VC.seq ?_
  refine VC.region ?_
  refine VL.q (Q.move rfl) ?_
  refine VL.q (Q.indexAddr sl25 (j := 6) rfl rfl rfl (by omega)) ?_
  refine VL.q (Q.load1 ty4 rfl zM rfl) ?_
  refine VL.q (Q.assign rfl) ?_
  refine VL.q (Q.assign rfl) ?_
  refine VL.nil ?_
  refine VE.seq ?_
  refine VC.seq ?_
  refine VC.region ?_
  refine VL.q (Q.move rfl) ?_
  refine VL.nil ?_
  refine VE.seq ?_
  refine VC.condF rfl ?_
  refine VC.skip ?_
  refine VE.block_normal ?_
  refine VE.seq ?_
  refine VC.region ?_
  refine VL.quietE (v' := .int .i64 7) (by decide) ((by first | exact Q.addI rfl rfl (by omega) (by omega) | exact Q.add rfl rfl)) (by rfl) ?_
  refine VL.q (Q.move rfl) ?_
  refine VL.nil ?_
  refine VE.then_normal ?_
  refine VC.rnd (m := 32) ?_
  refine VC.seq ?_
  refine VC.region ?_
  refine VL.q (Q.lt rfl rfl) ?_
  refine VL.nil ?_
  refine VE.seq ?_
  refine VC.seq ?_
  refine VC.condF rfl ?_
  refine VC.exit ?_
  refine VE.then_exit ?_
  refine VE.then_exit ?_
  refine VE.block_here ?_
  refine VE.seq ?_
  refine VC.seq ?_
  refine VC.region ?_
  refine VL.q (Q.fieldAddr fa50_0 rfl) ?_
  refine VL.q (Q.load1 ty5 rfl zM rfl) ?_
  refine VL.quietE (v' := .int .u8 4) (by decide) ((by first | exact Q.shlF (s := 2) (m := 4) rfl rfl (by decide) (by decide) (by simp only [klo]; omega) (by simp only [khi]; omega) | exact Q.shlM (M := 256) (s := 2) (m := 4) rfl rfl (by decide) (by decide) rfl rfl)) (by rfl) ?_
  refine VL.q (Q.fieldAddr fa50_1 rfl) ?_
  refine VL.q (Q.load1 ty5 rfl zM rfl) ?_
  refine VL.quietE (v' := .int .u8 192) (by decide) ((by first | exact Q.shlF (s := 4) (m := 16) rfl rfl (by decide) (by decide) (by simp only [klo]; omega) (by simp only [khi]; omega) | exact Q.shlM (M := 256) (s := 4) (m := 16) rfl rfl (by decide) (by decide) rfl rfl)) (by rfl) ?_
  refine VL.quietE (v' := .int .u8 196) (by decide) (Q.or rfl rfl (by omega) (by simp only [khi]; omega) (by omega) (by simp only [khi]; omega)) (by rfl) ?_
  refine VL.q (Q.move rfl) ?_
  refine VL.eff (O.buildSlice sl54 ze5 (by decide) zF (by decide) ?_)
  intro g59
  refine VL.q (Q.fieldAddr fa50_9 rfl) ?_
  refine VL.q (Q.load1 ty3 rfl zM rfl) ?_
  refine VK.toRow (g := g59) (s := 1) (m := 2) (c := 2) zU rfl (by omega) (by unfold maxLen; omega) ?_
  refine VL.eff (O.callB ok50 rfl rfl (by decide) (put16_c _ _ _ _ _ (by first | omega | decide) (by omega)) zK (fun _ _ _ => trivial) ?_)
  intro x62 y62
  refine VL.q (Q.assign rfl) ?_
  refine VL.nil ?_
  refine VE.seq ?_
  refine VC.seq ?_
  refine VK.keep (by exact .cons (i := 1) rfl (.cons (i := 2) rfl (.cons (i := 3) rfl (.cons (i := 8) rfl ( .nil))))) ?_
  refine VC.region ?_
  refine VL.eff (O.call0 ok36 rfl rfl (by decide) (places_cts _) (fun _ _ hw => Rd.seg hw zM zS) ?_)
  intro x64 y64
  refine VL.q (Q.move rfl) ?_
  refine VL.q (Q.extract rfl rfl) ?_
  refine VL.q (Q.extract rfl rfl) ?_
  refine VL.q (Q.assign rfl) ?_
  refine VL.q (Q.assign rfl) ?_
  refine VL.nil ?_
  refine VE.seq ?_
  refine VC.seq ?_
  refine VC.seq ?_
  refine VC.region ?_
  refine VL.q (Q.move rfl) ?_
  refine VL.q (Q.len sl93 rfl) ?_
  refine VL.q (Q.move rfl) ?_
  refine VL.nil ?_
  refine VE.seq ?_
  refine VC.block ?_
  refine VC.rounds 40 ?_
  refine VC.rnd (m := 39) ?_
  refine VC.seq ?_
  refine VC.region ?_
  refine VL.q (Q.lt rfl rfl) ?_
  refine VL.nil ?_
  refine VE.seq ?_
  refine VC.seq ?_
  refine VC.condT rfl ?_
  refine VC.skip ?_
  refine VE.seq ?_
  refine VC.seq ?_
  refine VC.block ?_
  refine VC.seq ?_
  refine VC.region ?_
  refine VL.q (Q.indexAddr sl93 (j := 0) rfl rfl rfl (by omega)) ?_
  refine VL.q (Q.load1 ty97 rfl zM rfl) ?_
  refine VL.q (Q.assign rfl) ?_
  refine VL.nil ?_
  refine VE.seq ?_
  refine VC.region ?_
  refine VL.q (Q.move rfl) ?_
  refine VL.q (Q.move rfl) ?_
  refine VL.q (Q.nilCheck rfl) ?_
  refine VL.q (Q.slcA0 ar43 (h := _) rfl rfl (by omega)) ?_
  refine VL.eff (O.appendS sl54 ze5 rfl (by decide) rfl rfl zM zS rfl (by decide) (by unfold maxLen; omega) (by omega) zA ?_)
  intro p77 c77 hc77
  refine VL.q (Q.assign rfl) ?_
  refine VL.nil ?_
  refine VE.block_normal ?_
  refine VE.seq ?_
  refine VC.region ?_
  refine VL.quietE (v' := .int .i64 1) (by decide) ((by first | exact Q.addI rfl rfl (by omega) (by omega) | exact Q.add rfl rfl)) (by rfl) ?_
  refine VL.q (Q.move rfl) ?_
  refine VL.nil ?_
  refine VE.then_normal ?_
  refine VC.rnd (m := 38) ?_
  refine VC.seq ?_
  refine VC.region ?_
  refine VL.q (Q.lt rfl rfl) ?_
  refine VL.nil ?_
  refine VE.seq ?_
  refine VC.seq ?_
  refine VC.condF rfl ?_
  refine VC.exit ?_
  refine VE.then_exit ?_
  refine VE.then_exit ?_
  refine VE.block_here ?_
  refine VE.seq ?_
  refine VC.seq ?_
  refine VC.seq ?_
  refine VC.region ?_
  refine VL.q (Q.fieldAddr fa90_1 rfl) ?_
  refine VL.q (Q.load1 ty4 rfl zM rfl) ?_
  refine VL.nil ?_
  refine VE.seq ?_
  refine VC.condF rfl ?_
  refine VC.skip ?_
  refine VE.seq ?_
  refine VC.seq ?_
  refine VC.seq ?_
  refine VC.region ?_
  refine VL.q (Q.move rfl) ?_
  refine VL.q (Q.len sl93 rfl) ?_
  refine VL.q (Q.move rfl) ?_
  refine VL.nil ?_
  refine VE.seq ?_
  refine VC.block ?_
  refine VC.rounds 40 ?_
  refine VC.rnd (m := 39) ?_
  refine VC.seq ?_
  refine VC.region ?_
  refine VL.q (Q.lt rfl rfl) ?_
  refine VL.nil ?_
  refine VE.seq ?_
  refine VC.seq ?_
  refine VC.condF rfl ?_
  refine VC.exit ?_
  refine VE.then_exit ?_
  refine VE.then_exit ?_
  refine VE.block_here ?_
  refine VE.seq ?_
  refine VC.seq ?_
  refine VC.seq ?_
  refine VC.region ?_
  refine VL.q (Q.fieldAddr fa90_2 rfl) ?_
  refine VL.q (Q.load1 ty4 rfl zM rfl) ?_
  refine VL.nil ?_
  refine VE.seq ?_
  refine VC.condF rfl ?_
  refine VC.skip ?_
  refine VE.seq ?_
  refine VC.seq ?_
  refine VC.region ?_
  refine VL.q (Q.move rfl) ?_
  refine VL.q (Q.assign rfl) ?_
  refine VL.nil ?_
  refine VE.seq ?_
  refine VC.ret ?_
  rw [hbs_cts D hD]
  exact VE.ret rfl (.tmp rfl .nil) (_, _) (by first | assumption | omega) rfl (by repeat (first | exact List.Sublist.refl _ | exact .cons_cons _ (List.nil_sublist _) | apply List.Sublist.cons))

theorem encode_cts (D : Nat) (hD : D ≤ 32767) :
    Does Tryd.prog 15 [.agg #[.int .u8 1, .int .u8 12, .bool false, .bool false, .bool false, .bool false, .bool false, .bool false, .bool false, .int .i64 (D : Int), .int .u8 2, .int .u8 0, .int .u8 0, .int .u8 0, .int .u8 0, .int .u8 2, .int .u8 0, .int .u8 0, .int .u8 0, .int .u8 0, .int .u8 0, .int .u8 0, .int .u8 0, .int .u8 0, .int .u8 0, .int .u8 0, .int .u8 0, .int .u8 0, .int .u8 0, .int .u8 0, .int .u8 0, .int .u8 0, .int .u8 0, .int .u8 0, .int .i64 0, .int .i64 0, .int .i64 0, .int .u8 0, .bool false, .bool false, .slice none 0 0]] [] (fun _ => True) (X := Option Addr × Nat) (fun x => 14 ≤ x.2) (fun x => .tuple #[.slice x.1 14 x.2, .int .i64 0]) (fun x => [.row (.slice x.1 14 x.2) 5 1 14 (bs (hb_cts D ++ crcBytes (hb_cts D)))]) := by
  refine Does.enter Tryd.func15 rfl (m := 30) rfl (by simp) ?_
  intro W0 hro
  refine VC.seq ?_
  refine VC.region ?_
  refine VL.eff (O.box rfl rfl (by decide) ?_)
  intro g1
  refine VL.q (Q.assign rfl) ?_
  refine VL.q (Q.assign rfl) ?_
  refine VL.nil ?_
  refine VE.seq ?_
  refine VC.seq ?_
  refine VC.seq ?_
  refine VC.region ?_
  refine VL.q (Q.fieldAddr fa58_0 rfl) ?_
  refine VL.q (Q.loadA ty50 rfl zM zS) ?_
  refine VL.eff (O.call0 ok28 rfl rfl (by decide) (check_cts D hD) (fun _ _ _ => trivial) ?_)
  intro x6 y6
  refine VL.quietE (v' := .bool false) (by decide) (Q.ne rfl rfl) (by rfl) ?_
  refine VL.q (Q.move rfl) ?_
  refine VL.yes rfl rfl ?_
  refine VL.q (Q.fieldAddr fa58_0 rfl) ?_
  refine VL.yes rfl rfl ?_
  refine VL.q (Q.loadA ty50 rfl zM zS) ?_
  refine VL.yes rfl rfl ?_
  refine VL.eff (O.call0 ok29 rfl rfl (by decide) (bare_cts D) (fun _ _ _ => trivial) ?_)
  intro x11 y11
  refine VL.yes rfl rfl ?_
  refine VL.q (Q.move rfl) ?_
  refine VL.yes rfl rfl ?_
  refine VL.q (Q.fieldAddr fa58_1 rfl) ?_
  refine VL.yes rfl rfl ?_
  refine VL.q (Q.load1 ty54 rfl zM rfl) ?_
  refine VL.yes rfl rfl ?_
  refine VL.q (Q.len sl54 rfl) ?_
  refine VL.yes rfl rfl ?_
  refine VL.quietE (v' := .bool false) (by decide) (Q.gt rfl rfl) (by rfl) ?_
  refine VL.yes rfl rfl ?_
  refine VL.quietE (v' := .bool false) (by decide) (Q.pick_true rfl rfl) (by rfl) ?_
  refine VL.quietE (v' := .bool false) (by decide) (Q.pick_false rfl rfl) (by rfl) ?_
  refine VL.nil ?_
  refine VE.seq ?_
  refine VC.condF rfl ?_
  refine VC.skip ?_
  refine VE.seq ?_
  refine VC.seq ?_
  refine VC.seq ?_
  refine VC.region ?_
  refine VL.q (Q.fieldAddr fa58_1 rfl) ?_
  refine VL.q (Q.load1 ty54 rfl zM rfl) ?_
  refine VL.q (Q.len sl54 rfl) ?_
  refine VL.quietE (v' := .bool false) (by decide) (Q.gt rfl rfl) (by rfl) ?_
  refine VL.nil ?_
  refine VE.seq ?_
  refine VC.condF rfl ?_
  refine VC.skip ?_
  refine VE.seq ?_
  refine VC.seq ?_
  refine VA.start (Ls := [.blk g1 [.int .u8 1, .int .u8 12, .bool false, .bool false, .bool false, .bool false, .bool false, .bool false, .bool false, .int .i64 (D : Int), .int .u8 2, .int .u8 0, .int .u8 0, .int .u8 0, .int .u8 0, .int .u8 2, .int .u8 0, .int .u8 0, .int .u8 0, .int .u8 0, .int .u8 0, .int .u8 0, .int .u8 0, .int .u8 0, .int .u8 0, .int .u8 0, .int .u8 0, .int .u8 0, .int .u8 0, .int .u8 0, .int .u8 0, .int .u8 0, .int .u8 0, .int .u8 0, .int .i64 0, .int .i64 0, .int .i64 0, .int .u8 0, .bool false, .bool false, .slice none 0 0] 58]) (Cs := []) mixed ?_
  refine VA.take 0 rfl (by kernel_rfl) (by kernel_rfl) (by kernel_rfl) (Still.then Still.body) (List.singleton_sublist.2 zM) Cells.nil (by decide) (Quiet.c (Q.fieldAddr fa58_0 rfl)) ?_
  refine VA.take 1 rfl (by kernel_rfl) (by kernel_rfl) (by kernel_rfl) (Still.then Still.body) (List.singleton_sublist.2 zM) Cells.nil (by decide) (Quiet.c (Q.loadA ty50 rfl zM zS)) ?_
  refine VA.take 3 rfl (by kernel_rfl) (by kernel_rfl) (by kernel_rfl) (Still.then Still.body) (List.singleton_sublist.2 zM) Cells.nil (by decide) (Quiet.c (Q.fieldAddr fa58_1 rfl)) ?_
  refine VA.take 4 rfl (by kernel_rfl) (by kernel_rfl) (by kernel_rfl) (Still.then Still.body) (List.singleton_sublist.2 zM) Cells.nil (by decide) (Quiet.c (Q.load1 ty54 rfl zM rfl)) ?_
  refine VA.all (rs := [2]) (by kernel_rfl) (by simp) ?_
  refine VA.forall1 ?_
  · skip
    refine VA.eff rfl ?_
    refine id (O.call0 ok31 rfl rfl (by decide) (write_cts D hD) (fun _ _ _ => trivial) ?_)
    intro x25 y25
    refine VA.next (List.singleton_sublist.2 zM) Cells.nil ?_
    refine VA.take 5 rfl (by kernel_rfl) (by kernel_rfl) (by kernel_rfl) (Still.then Still.body) (List.singleton_sublist.2 zM) Cells.nil (by decide) (Quiet.c (Q.append0 sl54 rfl rfl (by omega))) ?_
    refine VA.all (rs := [6]) (by kernel_rfl) (by simp) ?_
    refine VA.forall1 ?_
    · skip
      refine VA.eff rfl ?_
      refine id (O.call0 ok30 rfl rfl (by decide) (append_c _ 10 _ (hb_cts D) rfl (by omega)) (fun _ _ hw => Rd.row hw zM) ?_)
      intro x29 y29
      refine VA.next (List.singleton_sublist.2 zM) Cells.nil ?_
      refine VA.take 7 rfl (by kernel_rfl) (by kernel_rfl) (by kernel_rfl) (Still.then Still.body) (List.singleton_sublist.2 zM) Cells.nil (by decide) (Quiet.c (Q.assign rfl)) ?_
      refine VA.take 8 rfl (by kernel_rfl) (by kernel_rfl) (by kernel_rfl) (Still.then Still.body) (List.singleton_sublist.2 zM) Cells.nil (by decide) (Quiet.c (Q.assign rfl)) ?_
      refine VA.done (by kernel_rfl) ?_
      refine VE.seq ?_
      refine VC.ret ?_
      exact VE.ret rfl (.tmp rfl (.tmp rfl .nil)) x29 y29 rfl (by repeat (first | exact List.Sublist.refl _ | exact .cons_cons _ (List.nil_sublist _) | apply List.Sublist.cons))

def hb_data (D : Nat) : List UInt8 := [136, 0, UInt8.ofNat D, UInt8.ofNat (D / 256), 2, 0, 0, 0, 0, 1, 2, 0, 0, 0, 0, 2, 0, 0, 0, 0, 0, 0, 0, 0, 0, 0]
theorem hbs_data (D : Nat) (hD : D ≤ 32767) : bs (hb_data D) = [.int .u8 136, .int .u8 0, .int .u8 ((D : Int) % 256), .int .u8 ((D : Int) / 256), .int .u8 2, .int .u8 0, .int .u8 0, .int .u8 0, .int .u8 0, .int .u8 1, .int .u8 2, .int .u8 0, .int .u8 0, .int .u8 0, .int .u8 0, .int .u8 2, .int .u8 0, .int .u8 0, .int .u8 0, .int .u8 0, .int .u8 0, .int .u8 0, .int .u8 0, .int .u8 0, .int .u8 0, .int .u8 0] := by
  simp [bs, hb_data]
  omega
theorem write_data (D : Nat) (hD : D ≤ 32767) :
    Does Tryd.prog 31 [.agg #[.int .u8 2, .int .u8 8, .bool false, .bool false, .bool false, .bool false, .bool false, .bool false, .bool false, .int .i64 (D : Int), .int .u8 2, .int .u8 0, .int .u8 0, .int .u8 0, .int .u8 0, .int .u8 1, .int .u8 2, .int .u8 0, .int .u8 0, .int .u8 0, .int .u8 0, .int .u8 2, .int .u8 0, .int .u8 0, .int .u8 0, .int .u8 0, .int .u8 0, .int .u8 0, .int .u8 0, .int .u8 0, .int .u8 0, .int .u8 0, .int .u8 0, .int .u8 0, .int .i64 0, .int .i64 0, .int .i64 0, .int .u8 0, .bool false, .bool false]] [] (fun _ => True) (X := Option Addr × Nat) (fun x => 26 ≤ x.2) (fun x => .slice x.1 26 x.2) (fun x => [.row (.slice x.1 26 x.2) 5 1 26 (bs (hb_data D))]) := by
  refine Does.enter Tryd.func31 rfl (m := 122) rfl (by simp) ?_
  intro W0 hro
  refine VC.seq ?_
  refine VC.region ?_
  refine VL.eff (O.box rfl rfl (by decide) ?_)
  intro g1
  refine VL.q (Q.assign rfl) ?_
  refine VL.nil ?_
  refine VE.seq ?_
  refine VC.seq ?_
  refine VC.region ?_
  refine VL.q (Q.fieldAddr fa50_0 rfl) ?_
  refine VL.q (Q.load1 ty5 rfl zM rfl) ?_
  refine VL.q (Q.fieldAddr fa50_1 rfl) ?_
  refine VL.q (Q.load1 ty5 rfl zM rfl) ?_
  refine VL.eff (O.call0 ok34 rfl rfl (by decide) (known_data) (fun _ _ _ => trivial) ?_)
  intro x21 y21
  refine VL.q (Q.move rfl) ?_
  refine VL.q (Q.extract rfl rfl) ?_
  refine VL.q (Q.extract rfl rfl) ?_
  refine VL.eff (O.alloc zo90 (by decide) ?_)
  intro g3
  refine VL.eff (O.store ty90 rfl rfl rfl rfl zU zP ?_)
  refine VL.q (Q.assign rfl) ?_
  refine VL.nil ?_
  refine VE.seq ?_
  refine VC.seq ?_
  refine VC.region ?_
  refine VL.q (Q.assign rfl) ?_
  refine VL.nil ?_
  refine VE.seq ?_
  refine VC.seq ?_
  refine VC.seq ?_
  refine VC.region ?_
  refine VL.q (Q.fieldAddr fa50_2 rfl) ?_
  refine VL.q (Q.load1 ty4 rfl zM rfl) ?_
  refine VL.q (Q.fieldAddr fa50_3 rfl) ?_
  refine VL.q (Q.load1 ty4 rfl zM rfl) ?_
  refine VL.q (Q.fieldAddr fa50_4 rfl) ?_
  refine VL.q (Q.load1 ty4 rfl zM rfl) ?_
  refine VL.q (Q.fieldAddr fa50_5 rfl) ?_
  refine VL.q (Q.load1 ty4 rfl zM rfl) ?_
  refine VL.q (Q.fieldAddr fa50_6 rfl) ?_
  refine VL.q (Q.load1 ty4 rfl zM rfl) ?_
  refine VL.q (Q.fieldAddr fa50_7 rfl) ?_
  refine VL.q (Q.load1 ty4 rfl zM rfl) ?_
  refine VL.q (Q.fieldAddr fa50_8 rfl) ?_
  refine VL.q (Q.load1 ty4 rfl zM rfl) ?_
  refine VL.eff (O.buildSlice sl25 ze4 (by decide) zF (by decide) ?_)
  intro g38
  refine VL.q (Q.len sl25 rfl) ?_
  refine VL.q (Q.move rfl) ?_
  refine VL.nil ?_
  refine VE.seq ?_
  refine VC.block ?_
  refine VC.rounds 40 ?_
  refine VC.rnd (m := 39) ?_
  refine VC.seq ?_
  refine VC.region ?_
  refine VL.q (Q.lt rfl rfl) ?_
  refine VL.nil ?_
  refine VE.seq ?_
  refine VC.seq ?_
  refine VC.condT rfl ?_
  refine VC.skip ?_
  refine VE.seq ?_
  refine VC.seq ?_
  refine VC.block ?_
  refine VC.seq ?_
  refine VC.region ?_
  refine VL.q (Q.move rfl) ?_
  refine VL.q (Q.indexAddr sl25 (j := 0) rfl rfl rfl (by omega)) ?_
  refine VL.q (Q.load1 ty4 rfl zM rfl) ?_
  refine VL.q (Q.assign rfl) ?_
  refine VL.q (Q.assign rfl) ?_
  refine VL.nil ?_
  refine VE.seq ?_
  refine VC.seq ?_
  refine VC.region ?_
  refine VL.q (Q.move rfl) ?_
  refine VL.nil ?_
  refine VE.seq ?_
  refine VC.condF rfl ?_
  refine VC.skip ?_
  refine VE.block_normal ?_
  refine VE.seq ?_
  refine VC.region ?_
  refine VL.quietE (v' := .int .i64 1) (by decide) ((by first | exact Q.addI rfl rfl (by omega) (by omega) | exact Q.add rfl rfl)) (by rfl) ?_
  refine VL.q (Q.move rfl) ?_
  refine VL.nil ?_
  refine VE.then_normal ?_
  refine VC.rnd (m := 38) ?_
  refine VC.seq ?_
  refine VC.region ?_
  refine VL.q (Q.lt rfl rfl) ?_
  refine VL.nil ?_
  refine VE.seq ?_
  refine VC.seq ?_
  refine VC.condT rfl ?_
  refine VC.skip ?_
  refine VE.seq ?_
  refine VC.seq ?_
  refine VC.block ?_
  refine VC.seq ?_
  refine VC.region ?_
  refine VL.q (Q.move rfl) ?_
  refine VL.q (Q.indexAddr sl25 (j := 1) rfl rfl rfl (by omega)) ?_
  refine VL.q (Q.load1 ty4 rfl zM rfl) ?_
  refine VL.q (Q.assign rfl) ?_
  refine VL.q (Q.assign rfl) ?_
  refine VL.nil ?_
  refine VE.seq ?_
  refine VC.seq ?_
  refine VC.region ?_
  refine VL.q (Q.move rfl) ?_
  refine VL.nil ?_
  refine VE.seq ?_
  refine VC.condF rfl ?_
  refine VC.skip ?_
  refine VE.block_normal ?_
  refine VE.seq ?_
  refine VC.region ?_
  refine VL.quietE (v' := .int .i64 2) (by decide) ((by first | exact Q.addI rfl rfl (by omega) (by omega) | exact Q.add rfl rfl)) (by rfl) ?_
  refine VL.q (Q.move rfl) ?_
  refine VL.nil ?_
  refine VE.then_normal ?_
  refine VC.rnd (m := 37) ?_
  refine VC.seq ?_
  refine VC.region ?_
  refine VL.q (Q.lt rfl rfl) ?_
  refine VL.nil ?_
  refine VE.seq ?_
  refine VC.seq ?_
  refine VC.condT rfl ?_
  refine VC.skip ?_
  refine VE.seq ?_
  refine VC.seq ?_
  refine VC.block ?_
  refine VC.seq ?_
  refine VC.region ?_
  refine VL.q (Q.move rfl) ?_
  refine VL.q (Q.indexAddr sl25 (j := 2) rfl rfl rfl (by omega)) ?_
  refine VL.q (Q.load1 ty4 rfl zM rfl) ?_
  refine VL.q (Q.assign rfl) ?_
  refine VL.q (Q.assign rfl) ?_
  refine VL.nil ?_
  refine VE.seq ?_
  refine VC.seq ?_
  refine VC.region ?_
  refine VL.q (Q.move rfl) ?_
  refine VL.nil ?_
  refine VE.seq ?_
  refine VC.condF rfl ?_
  refine VC.skip ?_
  refine VE.block_normal ?_
  refine VE.seq ?_
  refine VC.region ?_
  refine VL.quietE (v' := .int .i64 3) (by decide) ((by first | exact Q.addI rfl rfl (by omega) (by omega) | exact Q.add rfl rfl)) (by rfl) ?_
  refine VL.q (Q.move rfl) ?_
  refine VL.nil ?_
  refine VE.then_normal ?_
  refine VC.rnd (m := 36) ?_
  refine VC.seq ?_
  refine VC.region ?_
  refine VL.q (Q.lt rfl rfl) ?_
  refine VL.nil ?_
  refine VE.seq ?_
  refine VC.seq ?_
  refine VC.condT rfl ?_
  refine VC.skip ?_
  refine VE.seq ?_
  refine VC.seq ?_
  refine VC.block ?_
  refine VC.seq ?_
  refine VC.region ?_
  refine VL.q (Q.move rfl) ?_
  refine VL.q (Q.indexAddr sl25 (j := 3) rfl rfl rfl (by omega)) ?_
  refine VL.q (Q.load1 ty4 rfl zM rfl) ?_
  refine VL.q (Q.assign rfl) ?_
  refine VL.q (Q.assign rfl) ?_
  refine VL.nil ?_
  refine VE.seq ?_
  refine VC.seq ?_
  refine VC.region ?_
  refine VL.q (Q.move rfl) ?_
  refine VL.nil ?_
  refine VE.seq ?_
  refine VC.condF rfl ?_
  refine VC.skip ?_
  refine VE.block_normal ?_
  refine VE.seq ?_
  refine VC.region ?_
  refine VL.quietE (v' := .int .i64 4) (by decide) ((by first | exact Q.addI rfl rfl (by omega) (by omega) | exact Q.add rfl rfl)) (by rfl) ?_
  refine VL.q (Q.move rfl) ?_
  refine VL.nil ?_
  refine VE.then_normal ?_
  refine VC.rnd (m := 35) ?_
  refine VC.seq ?_
  refine VC.region ?_
  refine VL.q (Q.lt rfl rfl) ?_
  refine VL.nil ?_
  refine VE.seq ?_
  refine VC.seq ?_
  refine VC.condT rfl ?_
  refine VC.skip ?_
  refine VE.seq ?_
  refine VC.seq ?_
  refine VC.block ?_
  refine VC.seq ?_
  refine VC.region ?_
  refine VL.q (Q.move rfl) ?_
  refine VL.q (Q.indexAddr sl25 (j := 4) rfl rfl rfl (by omega)) ?_
  refine VL.q (Q.load1 ty4 rfl zM rfl) ?_
  refine VL.q (Q.assign rfl) ?_
  refine VL.q (Q.assign rfl) ?_
  refine VL.nil ?_
  refine VE.seq ?_
  refine VC.seq ?_
  refine VC.region ?_
  refine VL.q (Q.move rfl) ?_
  refine VL.nil ?_
  refine VE.seq ?_
  refine VC.condF rfl ?_
  refine VC.skip ?_
  refine VE.block_normal ?_
  refine VE.seq ?_
  refine VC.region ?_
  refine VL.quietE (v' := .int .i64 5) (by decide) ((by first | exact Q.addI rfl rfl (by omega) (by omega) | exact Q.add rfl rfl)) (by rfl) ?_
  refine VL.q (Q.move rfl) ?_
  refine VL.nil ?_
  refine VE.then_normal ?_
  refine VC.rnd (m := 34) ?_
  refine VC.seq ?_
  refine VC.region ?_
  refine VL.q (Q.lt rfl rfl) ?_
  refine VL.nil ?_
  refine VE.seq ?_
  refine VC.seq ?_
  refine VC.condT rfl ?_
  refine VC.skip ?_
  refine VE.seq ?_
  refine VC.seq ?_
  refine VC.block ?_
  refine VC.seq ?_
  refine VC.region ?_
  refine VL.q (Q.move rfl) ?_
  refine VL.q (Q.indexAddr sl25 (j := 5) rfl rfl rfl (by omega)) ?_
  refine VL.q (Q.load1 ty4 rfl zM rfl) ?_
  refine VL.q (Q.assign rfl) ?_
  refine VL.q (Q.assign rfl) ?_
  refine VL.nil ?_
  refine VE.seq ?_
  refine VC.seq ?_
  refine VC.region ?_
  refine VL.q (Q.move rfl) ?_
  refine VL.nil ?_
  refine VE.seq ?_
  refine VC.condF rfl ?_
  refine VC.skip ?_
  refine VE.block_normal ?_
  refine VE.seq ?_
  refine VC.region ?_
  refine VL.quietE (v' := .int .i64 6) (by decide) ((by first | exact Q.addI rfl rfl (by omega) (by omega) | exact Q.add rfl rfl)) (by rfl) ?_
  refine VL.q (Q.move rfl) ?_
  refine VL.nil ?_
  refine VE.then_normal ?_
  refine VC.rnd (m := 33) ?_
  refine VC.seq ?_
  refine VC.region ?_
  refine VL.q (Q.lt rfl rfl) ?_
  refine VL.nil ?_
  refine VE.seq ?_
  refine VC.seq ?_
  refine VC.condT rfl ?_
  refine VC.skip ?_
  refine VE.seq ?_
  refine VC.seq ?_
  refine VC.block ?_
  refine VC.seq ?_
  refine VC.region ?_
  refine VL.q (Q.move rfl) ?_
  refine VL.q (Q.indexAddr sl25 (j := 6) rfl rfl rfl (by omega)) ?_
  refine VL.q (Q.load1 ty4 rfl zM rfl) ?_
  refine VL.q (Q.assign rfl) ?_
  refine VL.q (Q.assign rfl) ?_
  refine VL.nil ?_
  refine VE.seq ?_
  refine VC.seq ?_
  refine VC.region ?_
  refine VL.q (Q.move rfl) ?_
  refine VL.nil ?_
  refine VE.seq ?_
  refine VC.condF rfl ?_
  refine VC.skip ?_
  refine VE.block_normal ?_
  refine VE.seq ?_
  refine VC.region ?_
  refine VL.quietE (v' := .int .i64 7) (by decide) ((by first | exact Q.addI rfl rfl (by omega) (by omega) | exact Q.add rfl rfl)) (by rfl) ?_
  refine VL.q (Q.move rfl) ?_
  refine VL.nil ?_
  refine VE.then_normal ?_
  refine VC.rnd (m := 32) ?_
  refine VC.seq ?_
  refine VC.region ?_
  refine VL.q (Q.lt rfl rfl) ?_
  refine VL.nil ?_
  refine VE.seq ?_
  refine VC.seq ?_
  refine VC.condF rfl ?_
  refine VC.exit ?_
  refine VE.then_exit ?_
  refine VE.then_exit ?_
  refine VE.block_here ?_
  refine VE.seq ?_
  refine VC.seq ?_
  refine VC.region ?_
  refine VL.q (Q.fieldAddr fa50_0 rfl) ?_
  refine VL.q (Q.load1 ty5 rfl zM rfl) ?_
  refine VL.quietE (v' := .int .u8 8) (by decide) ((by first | exact Q.shlF (s := 2) (m := 4) rfl rfl (by decide) (by decide) (by simp only [klo]; omega) (by simp only [khi]; omega) | exact Q.shlM (M := 256) (s := 2) (m := 4) rfl rfl (by decide) (by decide) rfl rfl)) (by rfl) ?_
  refine VL.q (Q.fieldAddr fa50_1 rfl) ?_
  refine VL.q (Q.load1 ty5 rfl zM rfl) ?_
  refine VL.quietE (v' := .int .u8 128) (by decide) ((by first | exact Q.shlF (s := 4) (m := 16) rfl rfl (by decide) (by decide) (by simp only [klo]; omega) (by simp only [khi]; omega) | exact Q.shlM (M := 256) (s := 4) (m := 16) rfl rfl (by decide) (by decide) rfl rfl)) (by rfl) ?_
  refine VL.quietE (v' := .int .u8 136) (by decide) (Q.or rfl rfl (by omega) (by simp only [khi]; omega) (by omega) (by simp only [khi]; omega)) (by rfl) ?_
  refine VL.q (Q.move rfl) ?_
  refine VL.eff (O.buildSlice sl54 ze5 (by decide) zF (by decide) ?_)
  intro g59
  refine VL.q (Q.fieldAddr fa50_9 rfl) ?_
  refine VL.q (Q.load1 ty3 rfl zM rfl) ?_
  refine VK.toRow (g := g59) (s := 1) (m := 2) (c := 2) zU rfl (by omega) (by unfold maxLen; omega) ?_
  refine VL.eff (O.callB ok50 rfl rfl (by decide) (put16_c _ _ _ _ _ (by first | omega | decide) (by omega)) zK (fun _ _ _ => trivial) ?_)
  intro x62 y62
  refine VL.q (Q.assign rfl) ?_
  refine VL.nil ?_
  refine VE.seq ?_
  refine VC.seq ?_
  refine VK.keep (by exact .cons (i := 1) rfl (.cons (i := 2) rfl (.cons (i := 3) rfl (.cons (i := 8) rfl ( .nil))))) ?_
  refine VC.region ?_
  refine VL.eff (O.call0 ok36 rfl rfl (by decide) (places_data _) (fun _ _ hw => Rd.seg hw zM zS) ?_)
  intro x64 y64
  refine VL.q (Q.move rfl) ?_
  refine VL.q (Q.extract rfl rfl) ?_
  refine VL.q (Q.extract rfl rfl) ?_
  refine VL.q (Q.assign rfl) ?_
  refine VL.q (Q.assign rfl) ?_
  refine VL.nil ?_
  refine VE.seq ?_
  refine VC.seq ?_
  refine VC.seq ?_
  refine VC.region ?_
  refine VL.q (Q.move rfl) ?_
  refine VL.q (Q.len sl93 rfl) ?_
  refine VL.q (Q.move rfl) ?_
  refine VL.nil ?_
  refine VE.seq ?_
  refine VC.block ?_
  refine VC.rounds 40 ?_
  refine VC.rnd (m := 39) ?_
  refine VC.seq ?_
  refine VC.region ?_
  refine VL.q (Q.lt rfl rfl) ?_
  refine VL.nil ?_
  refine VE.seq ?_
  refine VC.seq ?_
  refine VC.condT rfl ?_
  refine VC.skip ?_
  refine VE.seq ?_
  refine VC.seq ?_
  refine VC.block ?_
  refine VC.seq ?_
  refine VC.region ?_
  refine VL.q (Q.indexAddr sl93 (j := 0) rfl rfl rfl (by omega)) ?_
  refine VL.q (Q.load1 ty97 rfl zM rfl) ?_
  refine VL.q (Q.assign rfl) ?_
  refine VL.nil ?_
  refine VE.seq ?_
  refine VC.region ?_
  refine VL.q (Q.move rfl) ?_
  refine VL.q (Q.move rfl) ?_
  refine VL.q (Q.nilCheck rfl) ?_
  refine VL.q (Q.slcA0 ar43 (h := _) rfl rfl (by omega)) ?_
  refine VL.eff (O.appendS sl54 ze5 rfl (by decide) rfl rfl zM zS rfl (by decide) (by unfold maxLen; omega) (by omega) zA ?_)
  intro p77 c77 hc77
  refine VL.q (Q.assign rfl) ?_
  refine VL.nil ?_
  refine VE.block_normal ?_
  refine VE.seq ?_
  refine VC.region ?_
  refine VL.quietE (v' := .int .i64 1) (by decide) ((by first | exact Q.addI rfl rfl (by omega) (by omega) | exact Q.add rfl rfl)) (by rfl) ?_
  refine VL.q (Q.move rfl) ?_
  refine VL.nil ?_
  refine VE.then_normal ?_
  refine VC.rnd (m := 38) ?_
  refine VC.seq ?_
  refine VC.region ?_
  refine VL.q (Q.lt rfl rfl) ?_
  refine VL.nil ?_
  refine VE.seq ?_
  refine VC.seq ?_
  refine VC.condT rfl ?_
  refine VC.skip ?_
  refine VE.seq ?_
  refine VC.seq ?_
  refine VC.block ?_
  refine VC.seq ?_
  refine VC.region ?_
  refine VL.q (Q.indexAddr sl93 (j := 1) rfl rfl rfl (by omega)) ?_
  refine VL.q (Q.load1 ty97 rfl zM rfl) ?_
  refine VL.q (Q.assign rfl) ?_
  refine VL.nil ?_
  refine VE.seq ?_
  refine VC.region ?_
  refine VL.q (Q.move rfl) ?_
  refine VL.q (Q.move rfl) ?_
  refine VL.q (Q.nilCheck rfl) ?_
  refine VL.q (Q.slcA0 ar43 (h := _) rfl rfl (by omega)) ?_
  refine VL.eff (O.appendS sl54 ze5 rfl (by decide) rfl rfl zM zS rfl (by decide) (by unfold maxLen; omega) (by omega) zA ?_)
  intro p77_1 c77_1 hc77_1
  refine VL.q (Q.assign rfl) ?_
  refine VL.nil ?_
  refine VE.block_normal ?_
  refine VE.seq ?_
  refine VC.region ?_
  refine VL.quietE (v' := .int .i64 2) (by decide) ((by first | exact Q.addI rfl rfl (by omega) (by omega) | exact Q.add rfl rfl)) (by rfl) ?_
  refine VL.q (Q.move rfl) ?_
  refine VL.nil ?_
  refine VE.then_normal ?_
  refine VC.rnd (m := 37) ?_
  refine VC.seq ?_
  refine VC.region ?_
  refine VL.q (Q.lt rfl rfl) ?_
  refine VL.nil ?_
  refine VE.seq ?_
  refine VC.seq ?_
  refine VC.condT rfl ?_
  refine VC.skip ?_
  refine VE.seq ?_
  refine VC.seq ?_
  refine VC.block ?_
  refine VC.seq ?_
  refine VC.region ?_
  refine VL.q (Q.indexAddr sl93 (j := 2) rfl rfl rfl (by omega)) ?_
  refine VL.q (Q.load1 ty97 rfl zM rfl) ?_
  refine VL.q (Q.assign rfl) ?_
  refine VL.nil ?_
  refine VE.seq ?_
  refine VC.region ?_
  refine VL.q (Q.move rfl) ?_
  refine VL.q (Q.move rfl) ?_
  refine VL.q (Q.nilCheck rfl) ?_
  refine VL.q (Q.slcA0 ar43 (h := _) rfl rfl (by omega)) ?_
  refine VL.eff (O.appendS sl54 ze5 rfl (by decide) rfl rfl zM zS rfl (by decide) (by unfold maxLen; omega) (by omega) zA ?_)
  intro p77_2 c77_2 hc77_2
  refine VL.q (Q.assign rfl) ?_
  refine VL.nil ?_
  refine VE.block_normal ?_
  refine VE.seq ?_
  refine VC.region ?_
  refine VL.quietE (v' := .int .i64 3) (by decide) ((by first | exact Q.addI rfl rfl (by omega) (by omega) | exact Q.add rfl rfl)) (by rfl) ?_
  refine VL.q (Q.move rfl) ?_
  refine VL.nil ?_
  refine VE.then_normal ?_
  refine VC.rnd (m := 36) ?_
  refine VC.seq ?_
  refine VC.region ?_
  refine VL.q (Q.lt rfl rfl) ?_
  refine VL.nil ?_
  refine VE.seq ?_
  refine VC.seq ?_
  refine VC.condF rfl ?_
  refine VC.exit ?_
  refine VE.then_exit ?_
  refine VE.then_exit ?_
  refine VE.block_here ?_
  refine VE.seq ?_
  refine VC.seq ?_
  refine VC.seq ?_
  refine VC.region ?_
  refine VL.q (Q.fieldAddr fa90_1 rfl) ?_
  refine VL.q (Q.load1 ty4 rfl zM rfl) ?_
  refine VL.nil ?_
  refine VE.seq ?_
  refine VC.condT rfl ?_
  refine VC.region ?_
  refine VL.q (Q.move rfl) ?_
  refine VL.q (Q.fieldAddr fa50_15 rfl) ?_
  refine VL.q (Q.load1 ty3 rfl zM rfl) ?_
  refine VL.q (Q.fieldAddr fa50_14 rfl) ?_
  refine VL.q (Q.load1 ty3 rfl zM rfl) ?_
  refine VL.quietE (v' := .int .i64 0) (by decide) (Q.shlF (s := 4) (m := 16) rfl rfl (by decide) (by decide) (by simp only [klo]; omega) (by simp only [khi]; omega)) (by rfl) ?_
  refine VL.quietE (v' := .int .i64 0) (by decide) (Q.or rfl rfl (by omega) (by simp only [khi]; omega) (by omega) (by simp only [khi]; omega)) (by rfl) ?_
  refine VL.eff (O.callB ok50 rfl rfl (by decide) (put16_c _ _ _ _ _ (by first | omega | decide) (by omega)) zK (fun _ _ _ => trivial) ?_)
  intro x88 y88
  refine VL.q (Q.assign rfl) ?_
  refine VL.nil ?_
  refine VE.seq ?_
  refine VC.seq ?_
  refine VC.seq ?_
  refine VC.region ?_
  refine VL.q (Q.move rfl) ?_
  refine VL.q (Q.len sl93 rfl) ?_
  refine VL.q (Q.move rfl) ?_
  refine VL.nil ?_
  refine VE.seq ?_
  refine VC.block ?_
  refine VC.rounds 40 ?_
  refine VC.rnd (m := 39) ?_
  refine VC.seq ?_
  refine VC.region ?_
  refine VL.q (Q.lt rfl rfl) ?_
  refine VL.nil ?_
  refine VE.seq ?_
  refine VC.seq ?_
  refine VC.condF rfl ?_
  refine VC.exit ?_
  refine VE.then_exit ?_
  refine VE.then_exit ?_
  refine VE.block_here ?_
  refine VE.seq ?_
  refine VC.seq ?_
  refine VC.seq ?_
  refine VC.region ?_
  refine VL.q (Q.fieldAddr fa90_2 rfl) ?_
  refine VL.q (Q.load1 ty4 rfl zM rfl) ?_
  refine VL.nil ?_
  refine VE.seq ?_
  refine VC.condT rfl ?_
  refine VC.seq ?_
  refine VC.region ?_
  refine VL.q (Q.fieldAddr fa50_16 rfl) ?_
  refine VL.q (Q.load1 ty3 rfl zM rfl) ?_
  refine VL.q (Q.fieldAddr fa50_17 rfl) ?_
  refine VL.q (Q.load1 ty5 rfl zM rfl) ?_
  refine VL.quietE (v' := .int .i64 0) (by decide) ((by first | exact Q.convF ti5 ti3 rfl (by simp only [klo]; omega) (by simp only [khi]; omega) | exact Q.convM (M := 0) ti5 ti3 rfl rfl rfl | exact Q.conv ti5 ti3 rfl)) (by rfl) ?_
  refine VL.quietE (v' := .int .i64 0) (by decide) ((by first | exact Q.mulI rfl rfl (by omega) (by omega) | exact Q.mul rfl rfl)) (by rfl) ?_
  refine VL.quietE (v' := .int .i64 0) (by decide) (Q.or rfl rfl (by omega) (by simp only [khi]; omega) (by omega) (by simp only [khi]; omega)) (by rfl) ?_
  refine VL.q (Q.assign rfl) ?_
  refine VL.nil ?_
  refine VE.seq ?_
  refine VC.seq ?_
  refine VC.seq ?_
  refine VK.keep (by exact .cons (i := 1) rfl (.cons (i := 2) rfl (.cons (i := 8) rfl (.cons (i := 15) rfl ( .nil))))) ?_
  refine VC.region ?_
  refine VL.q (Q.fieldAddr fa50_19 rfl) ?_
  refine VL.q (Q.load1 ty4 rfl zM rfl) ?_
  refine VL.nil ?_
  refine VE.seq ?_
  refine VC.condF rfl ?_
  refine VC.skip ?_
  refine VE.seq ?_
  refine VC.seq ?_
  refine VC.seq ?_
  refine VC.region ?_
  refine VL.q (Q.fieldAddr fa50_18 rfl) ?_
  refine VL.q (Q.load1 ty4 rfl zM rfl) ?_
  refine VL.nil ?_
  refine VE.seq ?_
  refine VC.condF rfl ?_
  refine VC.skip ?_
  refine VE.seq ?_
  refine VC.region ?_
  refine VL.q (Q.move rfl) ?_
  refine VL.q (Q.move rfl) ?_
  refine VL.eff (O.callB ok50 rfl rfl (by decide) (put16_c _ _ _ _ _ (by first | omega | decide) (by omega)) zK (fun _ _ _ => trivial) ?_)
  intro x120 y120
  refine VL.q (Q.assign rfl) ?_
  refine VL.nil ?_
  refine VE.seq ?_
  refine VC.seq ?_
  refine VC.region ?_
  refine VL.q (Q.move rfl) ?_
  refine VL.q (Q.assign rfl) ?_
  refine VL.nil ?_
  refine VE.seq ?_
  refine VC.ret ?_
  rw [hbs_data D hD]
  exact VE.ret rfl (.tmp rfl .nil) (_, _) (by first | assumption | omega) rfl (by repeat (first | exact List.Sublist.refl _ | exact .cons_cons _ (List.nil_sublist _) | apply List.Sublist.cons))

theorem encode_data (D : Nat) (hD : D ≤ 32767) :
    Does Tryd.prog 15 [.agg #[.int .u8 2, .int .u8 8, .bool false, .bool false, .bool false, .bool false, .bool false, .bool false, .bool false, .int .i64 (D : Int), .int .u8 2, .int .u8 0, .int .u8 0, .int .u8 0, .int .u8 0, .int .u8 1, .int .u8 2, .int .u8 0, .int .u8 0, .int .u8 0, .int .u8 0, .int .u8 2, .int .u8 0, .int .u8 0, .int .u8 0, .int .u8 0, .int .u8 0, .int .u8 0, .int .u8 0, .int .u8 0, .int .u8 0, .int .u8 0, .int .u8 0, .int .u8 0, .int .i64 0, .int .i64 0, .int .i64 0, .int .u8 0, .bool false, .bool false, .slice none 0 0]] [] (fun _ => True) (X := Option Addr × Nat) (fun x => 30 ≤ x.2) (fun x => .tuple #[.slice x.1 30 x.2, .int .i64 0]) (fun x => [.row (.slice x.1 30 x.2) 5 1 30 (bs (hb_data D ++ crcBytes (hb_data D)))]) := by
  refine Does.enter Tryd.func15 rfl (m := 30) rfl (by simp) ?_
  intro W0 hro
  refine VC.seq ?_
  refine VC.region ?_
  refine VL.eff (O.box rfl rfl (by decide) ?_)
  intro g1
  refine VL.q (Q.assign rfl) ?_
  refine VL.q (Q.assign rfl) ?_
  refine VL.nil ?_
  refine VE.seq ?_
  refine VC.seq ?_
  refine VC.seq ?_
  refine VC.region ?_
  refine VL.q (Q.fieldAddr fa58_0 rfl) ?_
  refine VL.q (Q.loadA ty50 rfl zM zS) ?_
  refine VL.eff (O.call0 ok28 rfl rfl (by decide) (check_data D hD) (fun _ _ _ => trivial) ?_)
  intro x6 y6
  refine VL.quietE (v' := .bool false) (by decide) (Q.ne rfl rfl) (by rfl) ?_
  refine VL.q (Q.move rfl) ?_
  refine VL.yes rfl rfl ?_
  refine VL.q (Q.fieldAddr fa58_0 rfl) ?_
  refine VL.yes rfl rfl ?_
  refine VL.q (Q.loadA ty50 rfl zM zS) ?_
  refine VL.yes rfl rfl ?_
  refine VL.eff (O.call0 ok29 rfl rfl (by decide) (bare_data D) (fun _ _ _ => trivial) ?_)
  intro x11 y11
  refine VL.yes rfl rfl ?_
  refine VL.q (Q.move rfl) ?_
  refine VL.no (by simp) rfl rfl (.inl rfl) ?_
  refine VL.no (by simp) rfl rfl (.inl rfl) ?_
  refine VL.no (by simp) rfl rfl (.inl rfl) ?_
  refine VL.no (by simp) rfl rfl (.inl rfl) ?_
  refine VL.yes rfl rfl ?_
  refine VL.quietE (v' := .bool false) (by decide) (Q.pick_false rfl rfl) (by rfl) ?_
  refine VL.quietE (v' := .bool false) (by decide) (Q.pick_false rfl rfl) (by rfl) ?_
  refine VL.nil ?_
  refine VE.seq ?_
  refine VC.condF rfl ?_
  refine VC.skip ?_
  refine VE.seq ?_
  refine VC.seq ?_
  refine VC.seq ?_
  refine VC.region ?_
  refine VL.q (Q.fieldAddr fa58_1 rfl) ?_
  refine VL.q (Q.load1 ty54 rfl zM rfl) ?_
  refine VL.q (Q.len sl54 rfl) ?_
  refine VL.quietE (v' := .bool false) (by decide) (Q.gt rfl rfl) (by rfl) ?_
  refine VL.nil ?_
  refine VE.seq ?_
  refine VC.condF rfl ?_
  refine VC.skip ?_
  refine VE.seq ?_
  refine VC.seq ?_
  refine VA.start (Ls := [.blk g1 [.int .u8 2, .int .u8 8, .bool false, .bool false, .bool false, .bool false, .bool false, .bool false, .bool false, .int .i64 (D : Int), .int .u8 2, .int .u8 0, .int .u8 0, .int .u8 0, .int .u8 0, .int .u8 1, .int .u8 2, .int .u8 0, .int .u8 0, .int .u8 0, .int .u8 0, .int .u8 2, .int .u8 0, .int .u8 0, .int .u8 0, .int .u8 0, .int .u8 0, .int .u8 0, .int .u8 0, .int .u8 0, .int .u8 0, .int .u8 0, .int .u8 0, .int .u8 0, .int .i64 0, .int .i64 0, .int .i64 0, .int .u8 0, .bool false, .bool false, .slice none 0 0] 58]) (Cs := []) mixed ?_
  refine VA.take 0 rfl (by kernel_rfl) (by kernel_rfl) (by kernel_rfl) (Still.then Still.body) (List.singleton_sublist.2 zM) Cells.nil (by decide) (Quiet.c (Q.fieldAddr fa58_0 rfl)) ?_
  refine VA.take 1 rfl (by kernel_rfl) (by kernel_rfl) (by kernel_rfl) (Still.then Still.body) (List.singleton_sublist.2 zM) Cells.nil (by decide) (Quiet.c (Q.loadA ty50 rfl zM zS)) ?_
  refine VA.take 3 rfl (by kernel_rfl) (by kernel_rfl) (by kernel_rfl) (Still.then Still.body) (List.singleton_sublist.2 zM) Cells.nil (by decide) (Quiet.c (Q.fieldAddr fa58_1 rfl)) ?_
  refine VA.take 4 rfl (by kernel_rfl) (by kernel_rfl) (by kernel_rfl) (Still.then Still.body) (List.singleton_sublist.2 zM) Cells.nil (by decide) (Quiet.c (Q.load1 ty54 rfl zM rfl)) ?_
  refine VA.all (rs := [2]) (by kernel_rfl) (by simp) ?_
  refine VA.forall1 ?_
  · skip
    refine VA.eff rfl ?_
    refine id (O.call0 ok31 rfl rfl (by decide) (write_data D hD) (fun _ _ _ => trivial) ?_)
    intro x25 y25
    refine VA.next (List.singleton_sublist.2 zM) Cells.nil ?_
    refine VA.take 5 rfl (by kernel_rfl) (by kernel_rfl) (by kernel_rfl) (Still.then Still.body) (List.singleton_sublist.2 zM) Cells.nil (by decide) (Quiet.c (Q.append0 sl54 rfl rfl (by omega))) ?_
    refine VA.all (rs := [6]) (by kernel_rfl) (by simp) ?_
    refine VA.forall1 ?_
    · skip
      refine VA.eff rfl ?_
      refine id (O.call0 ok30 rfl rfl (by decide) (append_c _ 26 _ (hb_data D) rfl (by omega)) (fun _ _ hw => Rd.row hw zM) ?_)
      intro x29 y29
      refine VA.next (List.singleton_sublist.2 zM) Cells.nil ?_
      refine VA.take 7 rfl (by kernel_rfl) (by kernel_rfl) (by kernel_rfl) (Still.then Still.body) (List.singleton_sublist.2 zM) Cells.nil (by decide) (Quiet.c (Q.assign rfl)) ?_
      refine VA.take 8 rfl (by kernel_rfl) (by kernel_rfl) (by kernel_rfl) (Still.then Still.body) (List.singleton_sublist.2 zM) Cells.nil (by decide) (Quiet.c (Q.assign rfl)) ?_
      refine VA.done (by kernel_rfl) ?_
      refine VE.seq ?_
      refine VC.ret ?_
      exact VE.ret rfl (.tmp rfl (.tmp rfl .nil)) x29 y29 rfl (by repeat (first | exact List.Sublist.refl _ | exact .cons_cons _ (List.nil_sublist _) | apply List.Sublist.cons))

def hb_ack (D : Nat) : List UInt8 := [212, 0, UInt8.ofNat D, UInt8.ofNat (D / 256), 2, 0, 0, 0, 0, 2]
theorem hbs_ack (D : Nat) (hD : D ≤ 32767) : bs (hb_ack D) = [.int .u8 212, .int .u8 0, .int .u8 ((D : Int) % 256), .int .u8 ((D : Int) / 256), .int .u8 2, .int .u8 0, .int .u8 0, .int .u8 0, .int .u8 0, .int .u8 2] := by
  simp [bs, hb_ack]
  omega
theorem write_ack (D : Nat) (hD : D ≤ 32767) :
    Does Tryd.prog 31 [.agg #[.int .u8 1, .int .u8 13, .bool false, .bool false, .bool false, .bool false, .bool false, .bool false, .bool false, .int .i64 (D : Int), .int .u8 2, .int .u8 0, .int .u8 0, .int .u8 0, .int .u8 0, .int .u8 2, .int .u8 0, .int .u8 0, .int .u8 0, .int .u8 0, .int .u8 0, .int .u8 0, .int .u8 0, .int .u8 0, .int .u8 0, .int .u8 0, .int .u8 0, .int .u8 0, .int .u8 0, .int .u8 0, .int .u8 0, .int .u8 0, .int .u8 0, .int .u8 0, .int .i64 0, .int .i64 0, .int .i64 0, .int .u8 0, .bool false, .bool false]] [] (fun _ => True) (X := Option Addr × Nat) (fun x => 10 ≤ x.2) (fun x => .slice x.1 10 x.2) (fun x => [.row (.slice x.1 10 x.2) 5 1 10 (bs (hb_ack D))]) := by
  refine Does.enter Tryd.func31 rfl (m := 122) rfl (by simp) ?_
  intro W0 hro
  refine VC.seq ?_
  refine VC.region ?_
  refine VL.eff (O.box rfl rfl (by decide) ?_)
  intro g1
  refine VL.q (Q.assign rfl) ?_
  refine VL.nil ?_
  refine VE.seq ?_
  refine VC.seq ?_
  refine VC.region ?_
  refine VL.q (Q.fieldAddr fa50_0 rfl) ?_
  refine VL.q (Q.load1 ty5 rfl zM rfl) ?_
  refine VL.q (Q.fieldAddr fa50_1 rfl) ?_
  refine VL.q (Q.load1 ty5 rfl zM rfl) ?_
  refine VL.eff (O.call0 ok34 rfl rfl (by decide) (known_ack) (fun _ _ _ => trivial) ?_)
  intro x21 y21
  refine VL.q (Q.move rfl) ?_
  refine VL.q (Q.extract rfl rfl) ?_
  refine VL.q (Q.extract rfl rfl) ?_
  refine VL.eff (O.alloc zo90 (by decide) ?_)
  intro g3
  refine VL.eff (O.store ty90 rfl rfl rfl rfl zU zP ?_)
  refine VL.q (Q.assign rfl) ?_
  refine VL.nil ?_
  refine VE.seq ?_
  refine VC.seq ?_
  refine VC.region ?_
  refine VL.q (Q.assign rfl) ?_
  refine VL.nil ?_
  refine VE.seq ?_
  refine VC.seq ?_
  refine VC.seq ?_
  refine VC.region ?_
  refine VL.q (Q.fieldAddr fa50_2 rfl) ?_
  refine VL.q (Q.load1 ty4 rfl zM rfl) ?_
  refine VL.q (Q.fieldAddr fa50_3 rfl) ?_
  refine VL.q (Q.load1 ty4 rfl zM rfl) ?_
  refine VL.q (Q.fieldAddr fa50_4 rfl) ?_
  refine VL.q (Q.load1 ty4 rfl zM rfl) ?_
  refine VL.q (Q.fieldAddr fa50_5 rfl) ?_
  refine VL.q (Q.load1 ty4 rfl zM rfl) ?_
  refine VL.q (Q.fieldAddr fa50_6 rfl) ?_
  refine VL.q (Q.load1 ty4 rfl zM rfl) ?_
  refine VL.q (Q.fieldAddr fa50_7 rfl) ?_
  refine VL.q (Q.load1 ty4 rfl zM rfl) ?_
  refine VL.q (Q.fieldAddr fa50_8 rfl) ?_
  refine VL.q (Q.load1 ty4 rfl zM rfl) ?_
  refine VL.eff (O.buildSlice sl25 ze4 (by decide) zF (by decide) ?_)
  intro g38
  refine VL.q (Q.len sl25 rfl) ?_
  refine VL.q (Q.move rfl) ?_
  refine VL.nil ?_
  refine VE.seq ?_
  refine VC.block ?_
  refine VC.rounds 40 ?_
  refine VC.rnd (m := 39) ?_
  refine VC.seq ?_
  refine VC.region ?_
  refine VL.q (Q.lt rfl rfl) ?_
  refine VL.nil ?_
  refine VE.seq ?_
  refine VC.seq ?_
  refine VC.condT rfl ?_
  refine VC.skip ?_
  refine VE.seq ?_
  refine VC.seq ?_
  refine VC.block ?_
  refine VC.seq ?_
  refine VC.region ?_
  refine VL.q (Q.move rfl) ?_
  refine VL.q (Q.indexAddr sl25 (j := 0) rfl rfl rfl (by omega)) ?_
  refine VL.q (Q.load1 ty4 rfl zM rfl) ?_
  refine VL.q (Q.assign rfl) ?_
  refine VL.q (Q.assign rfl) ?_
  refine VL.nil ?_
  refine VE.seq ?_
  refine VC.seq ?_
  refine VC.region ?_
  refine VL.q (Q.move rfl) ?_
  refine VL.nil ?_
  refine VE.seq ?_
  refine VC.condF rfl ?_
  refine VC.skip ?_
  refine VE.block_normal ?_
  refine VE.seq ?_
  refine VC.region ?_
  refine VL.quietE (v' := .int .i64 1) (by decide) ((by first | exact Q.addI rfl rfl (by omega) (by omega) | exact Q.add rfl rfl)) (by rfl) ?_
  refine VL.q (Q.move rfl) ?_
  refine VL.nil ?_
  refine VE.then_normal ?_
  refine VC.rnd (m := 38) ?_
  refine VC.seq ?_
  refine VC.region ?_
  refine VL.q (Q.lt rfl rfl) ?_
  refine VL.nil ?_
  refine VE.seq ?_
  refine VC.seq ?_
  refine VC.condT rfl ?_
  refine VC.skip ?_
  refine VE.seq ?_
  refine VC.seq ?_
  refine VC.block ?_
  refine VC.seq ?_
  refine VC.region ?_
  refine VL.q (Q.move rfl) ?_
  refine VL.q (Q.indexAddr sl25 (j := 1) rfl rfl rfl (by omega)) ?_
  refine VL.q (Q.load1 ty4 rfl zM rfl) ?_
  refine VL.q (Q.assign rfl) ?_
  refine VL.q (Q.assign rfl) ?_
  refine VL.nil ?_
  refine VE.seq ?_
  refine VC.seq ?_
  refine VC.region ?_
  refine VL.q (Q.move rfl) ?_
  refine VL.nil ?_
  refine VE.seq ?_
  refine VC.condF rfl ?_
  refine VC.skip ?_
  refine VE.block_normal ?_
  refine VE.seq ?_
  refine VC.region ?_
  refine VL.quietE (v' := .int .i64 2) (by decide) ((by first | exact Q.addI rfl rfl (by omega) (by omega) | exact Q.add rfl rfl)) (by rfl) ?_
  refine VL.q (Q.move rfl) ?_
  refine VL.nil ?_
  refine VE.then_normal ?_
  refine VC.rnd (m := 37) ?_
  refine VC.seq ?_
  refine VC.region ?_
  refine VL.q (Q.lt rfl rfl) ?_
  refine VL.nil ?_
  refine VE.seq ?_
  refine VC.seq ?_
  refine VC.condT rfl ?_
  refine VC.skip ?_
  refine VE.seq ?_
  refine VC.seq ?_
  refine VC.block ?_
  refine VC.seq ?_
  refine VC.region ?_
  refine VL.q (Q.move rfl) ?_
  refine VL.q (Q.indexAddr sl25 (j := 2) rfl rfl rfl (by omega)) ?_
  refine VL.q (Q.load1 ty4 rfl zM rfl) ?_
  refine VL.q (Q.assign rfl) ?_
  refine VL.q (Q.assign rfl) ?_
  refine VL.nil ?_
  refine VE.seq ?_
  refine VC.seq ?_
  refine VC.region ?_
  refine VL.q (Q.move rfl) ?_
  refine VL.nil ?_
  refine VE.seq ?_
  refine VC.condF rfl ?_
  refine VC.skip ?_
  refine VE.block_normal ?_
  refine VE.seq ?_
  refine VC.region ?_
  refine VL.quietE (v' := .int .i64 3) (by decide) ((by first | exact Q.addI rfl rfl (by omega) (by omega) | exact Q.add rfl rfl)) (by rfl) ?_
  refine VL.q (Q.move rfl) ?_
  refine VL.nil ?_
  refine VE.then_normal ?_
  refine VC.rnd (m := 36) ?_
  refine VC.seq ?_
  refine VC.region ?_
  refine VL.q (Q.lt rfl rfl) ?_
  refine VL.nil ?_
  refine VE.seq ?_
  refine VC.seq ?_
  refine VC.condT rfl ?_
  refine VC.skip ?_
  refine VE.seq ?_
  refine VC.seq ?_
  refine VC.block ?_
  refine VC.seq ?_
  refine VC.region ?_
  refine VL.q (Q.move rfl) ?_
  refine VL.q (Q.indexAddr sl25 (j := 3) rfl rfl rfl (by omega)) ?_
  refine VL.q (Q.load1 ty4 rfl zM rfl) ?_
  refine VL.q (Q.assign rfl) ?_
  refine VL.q (Q.assign rfl) ?_
  refine VL.nil ?_
  refine VE.seq ?_
  refine VC.seq ?_
  refine VC.region ?_
  refine VL.q (Q.move rfl) ?_
  refine VL.nil ?_
  refine VE.seq ?_
  refine VC.condF rfl ?_
  refine VC.skip ?_
  refine VE.block_normal ?_
  refine VE.seq ?_
  refine VC.region ?_
  refine VL.quietE (v' := .int .i64 4) (by decide) ((by first | exact Q.addI rfl rfl (by omega) (by omega) | exact Q.add rfl rfl)) (by rfl) ?_
  refine VL.q (Q.move rfl) ?_
  refine VL.nil ?_
  refine VE.then_normal ?_
  refine VC.rnd (m := 35) ?_
  refine VC.seq ?_
  refine VC.region ?_
  refine VL.q (Q.lt rfl rfl) ?_
  refine VL.nil ?_
  refine VE.seq ?_
  refine VC.seq ?_
  refine VC.condT rfl ?_
  refine VC.skip ?_
  refine VE.seq ?_
  refine VC.seq ?_
  refine VC.block ?_
  refine VC.seq ?_
  refine VC.region ?_
  refine VL.q (Q.move rfl) ?_
  refine VL.q (Q.indexAddr sl25 (j := 4) rfl rfl rfl (by omega)) ?_
  refine VL.q (Q.load1 ty4 rfl zM rfl) ?_
  refine VL.q (Q.assign rfl) ?_
  refine VL.q (Q.assign rfl) ?_
  refine VL.nil ?_
  refine VE.seq ?_
  refine VC.seq ?_
  refine VC.region ?_
  refine VL.q (Q.move rfl) ?_
  refine VL.nil ?_
  refine VE.seq ?_
  refine VC.condF rfl ?_
  refine VC.skip ?_
  refine VE.block_normal ?_
  refine VE.seq ?_
  refine VC.region ?_
  refine VL.quietE (v' := .int .i64 5) (by decide) ((by first | exact Q.addI rfl rfl (by omega) (by omega) | exact Q.add rfl rfl)) (by rfl) ?_
  refine VL.q (Q.move rfl) ?_
  refine VL.nil ?_
  refine VE.then_normal ?_
  refine VC.rnd (m := 34) ?_
  refine VC.seq ?_
  refine VC.region ?_
  refine VL.q (Q.lt rfl rfl) ?_
  refine VL.nil ?_
  refine VE.seq ?_
  refine VC.seq ?_
  refine VC.condT rfl ?_
  refine VC.skip ?_
  refine VE.seq ?_
  refine VC.seq ?_
  refine VC.block ?_
  refine VC.seq ?_
  refine VC.region ?_
  refine VL.q (Q.move rfl) ?_
  refine VL.q (Q.indexAddr sl25 (j := 5) rfl rfl rfl (by omega)) ?_
  refine VL.q (Q.load1 ty4 rfl zM rfl) ?_
  refine VL.q (Q.assign rfl) ?_
  refine VL.q (Q.assign rfl) ?_
  refine VL.nil ?_
  refine VE.seq ?_
  refine VC.seq ?_
  refine VC.region ?_
  refine VL.q (Q.move rfl) ?_
  refine VL.nil ?_
  refine VE.seq ?_
  refine VC.condF rfl ?_
  refine VC.skip ?_
  refine VE.block_normal ?_
  refine VE.seq ?_
  refine VC.region ?_
  refine VL.quietE (v' := .int .i64 6) (by decide) ((by first | exact Q.addI rfl rfl (by omega) (by omega) | exact Q.add rfl rfl)) (by rfl) ?_
  refine VL.q (Q.move rfl) ?_
  refine VL.nil ?_
  refine VE.then_normal ?_
  refine VC.rnd (m := 33) ?_
  refine VC.seq ?_
  refine VC.region ?_
  refine VL.q (Q.lt rfl rfl) ?_
  refine VL.nil ?_
  refine VE.seq ?_
  refine VC.seq ?_
  refine VC.condT rfl ?_
  refine VC.skip ?_
  refine VE.seq ?_
  refine VC.seq ?_
  refine VC.block ?_
  refine VC.seq ?_
  refine VC.region ?_
  refine VL.q (Q.move rfl) ?_
  refine VL.q (Q.indexAddr sl25 (j := 6) rfl rfl rfl (by omega)) ?_
  refine VL.q (Q.load1 ty4 rfl zM rfl) ?_
  refine VL.q (Q.assign rfl) ?_
  refine VL.q (Q.assign rfl) ?_
  refine VL.nil ?_
  refine VE.seq ?_
  refine VC.seq ?_
  refine VC.region ?_
  refine VL.q (Q.move rfl) ?_
  refine VL.nil ?_
  refine VE.seq ?_
  refine VC.condF rfl ?_
  refine VC.skip ?_
  refine VE.block_normal ?_
  refine VE.seq ?_
  refine VC.region ?_
  refine VL.quietE (v' := .int .i64 7) (by decide) ((by first | exact Q.addI rfl rfl (by omega) (by omega) | exact Q.add rfl rfl)) (by rfl) ?_
  refine VL.q (Q.move rfl) ?_
  refine VL.nil ?_
  refine VE.then_normal ?_
  refine VC.rnd (m := 32) ?_
  refine VC.seq ?_
  refine VC.region ?_
  refine VL.q (Q.lt rfl rfl) ?_
  refine VL.nil ?_
  refine VE.seq ?_
  refine VC.seq ?_
  refine VC.condF rfl ?_
  refine VC.exit ?_
  refine VE.then_exit ?_
  refine VE.then_exit ?_
  refine VE.block_here ?_
  refine VE.seq ?_
  refine VC.seq ?_
  refine VC.region ?_
  refine VL.q (Q.fieldAddr fa50_0 rfl) ?_
  refine VL.q (Q.load1 ty5 rfl zM rfl) ?_
  refine VL.quietE (v' := .int .u8 4) (by decide) ((by first | exact Q.shlF (s := 2) (m := 4) rfl rfl (by decide) (by decide) (by simp only [klo]; omega) (by simp only [khi]; omega) | exact Q.shlM (M := 256) (s := 2) (m := 4) rfl rfl (by decide) (by decide) rfl rfl)) (by rfl) ?_
  refine VL.q (Q.fieldAddr fa50_1 rfl) ?_
  refine VL.q (Q.load1 ty5 rfl zM rfl) ?_
  refine VL.quietE (v' := .int .u8 208) (by decide) ((by first | exact Q.shlF (s := 4) (m := 16) rfl rfl (by decide) (by decide) (by simp only [klo]; omega) (by simp only [khi]; omega) | exact Q.shlM (M := 256) (s := 4) (m := 16) rfl rfl (by decide) (by decide) rfl rfl)) (by rfl) ?_
  refine VL.quietE (v' := .int .u8 212) (by decide) (Q.or rfl rfl (by omega) (by simp only [khi]; omega) (by omega) (by simp only [khi]; omega)) (by rfl) ?_
  refine VL.q (Q.move rfl) ?_
  refine VL.eff (O.buildSlice sl54 ze5 (by decide) zF (by decide) ?_)
  intro g59
  refine VL.q (Q.fieldAddr fa50_9 rfl) ?_
  refine VL.q (Q.load1 ty3 rfl zM rfl) ?_
  refine VK.toRow (g := g59) (s := 1) (m := 2) (c := 2) zU rfl (by omega) (by unfold maxLen; omega) ?_
  refine VL.eff (O.callB ok50 rfl rfl (by decide) (put16_c _ _ _ _ _ (by first | omega | decide) (by omega)) zK (fun _ _ _ => trivial) ?_)
  intro x62 y62
  refine VL.q (Q.assign rfl) ?_
  refine VL.nil ?_
  refine VE.seq ?_
  refine VC.seq ?_
  refine VK.keep (by exact .cons (i := 1) rfl (.cons (i := 2) rfl (.cons (i := 3) rfl (.cons (i := 8) rfl ( .nil))))) ?_
  refine VC.region ?_
  refine VL.eff (O.call0 ok36 rfl rfl (by decide) (places_ack _) (fun _ _ hw => Rd.seg hw zM zS) ?_)
  intro x64 y64
  refine VL.q (Q.move rfl) ?_
  refine VL.q (Q.extract rfl rfl) ?_
  refine VL.q (Q.extract rfl rfl) ?_
  refine VL.q (Q.assign rfl) ?_
  refine VL.q (Q.assign rfl) ?_
  refine VL.nil ?_
  refine VE.seq ?_
  refine VC.seq ?_
  refine VC.seq ?_
  refine VC.region ?_
  refine VL.q (Q.move rfl) ?_
  refine VL.q (Q.len sl93 rfl) ?_
  refine VL.q (Q.move rfl) ?_
  refine VL.nil ?_
  refine VE.seq ?_
  refine VC.block ?_
  refine VC.rounds 40 ?_
  refine VC.rnd (m := 39) ?_
  refine VC.seq ?_
  refine VC.region ?_
  refine VL.q (Q.lt rfl rfl) ?_
  refine VL.nil ?_
  refine VE.seq ?_
  refine VC.seq ?_
  refine VC.condT rfl ?_
  refine VC.skip ?_
  refine VE.seq ?_
  refine VC.seq ?_
  refine VC.block ?_
  refine VC.seq ?_
  refine VC.region ?_
  refine VL.q (Q.indexAddr sl93 (j := 0) rfl rfl rfl (by omega)) ?_
  refine VL.q (Q.load1 ty97 rfl zM rfl) ?_
  refine VL.q (Q.assign rfl) ?_
  refine VL.nil ?_
  refine VE.seq ?_
  refine VC.region ?_
  refine VL.q (Q.move rfl) ?_
  refine VL.q (Q.move rfl) ?_
  refine VL.q (Q.nilCheck rfl) ?_
  refine VL.q (Q.slcA0 ar43 (h := _) rfl rfl (by omega)) ?_
  refine VL.eff (O.appendS sl54 ze5 rfl (by decide) rfl rfl zM zS rfl (by decide) (by unfold maxLen; omega) (by omega) zA ?_)
  intro p77 c77 hc77
  refine VL.q (Q.assign rfl) ?_
  refine VL.nil ?_
  refine VE.block_normal ?_
  refine VE.seq ?_
  refine VC.region ?_
  refine VL.quietE (v' := .int .i64 1) (by decide) ((by first | exact Q.addI rfl rfl (by omega) (by omega) | exact Q.add rfl rfl)) (by rfl) ?_
  refine VL.q (Q.move rfl) ?_
  refine VL.nil ?_
  refine VE.then_normal ?_
  refine VC.rnd (m := 38) ?_
  refine VC.seq ?_
  refine VC.region ?_
  refine VL.q (Q.lt rfl rfl) ?_
  refine VL.nil ?_
  refine VE.seq ?_
  refine VC.seq ?_
  refine VC.condF rfl ?_
  refine VC.exit ?_
  refine VE.then_exit ?_
  refine VE.then_exit ?_
  refine VE.block_here ?_
  refine VE.seq ?_
  refine VC.seq ?_
  refine VC.seq ?_
  refine VC.region ?_
  refine VL.q (Q.fieldAddr fa90_1 rfl) ?_
  refine VL.q (Q.load1 ty4 rfl zM rfl) ?_
  refine VL.nil ?_
  refine VE.seq ?_
  refine VC.condF rfl ?_
  refine VC.skip ?_
  refine VE.seq ?_
  refine VC.seq ?_
  refine VC.seq ?_
  refine VC.region ?_
  refine VL.q (Q.move rfl) ?_
  refine VL.q (Q.len sl93 rfl) ?_
  refine VL.q (Q.move rfl) ?_
  refine VL.nil ?_
  refine VE.seq ?_
  refine VC.block ?_
  refine VC.rounds 40 ?_
  refine VC.rnd (m := 39) ?_
  refine VC.seq ?_
  refine VC.region ?_
  refine VL.q (Q.lt rfl rfl) ?_
  refine VL.nil ?_
  refine VE.seq ?_
  refine VC.seq ?_
  refine VC.condF rfl ?_
  refine VC.exit ?_
  refine VE.then_exit ?_
  refine VE.then_exit ?_
  refine VE.block_here ?_
  refine VE.seq ?_
  refine VC.seq ?_
  refine VC.seq ?_
  refine VC.region ?_
  refine VL.q (Q.fieldAddr fa90_2 rfl) ?_
  refine VL.q (Q.load1 ty4 rfl zM rfl) ?_
  refine VL.nil ?_
  refine VE.seq ?_
  refine VC.condF rfl ?_
  refine VC.skip ?_
  refine VE.seq ?_
  refine VC.seq ?_
  refine VC.region ?_
  refine VL.q (Q.move rfl) ?_
  refine VL.q (Q.assign rfl) ?_
  refine VL.nil ?_
  refine VE.seq ?_
  refine VC.ret ?_
  rw [hbs_ack D hD]
  exact VE.ret rfl (.tmp rfl .nil) (_, _) (by first | assumption | omega) rfl (by repeat (first | exact List.Sublist.refl _ | exact .cons_cons _ (List.nil_sublist _) | apply List.Sublist.cons))

theorem encode_ack (D : Nat) (hD : D ≤ 32767) :
    Does Tryd.prog 15 [.agg #[.int .u8 1, .int .u8 13, .bool false, .bool false, .bool false, .bool false, .bool false, .bool false, .bool false, .int .i64 (D : Int), .int .u8 2, .int .u8 0, .int .u8 0, .int .u8 0, .int .u8 0, .int .u8 2, .int .u8 0, .int .u8 0, .int .u8 0, .int .u8 0, .int .u8 0, .int .u8 0, .int .u8 0, .int .u8 0, .int .u8 0, .int .u8 0, .int .u8 0, .int .u8 0, .int .u8 0, .int .u8 0, .int .u8 0, .int .u8 0, .int .u8 0, .int .u8 0, .int .i64 0, .int .i64 0, .int .i64 0, .int .u8 0, .bool false, .bool false, .slice none 0 0]] [] (fun _ => True) (X := Option Addr × Nat) (fun x => 14 ≤ x.2) (fun x => .tuple #[.slice x.1 14 x.2, .int .i64 0]) (fun x => [.row (.slice x.1 14 x.2) 5 1 14 (bs (hb_ack D ++ crcBytes (hb_ack D)))]) := by
  refine Does.enter Tryd.func15 rfl (m := 30) rfl (by simp) ?_
  intro W0 hro
  refine VC.seq ?_
  refine VC.region ?_
  refine VL.eff (O.box rfl rfl (by decide) ?_)
  intro g1
  refine VL.q (Q.assign rfl) ?_
  refine VL.q (Q.assign rfl) ?_
  refine VL.nil ?_
  refine VE.seq ?_
  refine VC.seq ?_
  refine VC.seq ?_
  refine VC.region ?_
  refine VL.q (Q.fieldAddr fa58_0 rfl) ?_
  refine VL.q (Q.loadA ty50 rfl zM zS) ?_
  refine VL.eff (O.call0 ok28 rfl rfl (by decide) (check_ack D hD) (fun _ _ _ => trivial) ?_)
  intro x6 y6
  refine VL.quietE (v' := .bool false) (by decide) (Q.ne rfl rfl) (by rfl) ?_
  refine VL.q (Q.move rfl) ?_
  refine VL.yes rfl rfl ?_
  refine VL.q (Q.fieldAddr fa58_0 rfl) ?_
  refine VL.yes rfl rfl ?_
  refine VL.q (Q.loadA ty50 rfl zM zS) ?_
  refine VL.yes rfl rfl ?_
  refine VL.eff (O.call0 ok29 rfl rfl (by decide) (bare_ack D) (fun _ _ _ => trivial) ?_)
  intro x11 y11
  refine VL.yes rfl rfl ?_
  refine VL.q (Q.move rfl) ?_
  refine VL.yes rfl rfl ?_
  refine VL.q (Q.fieldAddr fa58_1 rfl) ?_
  refine VL.yes rfl rfl ?_
  refine VL.q (Q.load1 ty54 rfl zM rfl) ?_
  refine VL.yes rfl rfl ?_
  refine VL.q (Q.len sl54 rfl) ?_
  refine VL.yes rfl rfl ?_
  refine VL.quietE (v' := .bool false) (by decide) (Q.gt rfl rfl) (by rfl) ?_
  refine VL.yes rfl rfl ?_
  refine VL.quietE (v' := .bool false) (by decide) (Q.pick_true rfl rfl) (by rfl) ?_
  refine VL.quietE (v' := .bool false) (by decide) (Q.pick_false rfl rfl) (by rfl) ?_
  refine VL.nil ?_
  refine VE.seq ?_
  refine VC.condF rfl ?_
  refine VC.skip ?_
  refine VE.seq ?_
  refine VC.seq ?_
  refine VC.seq ?_
  refine VC.region ?_
  refine VL.q (Q.fieldAddr fa58_1 rfl) ?_
  refine VL.q (Q.load1 ty54 rfl zM rfl) ?_
  refine VL.q (Q.len sl54 rfl) ?_
  refine VL.quietE (v' := .bool false) (by decide) (Q.gt rfl rfl) (by rfl) ?_
  refine VL.nil ?_
  refine VE.seq ?_
  refine VC.condF rfl ?_
  refine VC.skip ?_
  refine VE.seq ?_
  refine VC.seq ?_
  refine VA.start (Ls := [.blk g1 [.int .u8 1, .int .u8 13, .bool false, .bool false, .bool false, .bool false, .bool false, .bool false, .bool false, .int .i64 (D : Int), .int .u8 2, .int .u8 0, .int .u8 0, .int .u8 0, .int .u8 0, .int .u8 2, .int .u8 0, .int .u8 0, .int .u8 0, .int .u8 0, .int .u8 0, .int .u8 0, .int .u8 0, .int .u8 0, .int .u8 0, .int .u8 0, .int .u8 0, .int .u8 0, .int .u8 0, .int .u8 0, .int .u8 0, .int .u8 0, .int .u8 0, .int .u8 0, .int .i64 0, .int .i64 0, .int .i64 0, .int .u8 0, .bool false, .bool false, .slice none 0 0] 58]) (Cs := []) mixed ?_
  refine VA.take 0 rfl (by kernel_rfl) (by kernel_rfl) (by kernel_rfl) (Still.then Still.body) (List.singleton_sublist.2 zM) Cells.nil (by decide) (Quiet.c (Q.fieldAddr fa58_0 rfl)) ?_
  refine VA.take 1 rfl (by kernel_rfl) (by kernel_rfl) (by kernel_rfl) (Still.then Still.body) (List.singleton_sublist.2 zM) Cells.nil (by decide) (Quiet.c (Q.loadA ty50 rfl zM zS)) ?_
  refine VA.take 3 rfl (by kernel_rfl) (by kernel_rfl) (by kernel_rfl) (Still.then Still.body) (List.singleton_sublist.2 zM) Cells.nil (by decide) (Quiet.c (Q.fieldAddr fa58_1 rfl)) ?_
  refine VA.take 4 rfl (by kernel_rfl) (by kernel_rfl) (by kernel_rfl) (Still.then Still.body) (List.singleton_sublist.2 zM) Cells.nil (by decide) (Quiet.c (Q.load1 ty54 rfl zM rfl)) ?_
  refine VA.all (rs := [2]) (by kernel_rfl) (by simp) ?_
  refine VA.forall1 ?_
  · skip
    refine VA.eff rfl ?_
    refine id (O.call0 ok31 rfl rfl (by decide) (write_ack D hD) (fun _ _ _ => trivial) ?_)
    intro x25 y25
    refine VA.next (List.singleton_sublist.2 zM) Cells.nil ?_
    refine VA.take 5 rfl (by kernel_rfl) (by kernel_rfl) (by kernel_rfl) (Still.then Still.body) (List.singleton_sublist.2 zM) Cells.nil (by decide) (Quiet.c (Q.append0 sl54 rfl rfl (by omega))) ?_
    refine VA.all (rs := [6]) (by kernel_rfl) (by simp) ?_
    refine VA.forall1 ?_
    · skip
      refine VA.eff rfl ?_
      refine id (O.call0 ok30 rfl rfl (by decide) (append_c _ 10 _ (hb_ack D) rfl (by omega)) (fun _ _ hw => Rd.row hw zM) ?_)
      intro x29 y29
      refine VA.next (List.singleton_sublist.2 zM) Cells.nil ?_
      refine VA.take 7 rfl (by kernel_rfl) (by kernel_rfl) (by kernel_rfl) (Still.then Still.body) (List.singleton_sublist.2 zM) Cells.nil (by decide) (Quiet.c (Q.assign rfl)) ?_
      refine VA.take 8 rfl (by kernel_rfl) (by kernel_rfl) (by kernel_rfl) (Still.then Still.body) (List.singleton_sublist.2 zM) Cells.nil (by decide) (Quiet.c (Q.assign rfl)) ?_
      refine VA.done (by kernel_rfl) ?_
      refine VE.seq ?_
      refine VC.ret ?_
      exact VE.ret rfl (.tmp rfl (.tmp rfl .nil)) x29 y29 rfl (by repeat (first | exact List.Sublist.refl _ | exact .cons_cons _ (List.nil_sublist _) | apply List.Sublist.cons))

def hb_bar (D : Nat) : List UInt8 := [132, 0, UInt8.ofNat D, UInt8.ofNat (D / 256), 2, 0, 0, 0, 0, 1, 2, 0, 0, 0, 0, 2]
theorem hbs_bar (D : Nat) (hD : D ≤ 32767) : bs (hb_bar D) = [.int .u8 132, .int .u8 0, .int .u8 ((D : Int) % 256), .int .u8 ((D : Int) / 256), .int .u8 2, .int .u8 0, .int .u8 0, .int .u8 0, .int .u8 0, .int .u8 1, .int .u8 2, .int .u8 0, .int .u8 0, .int .u8 0, .int .u8 0, .int .u8 2] := by
  simp [bs, hb_bar]
  omega
theorem write_bar (D : Nat) (hD : D ≤ 32767) :
    Does Tryd.prog 31 [.agg #[.int .u8 1, .int .u8 8, .bool false, .bool false, .bool false, .bool false, .bool false, .bool false, .bool false, .int .i64 (D : Int), .int .u8 2, .int .u8 0, .int .u8 0, .int .u8 0, .int .u8 0, .int .u8 1, .int .u8 2, .int .u8 0, .int .u8 0, .int .u8 0, .int .u8 0, .int .u8 2, .int .u8 0, .int .u8 0, .int .u8 0, .int .u8 0, .int .u8 0, .int .u8 0, .int .u8 0, .int .u8 0, .int .u8 0, .int .u8 0, .int .u8 0, .int .u8 0, .int .i64 0, .int .i64 0, .int .i64 0, .int .u8 0, .bool false, .bool false]] [] (fun _ => True) (X := Option Addr × Nat) (fun x => 16 ≤ x.2) (fun x => .slice x.1 16 x.2) (fun x => [.row (.slice x.1 16 x.2) 5 1 16 (bs (hb_bar D))]) := by
  refine Does.enter Tryd.func31 rfl (m := 122) rfl (by simp) ?_
  intro W0 hro
  refine VC.seq ?_
  refine VC.region ?_
  refine VL.eff (O.box rfl rfl (by decide) ?_)
  intro g1
  refine VL.q (Q.assign rfl) ?_
  refine VL.nil ?_
  refine VE.seq ?_
  refine VC.seq ?_
  refine VC.region ?_
  refine VL.q (Q.fieldAddr fa50_0 rfl) ?_
  refine VL.q (Q.load1 ty5 rfl zM rfl) ?_
  refine VL.q (Q.fieldAddr fa50_1 rfl) ?_
  refine VL.q (Q.load1 ty5 rfl zM rfl) ?_
  refine VL.eff (O.call0 ok34 rfl rfl (by decide) (known_bar) (fun _ _ _ => trivial) ?_)
  intro x21 y21
  refine VL.q (Q.move rfl) ?_
  refine VL.q (Q.extract rfl rfl) ?_
  refine VL.q (Q.extract rfl rfl) ?_
  refine VL.eff (O.alloc zo90 (by decide) ?_)
  intro g3
  refine VL.eff (O.store ty90 rfl rfl rfl rfl zU zP ?_)
  refine VL.q (Q.assign rfl) ?_
  refine VL.nil ?_
  refine VE.seq ?_
  refine VC.seq ?_
  refine VC.region ?_
  refine VL.q (Q.assign rfl) ?_
  refine VL.nil ?_
  refine VE.seq ?_
  refine VC.seq ?_
  refine VC.seq ?_
  refine VC.region ?_
  refine VL.q (Q.fieldAddr fa50_2 rfl) ?_
  refine VL.q (Q.load1 ty4 rfl zM rfl) ?_
  refine VL.q (Q.fieldAddr fa50_3 rfl) ?_
  refine VL.q (Q.load1 ty4 rfl zM rfl) ?_
  refine VL.q (Q.fieldAddr fa50_4 rfl) ?_
  refine VL.q (Q.load1 ty4 rfl zM rfl) ?_
  refine VL.q (Q.fieldAddr fa50_5 rfl) ?_
  refine VL.q (Q.load1 ty4 rfl zM rfl) ?_
  refine VL.q (Q.fieldAddr fa50_6 rfl) ?_
  refine VL.q (Q.load1 ty4 rfl zM rfl) ?_
  refine VL.q (Q.fieldAddr fa50_7 rfl) ?_
  refine VL.q (Q.load1 ty4 rfl zM rfl) ?_
  refine VL.q (Q.fieldAddr fa50_8 rfl) ?_
  refine VL.q (Q.load1 ty4 rfl zM rfl) ?_
  refine VL.eff (O.buildSlice sl25 ze4 (by decide) zF (by decide) ?_)
  intro g38
  refine VL.q (Q.len sl25 rfl) ?_
  refine VL.q (Q.move rfl) ?_
  refine VL.nil ?_
  refine VE.seq ?_
  refine VC.block ?_
  refine VC.rounds 40 ?_
  refine VC.rnd (m := 39) ?_
  refine VC.seq ?_
  refine VC.region ?_
  refine VL.q (Q.lt rfl rfl) ?_
  refine VL.nil ?_
  refine VE.seq ?_
  refine VC.seq ?_
  refine VC.condT rfl ?_
  refine VC.skip ?_
  refine VE.seq ?_
  refine VC.seq ?_
  refine VC.block ?_
  refine VC.seq ?_
  refine VC.region ?_
  refine VL.q (Q.move rfl) ?_
  refine VL.q (Q.indexAddr sl25 (j := 0) rfl rfl rfl (by omega)) ?_
  refine VL.q (Q.load1 ty4 rfl zM rfl) ?_
  refine VL.q (Q.assign rfl) ?_
  refine VL.q (Q.assign rfl) ?_
  refine VL.nil ?_
  refine VE.seq ?_
  refine VC.seq ?_
  refine VC.region ?_
  refine VL.q (Q.move rfl) ?_
  refine VL.nil ?_
  refine VE.seq ?_
  refine VC.condF rfl ?_
  refine VC.skip ?_
  refine VE.block_normal ?_
  refine VE.seq ?_
  refine VC.region ?_
  refine VL.quietE (v' := .int .i64 1) (by decide) ((by first | exact Q.addI rfl rfl (by omega) (by omega) | exact Q.add rfl rfl)) (by rfl) ?_
  refine VL.q (Q.move rfl) ?_
  refine VL.nil ?_
  refine VE.then_normal ?_
  refine VC.rnd (m := 38) ?_
  refine VC.seq ?_
  refine VC.region ?_
  refine VL.q (Q.lt rfl rfl) ?_
  refine VL.nil ?_
  refine VE.seq ?_
  refine VC.seq ?_
  refine VC.condT rfl ?_
  refine VC.skip ?_
  refine VE.seq ?_
  refine VC.seq ?_
  refine VC.block ?_
  refine VC.seq ?_
  refine VC.region ?_
  refine VL.q (Q.move rfl) ?_
  refine VL.q (Q.indexAddr sl25 (j := 1) rfl rfl rfl (by omega)) ?_
  refine VL.q (Q.load1 ty4 rfl zM rfl) ?_
  refine VL.q (Q.assign rfl) ?_
  refine VL.q (Q.assign rfl) ?_
  refine VL.nil ?_
  refine VE.seq ?_
  refine VC.seq ?_
  refine VC.region ?_
  refine VL.q (Q.move rfl) ?_
  refine VL.nil ?_
  refine VE.seq ?_
  refine VC.condF rfl ?_
  refine VC.skip ?_
  refine VE.block_normal ?_
  refine VE.seq ?_
  refine VC.region ?_
  refine VL.quietE (v' := .int .i64 2) (by decide) ((by first | exact Q.addI rfl rfl (by omega) (by omega) | exact Q.add rfl rfl)) (by rfl) ?_
  refine VL.q (Q.move rfl) ?_
  refine VL.nil ?_
  refine VE.then_normal ?_
  refine VC.rnd (m := 37) ?_
  refine VC.seq ?_
  refine VC.region ?_
  refine VL.q (Q.lt rfl rfl) ?_
  refine VL.nil ?_
  refine VE.seq ?_
  refine VC.seq ?_
  refine VC.condT rfl ?_
  refine VC.skip ?_
  refine VE.seq ?_
  refine VC.seq ?_
  refine VC.block ?_
  refine VC.seq ?_
  refine VC.region ?_
  refine VL.q (Q.move rfl) ?_
  refine VL.q (Q.indexAddr sl25 (j := 2) rfl rfl rfl (by omega)) ?_
  refine VL.q (Q.load1 ty4 rfl zM rfl) ?_
  refine VL.q (Q.assign rfl) ?_
  refine VL.q (Q.assign rfl) ?_
  refine VL.nil ?_
  refine VE.seq ?_
  refine VC.seq ?_
  refine VC.region ?_
  refine VL.q (Q.move rfl) ?_
  refine VL.nil ?_
  refine VE.seq ?_
  refine VC.condF rfl ?_
  refine VC.skip ?_
  refine VE.block_normal ?_
  refine VE.seq ?_
  refine VC.region ?_
  refine VL.quietE (v' := .int .i64 3) (by decide) ((by first | exact Q.addI rfl rfl (by omega) (by omega) | exact Q.add rfl rfl)) (by rfl) ?_
  refine VL.q (Q.move rfl) ?_
  refine VL.nil ?_
  refine VE.then_normal ?_
  refine VC.rnd (m := 36) ?_
  refine VC.seq ?_
  refine VC.region ?_
  refine VL.q (Q.lt rfl rfl) ?_
  refine VL.nil ?_
  refine VE.seq ?_
  refine VC.seq ?_
  refine VC.condT rfl ?_
  refine VC.skip ?_
  refine VE.seq ?_
  refine VC.seq ?_
  refine VC.block ?_
  refine VC.seq ?_
  refine VC.region ?_
  refine VL.q (Q.move rfl) ?_
  refine VL.q (Q.indexAddr sl25 (j := 3) rfl rfl rfl (by omega)) ?_
  refine VL.q (Q.load1 ty4 rfl zM rfl) ?_
  refine VL.q (Q.assign rfl) ?_
  refine VL.q (Q.assign rfl) ?_
  refine VL.nil ?_
  refine VE.seq ?_
  refine VC.seq ?_
  refine VC.region ?_
  refine VL.q (Q.move rfl) ?_
  refine VL.nil ?_
  refine VE.seq ?_
  refine VC.condF rfl ?_
  refine VC.skip ?_
  refine VE.block_normal ?_
  refine VE.seq ?_
  refine VC.region ?_
  refine VL.quietE (v' := .int .i64 4) (by decide) ((by first | exact Q.addI rfl rfl (by omega) (by omega) | exact Q.add rfl rfl)) (by rfl) ?_
  refine VL.q (Q.move rfl) ?_
  refine VL.nil ?_
  refine VE.then_normal ?_
  refine VC.rnd (m := 35) ?_
  refine VC.seq ?_
  refine VC.region ?_
  refine VL.q (Q.lt rfl rfl) ?_
  refine VL.nil ?_
  refine VE.seq ?_
  refine VC.seq ?_
  refine VC.condT rfl ?_
  refine VC.skip ?_
  refine VE.seq ?_
  refine VC.seq ?_
  refine VC.block ?_
  refine VC.seq ?_
  refine VC.region ?_
  refine VL.q (Q.move rfl) ?_
  refine VL.q (Q.indexAddr sl25 (j := 4) rfl rfl rfl (by omega)) ?_
  refine VL.q (Q.load1 ty4 rfl zM rfl) ?_
  refine VL.q (Q.assign rfl) ?_
  refine VL.q (Q.assign rfl) ?_
  refine VL.nil ?_
  refine VE.seq ?_
  refine VC.seq ?_
  refine VC.region ?_
  refine VL.q (Q.move rfl) ?_
  refine VL.nil ?_
  refine VE.seq ?_
  refine VC.condF rfl ?_
  refine VC.skip ?_
  refine VE.block_normal ?_
  refine VE.seq ?_
  refine VC.region ?_
  refine VL.quietE (v' := .int .i64 5) (by decide) ((by first | exact Q.addI rfl rfl (by omega) (by omega) | exact Q.add rfl rfl)) (by rfl) ?_
  refine VL.q (Q.move rfl) ?_
  refine VL.nil ?_
  refine VE.then_normal ?_
  refine VC.rnd (m := 34) ?_
  refine VC.seq ?_
  refine VC.region ?_
  refine VL.q (Q.lt rfl rfl) ?_
  refine VL.nil ?_
  refine VE.seq ?_
  refine VC.seq ?_
  refine VC.condT rfl ?_
  refine VC.skip ?_
  refine VE.seq ?_
  refine VC.seq ?_
  refine VC.block ?_
  refine VC.seq ?_
  refine VC.region ?_
  refine VL.q (Q.move rfl) ?_
  refine VL.q (Q.indexAddr sl25 (j := 5) rfl rfl rfl (by omega)) ?_
  refine VL.q (Q.load1 ty4 rfl zM rfl) ?_
  refine VL.q (Q.assign rfl) ?_
  refine VL.q (Q.assign rfl) ?_
  refine VL.nil ?_
  refine VE.seq ?_
  refine VC.seq ?_
  refine VC.region ?_
  refine VL.q (Q.move rfl) ?_
  refine VL.nil ?_
  refine VE.seq ?_
  refine VC.condF rfl ?_
  refine VC.skip ?_
  refine VE.block_normal ?_
  refine VE.seq ?_
  refine VC.region ?_
  refine VL.quietE (v' := .int .i64 6) (by decide) ((by first | exact Q.addI rfl rfl (by omega) (by omega) | exact Q.add rfl rfl)) (by rfl) ?_
  refine VL.q (Q.move rfl) ?_
  refine VL.nil ?_
  refine VE.then_normal ?_
  refine VC.rnd (m := 33) ?_
  refine VC.seq ?_
  refine VC.region ?_
  refine VL.q (Q.lt rfl rfl) ?_
  refine VL.nil ?_
  refine VE.seq ?_
  refine VC.seq ?_
  refine VC.condT rfl ?_
  refine VC.skip ?_
  refine VE.seq ?_
  refine VC.seq ?_
  refine VC.block ?_
  refine VC.seq ?_
  refine VC.region ?_
  refine VL.q (Q.move rfl) ?_
  refine VL.q (Q.indexAddr sl25 (j := 6) rfl rfl rfl (by omega)) ?_
  refine VL.q (Q.load1 ty4 rfl zM rfl) ?_
  refine VL.q (Q.assign rfl) ?_
  refine VL.q (Q.assign rfl) ?_
  refine VL.nil ?_
  refine VE.seq ?_
  refine VC.seq ?_
  refine VC.region ?_
  refine VL.q (Q.move rfl) ?_
  refine VL.nil ?_
  refine VE.seq ?_
  refine VC.condF rfl ?_
  refine VC.skip ?_
  refine VE.block_normal ?_
  refine VE.seq ?_
  refine VC.region ?_
  refine VL.quietE (v' := .int .i64 7) (by decide) ((by first | exact Q.addI rfl rfl (by omega) (by omega) | exact Q.add rfl rfl)) (by rfl) ?_
  refine VL.q (Q.move rfl) ?_
  refine VL.nil ?_
  refine VE.then_normal ?_
  refine VC.rnd (m := 32) ?_
  refine VC.seq ?_
  refine VC.region ?_
  refine VL.q (Q.lt rfl rfl) ?_
  refine VL.nil ?_
  refine VE.seq ?_
  refine VC.seq ?_
  refine VC.condF rfl ?_
  refine VC.exit ?_
  refine VE.then_exit ?_
  refine VE.then_exit ?_
  refine VE.block_here ?_
  refine VE.seq ?_
  refine VC.seq ?_
  refine VC.region ?_
  refine VL.q (Q.fieldAddr fa50_0 rfl) ?_
  refine VL.q (Q.load1 ty5 rfl zM rfl) ?_
  refine VL.quietE (v' := .int .u8 4) (by decide) ((by first | exact Q.shlF (s := 2) (m := 4) rfl rfl (by decide) (by decide) (by simp only [klo]; omega) (by simp only [khi]; omega) | exact Q.shlM (M := 256) (s := 2) (m := 4) rfl rfl (by decide) (by decide) rfl rfl)) (by rfl) ?_
  refine VL.q (Q.fieldAddr fa50_1 rfl) ?_
  refine VL.q (Q.load1 ty5 rfl zM rfl) ?_
  refine VL.quietE (v' := .int .u8 128) (by decide) ((by first | exact Q.shlF (s := 4) (m := 16) rfl rfl (by decide) (by decide) (by simp only [klo]; omega) (by simp only [khi]; omega) | exact Q.shlM (M := 256) (s := 4) (m := 16) rfl rfl (by decide) (by decide) rfl rfl)) (by rfl) ?_
  refine VL.quietE (v' := .int .u8 132) (by decide) (Q.or rfl rfl (by omega) (by simp only [khi]; omega) (by omega) (by simp only [khi]; omega)) (by rfl) ?_
  refine VL.q (Q.move rfl) ?_
  refine VL.eff (O.buildSlice sl54 ze5 (by decide) zF (by decide) ?_)
  intro g59
  refine VL.q (Q.fieldAddr fa50_9 rfl) ?_
  refine VL.q (Q.load1 ty3 rfl zM rfl) ?_
  refine VK.toRow (g := g59) (s := 1) (m := 2) (c := 2) zU rfl (by omega) (by unfold maxLen; omega) ?_
  refine VL.eff (O.callB ok50 rfl rfl (by decide) (put16_c _ _ _ _ _ (by first | omega | decide) (by omega)) zK (fun _ _ _ => trivial) ?_)
  intro x62 y62
  refine VL.q (Q.assign rfl) ?_
  refine VL.nil ?_
  refine VE.seq ?_
  refine VC.seq ?_
  refine VK.keep (by exact .cons (i := 1) rfl (.cons (i := 2) rfl (.cons (i := 3) rfl (.cons (i := 8) rfl ( .nil))))) ?_
  refine VC.region ?_
  refine VL.eff (O.call0 ok36 rfl rfl (by decide) (places_bar _) (fun _ _ hw => Rd.seg hw zM zS) ?_)
  intro x64 y64
  refine VL.q (Q.move rfl) ?_
  refine VL.q (Q.extract rfl rfl) ?_
  refine VL.q (Q.extract rfl rfl) ?_
  refine VL.q (Q.assign rfl) ?_
  refine VL.q (Q.assign rfl) ?_
  refine VL.nil ?_
  refine VE.seq ?_
  refine VC.seq ?_
  refine VC.seq ?_
  refine VC.region ?_
  refine VL.q (Q.move rfl) ?_
  refine VL.q (Q.len sl93 rfl) ?_
  refine VL.q (Q.move rfl) ?_
  refine VL.nil ?_
  refine VE.seq ?_
  refine VC.block ?_
  refine VC.rounds 40 ?_
  refine VC.rnd (m := 39) ?_
  refine VC.seq ?_
  refine VC.region ?_
  refine VL.q (Q.lt rfl rfl) ?_
  refine VL.nil ?_
  refine VE.seq ?_
  refine VC.seq ?_
  refine VC.condT rfl ?_
  refine VC.skip ?_
  refine VE.seq ?_
  refine VC.seq ?_
  refine VC.block ?_
  refine VC.seq ?_
  refine VC.region ?_
  refine VL.q (Q.indexAddr sl93 (j := 0) rfl rfl rfl (by omega)) ?_
  refine VL.q (Q.load1 ty97 rfl zM rfl) ?_
  refine VL.q (Q.assign rfl) ?_
  refine VL.nil ?_
  refine VE.seq ?_
  refine VC.region ?_
  refine VL.q (Q.move rfl) ?_
  refine VL.q (Q.move rfl) ?_
  refine VL.q (Q.nilCheck rfl) ?_
  refine VL.q (Q.slcA0 ar43 (h := _) rfl rfl (by omega)) ?_
  refine VL.eff (O.appendS sl54 ze5 rfl (by decide) rfl rfl zM zS rfl (by decide) (by unfold maxLen; omega) (by omega) zA ?_)
  intro p77 c77 hc77
  refine VL.q (Q.assign rfl) ?_
  refine VL.nil ?_
  refine VE.block_normal ?_
  refine VE.seq ?_
  refine VC.region ?_
  refine VL.quietE (v' := .int .i64 1) (by decide) ((by first | exact Q.addI rfl rfl (by omega) (by omega) | exact Q.add rfl rfl)) (by rfl) ?_
  refine VL.q (Q.move rfl) ?_
  refine VL.nil ?_
  refine VE.then_normal ?_
  refine VC.rnd (m := 38) ?_
  refine VC.seq ?_
  refine VC.region ?_
  refine VL.q (Q.lt rfl rfl) ?_
  refine VL.nil ?_
  refine VE.seq ?_
  refine VC.seq ?_
  refine VC.condT rfl ?_
  refine VC.skip ?_
  refine VE.seq ?_
  refine VC.seq ?_
  refine VC.block ?_
  refine VC.seq ?_
  refine VC.region ?_
  refine VL.q (Q.indexAddr sl93 (j := 1) rfl rfl rfl (by omega)) ?_
  refine VL.q (Q.load1 ty97 rfl zM rfl) ?_
  refine VL.q (Q.assign rfl) ?_
  refine VL.nil ?_
  refine VE.seq ?_
  refine VC.region ?_
  refine VL.q (Q.move rfl) ?_
  refine VL.q (Q.move rfl) ?_
  refine VL.q (Q.nilCheck rfl) ?_
  refine VL.q (Q.slcA0 ar43 (h := _) rfl rfl (by omega)) ?_
  refine VL.eff (O.appendS sl54 ze5 rfl (by decide) rfl rfl zM zS rfl (by decide) (by unfold maxLen; omega) (by omega) zA ?_)
  intro p77_1 c77_1 hc77_1
  refine VL.q (Q.assign rfl) ?_
  refine VL.nil ?_
  refine VE.block_normal ?_
  refine VE.seq ?_
  refine VC.region ?_
  refine VL.quietE (v' := .int .i64 2) (by decide) ((by first | exact Q.addI rfl rfl (by omega) (by omega) | exact Q.add rfl rfl)) (by rfl) ?_
  refine VL.q (Q.move rfl) ?_
  refine VL.nil ?_
  refine VE.then_normal ?_
  refine VC.rnd (m := 37) ?_
  refine VC.seq ?_
  refine VC.region ?_
  refine VL.q (Q.lt rfl rfl) ?_
  refine VL.nil ?_
  refine VE.seq ?_
  refine VC.seq ?_
  refine VC.condF rfl ?_
  refine VC.exit ?_
  refine VE.then_exit ?_
  refine VE.then_exit ?_
  refine VE.block_here ?_
  refine VE.seq ?_
  refine VC.seq ?_
  refine VC.seq ?_
  refine VC.region ?_
  refine VL.q (Q.fieldAddr fa90_1 rfl) ?_
  refine VL.q (Q.load1 ty4 rfl zM rfl) ?_
  refine VL.nil ?_
  refine VE.seq ?_
  refine VC.condF rfl ?_
  refine VC.skip ?_
  refine VE.seq ?_
  refine VC.seq ?_
  refine VC.seq ?_
  refine VC.region ?_
  refine VL.q (Q.move rfl) ?_
  refine VL.q (Q.len sl93 rfl) ?_
  refine VL.q (Q.move rfl) ?_
  refine VL.nil ?_
  refine VE.seq ?_
  refine VC.block ?_
  refine VC.rounds 40 ?_
  refine VC.rnd (m := 39) ?_
  refine VC.seq ?_
  refine VC.region ?_
  refine VL.q (Q.lt rfl rfl) ?_
  refine VL.nil ?_
  refine VE.seq ?_
  refine VC.seq ?_
  refine VC.condF rfl ?_
  refine VC.exit ?_
  refine VE.then_exit ?_
  refine VE.then_exit ?_
  refine VE.block_here ?_
  refine VE.seq ?_
  refine VC.seq ?_
  refine VC.seq ?_
  refine VC.region ?_
  refine VL.q (Q.fieldAddr fa90_2 rfl) ?_
  refine VL.q (Q.load1 ty4 rfl zM rfl) ?_
  refine VL.nil ?_
  refine VE.seq ?_
  refine VC.condF rfl ?_
  refine VC.skip ?_
  refine VE.seq ?_
  refine VC.seq ?_
  refine VC.region ?_
  refine VL.q (Q.move rfl) ?_
  refine VL.q (Q.assign rfl) ?_
  refine VL.nil ?_
  refine VE.seq ?_
  refine VC.ret ?_
  rw [hbs_bar D hD]
  exact VE.ret rfl (.tmp rfl .nil) (_, _) (by first | assumption | omega) rfl (by repeat (first | exact List.Sublist.refl _ | exact .cons_cons _ (List.nil_sublist _) | apply List.Sublist.cons))

theorem encode_bar (D : Nat) (hD : D ≤ 32767) :
    Does Tryd.prog 15 [.agg #[.int .u8 1, .int .u8 8, .bool false, .bool false, .bool false, .bool false, .bool false, .bool false, .bool false, .int .i64 (D : Int), .int .u8 2, .int .u8 0, .int .u8 0, .int .u8 0, .int .u8 0, .int .u8 1, .int .u8 2, .int .u8 0, .int .u8 0, .int .u8 0, .int .u8 0, .int .u8 2, .int .u8 0, .int .u8 0, .int .u8 0, .int .u8 0, .int .u8 0, .int .u8 0, .int .u8 0, .int .u8 0, .int .u8 0, .int .u8 0, .int .u8 0, .int .u8 0, .int .i64 0, .int .i64 0, .int .i64 0, .int .u8 0, .bool false, .bool false, .slice none 0 0]] [] (fun _ => True) (X := Option Addr × Nat) (fun x => 20 ≤ x.2) (fun x => .tuple #[.slice x.1 20 x.2, .int .i64 0]) (fun x => [.row (.slice x.1 20 x.2) 5 1 20 (bs (hb_bar D ++ crcBytes (hb_bar D)))]) := by
  refine Does.enter Tryd.func15 rfl (m := 30) rfl (by simp) ?_
  intro W0 hro
  refine VC.seq ?_
  refine VC.region ?_
  refine VL.eff (O.box rfl rfl (by decide) ?_)
  intro g1
  refine VL.q (Q.assign rfl) ?_
  refine VL.q (Q.assign rfl) ?_
  refine VL.nil ?_
  refine VE.seq ?_
  refine VC.seq ?_
  refine VC.seq ?_
  refine VC.region ?_
  refine VL.q (Q.fieldAddr fa58_0 rfl) ?_
  refine VL.q (Q.loadA ty50 rfl zM zS) ?_
  refine VL.eff (O.call0 ok28 rfl rfl (by decide) (check_bar D hD) (fun _ _ _ => trivial) ?_)
  intro x6 y6
  refine VL.quietE (v' := .bool false) (by decide) (Q.ne rfl rfl) (by rfl) ?_
  refine VL.q (Q.move rfl) ?_
  refine VL.yes rfl rfl ?_
  refine VL.q (Q.fieldAddr fa58_0 rfl) ?_
  refine VL.yes rfl rfl ?_
  refine VL.q (Q.loadA ty50 rfl zM zS) ?_
  refine VL.yes rfl rfl ?_
  refine VL.eff (O.call0 ok29 rfl rfl (by decide) (bare_bar D) (fun _ _ _ => trivial) ?_)
  intro x11 y11
  refine VL.yes rfl rfl ?_
  refine VL.q (Q.move rfl) ?_
  refine VL.no (by simp) rfl rfl (.inl rfl) ?_
  refine VL.no (by simp) rfl rfl (.inl rfl) ?_
  refine VL.no (by simp) rfl rfl (.inl rfl) ?_
  refine VL.no (by simp) rfl rfl (.inl rfl) ?_
  refine VL.yes rfl rfl ?_
  refine VL.quietE (v' := .bool false) (by decide) (Q.pick_false rfl rfl) (by rfl) ?_
  refine VL.quietE (v' := .bool false) (by decide) (Q.pick_false rfl rfl) (by rfl) ?_
  refine VL.nil ?_
  refine VE.seq ?_
  refine VC.condF rfl ?_
  refine VC.skip ?_
  refine VE.seq ?_
  refine VC.seq ?_
  refine VC.seq ?_
  refine VC.region ?_
  refine VL.q (Q.fieldAddr fa58_1 rfl) ?_
  refine VL.q (Q.load1 ty54 rfl zM rfl) ?_
  refine VL.q (Q.len sl54 rfl) ?_
  refine VL.quietE (v' := .bool false) (by decide) (Q.gt rfl rfl) (by rfl) ?_
  refine VL.nil ?_
  refine VE.seq ?_
  refine VC.condF rfl ?_
  refine VC.skip ?_
  refine VE.seq ?_
  refine VC.seq ?_
  refine VA.start (Ls := [.blk g1 [.int .u8 1, .int .u8 8, .bool false, .bool false, .bool false, .bool false, .bool false, .bool false, .bool false, .int .i64 (D : Int), .int .u8 2, .int .u8 0, .int .u8 0, .int .u8 0, .int .u8 0, .int .u8 1, .int .u8 2, .int .u8 0, .int .u8 0, .int .u8 0, .int .u8 0, .int .u8 2, .int .u8 0, .int .u8 0, .int .u8 0, .int .u8 0, .int .u8 0, .int .u8 0, .int .u8 0, .int .u8 0, .int .u8 0, .int .u8 0, .int .u8 0, .int .u8 0, .int .i64 0, .int .i64 0, .int .i64 0, .int .u8 0, .bool false, .bool false, .slice none 0 0] 58]) (Cs := []) mixed ?_
  refine VA.take 0 rfl (by kernel_rfl) (by kernel_rfl) (by kernel_rfl) (Still.then Still.body) (List.singleton_sublist.2 zM) Cells.nil (by decide) (Quiet.c (Q.fieldAddr fa58_0 rfl)) ?_
  refine VA.take 1 rfl (by kernel_rfl) (by kernel_rfl) (by kernel_rfl) (Still.then Still.body) (List.singleton_sublist.2 zM) Cells.nil (by decide) (Quiet.c (Q.loadA ty50 rfl zM zS)) ?_
  refine VA.take 3 rfl (by kernel_rfl) (by kernel_rfl) (by kernel_rfl) (Still.then Still.body) (List.singleton_sublist.2 zM) Cells.nil (by decide) (Quiet.c (Q.fieldAddr fa58_1 rfl)) ?_
  refine VA.take 4 rfl (by kernel_rfl) (by kernel_rfl) (by kernel_rfl) (Still.then Still.body) (List.singleton_sublist.2 zM) Cells.nil (by decide) (Quiet.c (Q.load1 ty54 rfl zM rfl)) ?_
  refine VA.all (rs := [2]) (by kernel_rfl) (by simp) ?_
  refine VA.forall1 ?_
  · skip
    refine VA.eff rfl ?_
    refine id (O.call0 ok31 rfl rfl (by decide) (write_bar D hD) (fun _ _ _ => trivial) ?_)
    intro x25 y25
    refine VA.next (List.singleton_sublist.2 zM) Cells.nil ?_
    refine VA.take 5 rfl (by kernel_rfl) (by kernel_rfl) (by kernel_rfl) (Still.then Still.body) (List.singleton_sublist.2 zM) Cells.nil (by decide) (Quiet.c (Q.append0 sl54 rfl rfl (by omega))) ?_
    refine VA.all (rs := [6]) (by kernel_rfl) (by simp) ?_
    refine VA.forall1 ?_
    · skip
      refine VA.eff rfl ?_
      refine id (O.call0 ok30 rfl rfl (by decide) (append_c _ 16 _ (hb_bar D) rfl (by omega)) (fun _ _ hw => Rd.row hw zM) ?_)
      intro x29 y29
      refine VA.next (List.singleton_sublist.2 zM) Cells.nil ?_
      refine VA.take 7 rfl (by kernel_rfl) (by kernel_rfl) (by kernel_rfl) (Still.then Still.body) (List.singleton_sublist.2 zM) Cells.nil (by decide) (Quiet.c (Q.assign rfl)) ?_
      refine VA.take 8 rfl (by kernel_rfl) (by kernel_rfl) (by kernel_rfl) (Still.then Still.body) (List.singleton_sublist.2 zM) Cells.nil (by decide) (Quiet.c (Q.assign rfl)) ?_
      refine VA.done (by kernel_rfl) ?_
      refine VE.seq ?_
      refine VC.ret ?_
      exact VE.ret rfl (.tmp rfl (.tmp rfl .nil)) x29 y29 rfl (by repeat (first | exact List.Sublist.refl _ | exact .cons_cons _ (List.nil_sublist _) | apply List.Sublist.cons))

def hb_back (D : Nat) : List UInt8 := [148, 0, UInt8.ofNat D, UInt8.ofNat (D / 256), 2, 0, 0, 0, 0, 2, 2, 0, 0, 0, 0, 1]
theorem hbs_back (D : Nat) (hD : D ≤ 32767) : bs (hb_back D) = [.int .u8 148, .int .u8 0, .int .u8 ((D : Int) % 256), .int .u8 ((D : Int) / 256), .int .u8 2, .int .u8 0, .int .u8 0, .int .u8 0, .int .u8 0, .int .u8 2, .int .u8 2, .int .u8 0, .int .u8 0, .int .u8 0, .int .u8 0, .int .u8 1] := by
  simp [bs, hb_back]
  omega
theorem write_back (D : Nat) (hD : D ≤ 32767) :
    Does Tryd.prog 31 [.agg #[.int .u8 1, .int .u8 9, .bool false, .bool false, .bool false, .bool false, .bool false, .bool false, .bool false, .int .i64 (D : Int), .int .u8 2, .int .u8 0, .int .u8 0, .int .u8 0, .int .u8 0, .int .u8 2, .int .u8 2, .int .u8 0, .int .u8 0, .int .u8 0, .int .u8 0, .int .u8 1, .int .u8 0, .int .u8 0, .int .u8 0, .int .u8 0, .int .u8 0, .int .u8 0, .int .u8 0, .int .u8 0, .int .u8 0, .int .u8 0, .int .u8 0, .int .u8 0, .int .i64 0, .int .i64 0, .int .i64 0, .int .u8 0, .bool false, .bool false]] [] (fun _ => True) (X := Option Addr × Nat) (fun x => 16 ≤ x.2) (fun x => .slice x.1 16 x.2) (fun x => [.row (.slice x.1 16 x.2) 5 1 16 (bs (hb_back D))]) := by
  refine Does.enter Tryd.func31 rfl (m := 122) rfl (by simp) ?_
  intro W0 hro
  refine VC.seq ?_
  refine VC.region ?_
  refine VL.eff (O.box rfl rfl (by decide) ?_)
  intro g1
  refine VL.q (Q.assign rfl) ?_
  refine VL.nil ?_
  refine VE.seq ?_
  refine VC.seq ?_
  refine VC.region ?_
  refine VL.q (Q.fieldAddr fa50_0 rfl) ?_
  refine VL.q (Q.load1 ty5 rfl zM rfl) ?_
  refine VL.q (Q.fieldAddr fa50_1 rfl) ?_
  refine VL.q (Q.load1 ty5 rfl zM rfl) ?_
  refine VL.eff (O.call0 ok34 rfl rfl (by decide) (known_back) (fun _ _ _ => trivial) ?_)
  intro x21 y21
  refine VL.q (Q.move rfl) ?_
  refine VL.q (Q.extract rfl rfl) ?_
  refine VL.q (Q.extract rfl rfl) ?_
  refine VL.eff (O.alloc zo90 (by decide) ?_)
  intro g3
  refine VL.eff (O.store ty90 rfl rfl rfl rfl zU zP ?_)
  refine VL.q (Q.assign rfl) ?_
  refine VL.nil ?_
  refine VE.seq ?_
  refine VC.seq ?_
  refine VC.region ?_
  refine VL.q (Q.assign rfl) ?_
  refine VL.nil ?_
  refine VE.seq ?_
  refine VC.seq ?_
  refine VC.seq ?_
  refine VC.region ?_
  refine VL.q (Q.fieldAddr fa50_2 rfl) ?_
  refine VL.q (Q.load1 ty4 rfl zM rfl) ?_
  refine VL.q (Q.fieldAddr fa50_3 rfl) ?_
  refine VL.q (Q.load1 ty4 rfl zM rfl) ?_
  refine VL.q (Q.fieldAddr fa50_4 rfl) ?_
  refine VL.q (Q.load1 ty4 rfl zM rfl) ?_
  refine VL.q (Q.fieldAddr fa50_5 rfl) ?_
  refine VL.q (Q.load1 ty4 rfl zM rfl) ?_
  refine VL.q (Q.fieldAddr fa50_6 rfl) ?_
  refine VL.q (Q.load1 ty4 rfl zM rfl) ?_
  refine VL.q (Q.fieldAddr fa50_7 rfl) ?_
  refine VL.q (Q.load1 ty4 rfl zM rfl) ?_
  refine VL.q (Q.fieldAddr fa50_8 rfl) ?_
  refine VL.q (Q.load1 ty4 rfl zM rfl) ?_
  refine VL.eff (O.buildSlice sl25 ze4 (by decide) zF (by decide) ?_)
  intro g38
  refine VL.q (Q.len sl25 rfl) ?_
  refine VL.q (Q.move rfl) ?_
  refine VL.nil ?_
  refine VE.seq ?_
  refine VC.block ?_
  refine VC.rounds 40 ?_
  refine VC.rnd (m := 39) ?_
  refine VC.seq ?_
  refine VC.region ?_
  refine VL.q (Q.lt rfl rfl) ?_
  refine VL.nil ?_
  refine VE.seq ?_
  refine VC.seq ?_
  refine VC.condT rfl ?_
  refine VC.skip ?_
  refine VE.seq ?_
  refine VC.seq ?_
  refine VC.block ?_
  refine VC.seq ?_
  refine VC.region ?_
  refine VL.q (Q.move rfl) ?_
  refine VL.q (Q.indexAddr sl25 (j := 0) rfl rfl rfl (by omega)) ?_
  refine VL.q (Q.load1 ty4 rfl zM rfl) ?_
  refine VL.q (Q.assign rfl) ?_
  refine VL.q (Q.assign rfl) ?_
  refine VL.nil ?_
  refine VE.seq ?_
  refine VC.seq ?_
  refine VC.region ?_
  refine VL.q (Q.move rfl) ?_
  refine VL.nil ?_
  refine VE.seq ?_
  refine VC.condF rfl ?_
  refine VC.skip ?_
  refine VE.block_normal ?_
  refine VE.seq ?_
  refine VC.region ?_
  refine VL.quietE (v' := .int .i64 1) (by decide) ((by first | exact Q.addI rfl rfl (by omega) (by omega) | exact Q.add rfl rfl)) (by rfl) ?_
  refine VL.q (Q.move rfl) ?_
  refine VL.nil ?_
  refine VE.then_normal ?_
  refine VC.rnd (m := 38) ?_
  refine VC.seq ?_
  refine VC.region ?_
  refine VL.q (Q.lt rfl rfl) ?_
  refine VL.nil ?_
  refine VE.seq ?_
  refine VC.seq ?_
  refine VC.condT rfl ?_
  refine VC.skip ?_
  refine VE.seq ?_
  refine VC.seq ?_
  refine VC.block ?_
  refine VC.seq ?_
  refine VC.region ?_
  refine VL.q (Q.move rfl) ?_
  refine VL.q (Q.indexAddr sl25 (j := 1) rfl rfl rfl (by omega)) ?_
  refine VL.q (Q.load1 ty4 rfl zM rfl) ?_
  refine VL.q (Q.assign rfl) ?_
  refine VL.q (Q.assign rfl) ?_
  refine VL.nil ?_
  refine VE.seq ?_
  refine VC.seq ?_
  refine VC.region ?_
  refine VL.q (Q.move rfl) ?_
  refine VL.nil ?_
  refine VE.seq ?_
  refine VC.condF rfl ?_
  refine VC.skip ?_
  refine VE.block_normal ?_
  refine VE.seq ?_
  refine VC.region ?_
  refine VL.quietE (v' := .int .i64 2) (by decide) ((by first | exact Q.addI rfl rfl (by omega) (by omega) | exact Q.add rfl rfl)) (by rfl) ?_
  refine VL.q (Q.move rfl) ?_
  refine VL.nil ?_
  refine VE.then_normal ?_
  refine VC.rnd (m := 37) ?_
  refine VC.seq ?_
  refine VC.region ?_
  refine VL.q (Q.lt rfl rfl) ?_
  refine VL.nil ?_
  refine VE.seq ?_
  refine VC.seq ?_
  refine VC.condT rfl ?_
  refine VC.skip ?_
  refine VE.seq ?_
  refine VC.seq ?_
  refine VC.block ?_
  refine VC.seq ?_
  refine VC.region ?_
  refine VL.q (Q.move rfl) ?_
  refine VL.q (Q.indexAddr sl25 (j := 2) rfl rfl rfl (by omega)) ?_
  refine VL.q (Q.load1 ty4 rfl zM rfl) ?_
  refine VL.q (Q.assign rfl) ?_
  refine VL.q (Q.assign rfl) ?_
  refine VL.nil ?_
  refine VE.seq ?_
  refine VC.seq ?_
  refine VC.region ?_
  refine VL.q (Q.move rfl) ?_
  refine VL.nil ?_
  refine VE.seq ?_
  refine VC.condF rfl ?_
  refine VC.skip ?_
  refine VE.block_normal ?_
  refine VE.seq ?_
  refine VC.region ?_
  refine VL.quietE (v' := .int .i64 3) (by decide) ((by first | exact Q.addI rfl rfl (by omega) (by omega) | exact Q.add rfl rfl)) (by rfl) ?_
  refine VL.q (Q.move rfl) ?_
  refine VL.nil ?_
  refine VE.then_normal ?_
  refine VC.rnd (m := 36) ?_
  refine VC.seq ?_
  refine VC.region ?_
  refine VL.q (Q.lt rfl rfl) ?_
  refine VL.nil ?_
  refine VE.seq ?_
  refine VC.seq ?_
  refine VC.condT rfl ?_
  refine VC.skip ?_
  refine VE.seq ?_
  refine VC.seq ?_
  refine VC.block ?_
  refine VC.seq ?_
  refine VC.region ?_
  refine VL.q (Q.move rfl) ?_
  refine VL.q (Q.indexAddr sl25 (j := 3) rfl rfl rfl (by omega)) ?_
  refine VL.q (Q.load1 ty4 rfl zM rfl) ?_
  refine VL.q (Q.assign rfl) ?_
  refine VL.q (Q.assign rfl) ?_
  refine VL.nil ?_
  refine VE.seq ?_
  refine VC.seq ?_
  refine VC.region ?_
  refine VL.q (Q.move rfl) ?_
  refine VL.nil ?_
  refine VE.seq ?_
  refine VC.condF rfl ?_
  refine VC.skip ?_
  refine VE.block_normal ?_
  refine VE.seq ?_
  refine VC.region ?_
  refine VL.quietE (v' := .int .i64 4) (by decide) ((by first | exact Q.addI rfl rfl (by omega) (by omega) | exact Q.add rfl rfl)) (by rfl) ?_
  refine VL.q (Q.move rfl) ?_
  refine VL.nil ?_
  refine VE.then_normal ?_
  refine VC.rnd (m := 35) ?_
  refine VC.seq ?_
  refine VC.region ?_
  refine VL.q (Q.lt rfl rfl) ?_
  refine VL.nil ?_
  refine VE.seq ?_
  refine VC.seq ?_
  refine VC.condT rfl ?_
  refine VC.skip ?_
  refine VE.seq ?_
  refine VC.seq ?_
  refine VC.block ?_
  refine VC.seq ?_
  refine VC.region ?_
  refine VL.q (Q.move rfl) ?_
  refine VL.q (Q.indexAddr sl25 (j := 4) rfl rfl rfl (by omega)) ?_
  refine VL.q (Q.load1 ty4 rfl zM rfl) ?_
  refine VL.q (Q.assign rfl) ?_
  refine VL.q (Q.assign rfl) ?_
  refine VL.nil ?_
  refine VE.seq ?_
  refine VC.seq ?_
  refine VC.region ?_
  refine VL.q (Q.move rfl) ?_
  refine VL.nil ?_
  refine VE.seq ?_
  refine VC.condF rfl ?_
  refine VC.skip ?_
  refine VE.block_normal ?_
  refine VE.seq ?_
  refine VC.region ?_
  refine VL.quietE (v' := .int .i64 5) (by decide) ((by first | exact Q.addI rfl rfl (by omega) (by omega) | exact Q.add rfl rfl)) (by rfl) ?_
  refine VL.q (Q.move rfl) ?_
  refine VL.nil ?_
  refine VE.then_normal ?_
  refine VC.rnd (m := 34) ?_
  refine VC.seq ?_
  refine VC.region ?_
  refine VL.q (Q.lt rfl rfl) ?_
  refine VL.nil ?_
  refine VE.seq ?_
  refine VC.seq ?_
  refine VC.condT rfl ?_
  refine VC.skip ?_
  refine VE.seq ?_
  refine VC.seq ?_
  refine VC.block ?_
  refine VC.seq ?_
  refine VC.region ?_
  refine VL.q (Q.move rfl) ?_
  refine VL.q (Q.indexAddr sl25 (j := 5) rfl rfl rfl (by omega)) ?_
  refine VL.q (Q.load1 ty4 rfl zM rfl) ?_
  refine VL.q (Q.assign rfl) ?_
  refine VL.q (Q.assign rfl) ?_
  refine VL.nil ?_
  refine VE.seq ?_
  refine VC.seq ?_
  refine VC.region ?_
  refine VL.q (Q.move rfl) ?_
  refine VL.nil ?_
  refine VE.seq ?_
  refine VC.condF rfl ?_
  refine VC.skip ?_
  refine VE.block_normal ?_
  refine VE.seq ?_
  refine VC.region ?_
  refine VL.quietE (v' := .int .i64 6) (by decide) ((by first | exact Q.addI rfl rfl (by omega) (by omega) | exact Q.add rfl rfl)) (by rfl) ?_
  refine VL.q (Q.move rfl) ?_
  refine VL.nil ?_
  refine VE.then_normal ?_
  refine VC.rnd (m := 33) ?_
  refine VC.seq ?_
  refine VC.region ?_
  refine VL.q (Q.lt rfl rfl) ?_
  refine VL.nil ?_
  refine VE.seq ?_
  refine VC.seq ?_
  refine VC.condT rfl ?_
  refine VC.skip ?_
  refine VE.seq ?_
  refine VC.seq ?_
  refine VC.block ?_
  refine VC.seq ?_
  refine VC.region ?_
  refine VL.q (Q.move rfl) ?_
  refine VL.q (Q.indexAddr sl25 (j := 6) rfl rfl rfl (by omega)) ?_
  refine VL.q (Q.load1 ty4 rfl zM rfl) ?_
  refine VL.q (Q.assign rfl) ?_
  refine VL.q (Q.assign rfl) ?_
  refine VL.nil ?_
  refine VE.seq ?_
  refine VC.seq ?_
  refine VC.region ?_
  refine VL.q (Q.move rfl) ?_
  refine VL.nil ?_
  refine VE.seq ?_
  refine VC.condF rfl ?_
  refine VC.skip ?_
  refine VE.block_normal ?_
  refine VE.seq ?_
  refine VC.region ?_
  refine VL.quietE (v' := .int .i64 7) (by decide) ((by first | exact Q.addI rfl rfl (by omega) (by omega) | exact Q.add rfl rfl)) (by rfl) ?_
  refine VL.q (Q.move rfl) ?_
  refine VL.nil ?_
  refine VE.then_normal ?_
  refine VC.rnd (m := 32) ?_
  refine VC.seq ?_
  refine VC.region ?_
  refine VL.q (Q.lt rfl rfl) ?_
  refine VL.nil ?_
  refine VE.seq ?_
  refine VC.seq ?_
  refine VC.condF rfl ?_
  refine VC.exit ?_
  refine VE.then_exit ?_
  refine VE.then_exit ?_
  refine VE.block_here ?_
  refine VE.seq ?_
  refine VC.seq ?_
  refine VC.region ?_
  refine VL.q (Q.fieldAddr fa50_0 rfl) ?_
  refine VL.q (Q.load1 ty5 rfl zM rfl) ?_
  refine VL.quietE (v' := .int .u8 4) (by decide) ((by first | exact Q.shlF (s := 2) (m := 4) rfl rfl (by decide) (by decide) (by simp only [klo]; omega) (by simp only [khi]; omega) | exact Q.shlM (M := 256) (s := 2) (m := 4) rfl rfl (by decide) (by decide) rfl rfl)) (by rfl) ?_
  refine VL.q (Q.fieldAddr fa50_1 rfl) ?_
  refine VL.q (Q.load1 ty5 rfl zM rfl) ?_
  refine VL.quietE (v' := .int .u8 144) (by decide) ((by first | exact Q.shlF (s := 4) (m := 16) rfl rfl (by decide) (by decide) (by simp only [klo]; omega) (by simp only [khi]; omega) | exact Q.shlM (M := 256) (s := 4) (m := 16) rfl rfl (by decide) (by decide) rfl rfl)) (by rfl) ?_
  refine VL.quietE (v' := .int .u8 148) (by decide) (Q.or rfl rfl (by omega) (by simp only [khi]; omega) (by omega) (by simp only [khi]; omega)) (by rfl) ?_
  refine VL.q (Q.move rfl) ?_
  refine VL.eff (O.buildSlice sl54 ze5 (by decide) zF (by decide) ?_)
  intro g59
  refine VL.q (Q.fieldAddr fa50_9 rfl) ?_
  refine VL.q (Q.load1 ty3 rfl zM rfl) ?_
  refine VK.toRow (g := g59) (s := 1) (m := 2) (c := 2) zU rfl (by omega) (by unfold maxLen; omega) ?_
  refine VL.eff (O.callB ok50 rfl rfl (by decide) (put16_c _ _ _ _ _ (by first | omega | decide) (by omega)) zK (fun _ _ _ => trivial) ?_)
  intro x62 y62
  refine VL.q (Q.assign rfl) ?_
  refine VL.nil ?_
  refine VE.seq ?_
  refine VC.seq ?_
  refine VK.keep (by exact .cons (i := 1) rfl (.cons (i := 2) rfl (.cons (i := 3) rfl (.cons (i := 8) rfl ( .nil))))) ?_
  refine VC.region ?_
  refine VL.eff (O.call0 ok36 rfl rfl (by decide) (places_back _) (fun _ _ hw => Rd.seg hw zM zS) ?_)
  intro x64 y64
  refine VL.q (Q.move rfl) ?_
  refine VL.q (Q.extract rfl rfl) ?_
  refine VL.q (Q.extract rfl rfl) ?_
  refine VL.q (Q.assign rfl) ?_
  refine VL.q (Q.assign rfl) ?_
  refine VL.nil ?_
  refine VE.seq ?_
  refine VC.seq ?_
  refine VC.seq ?_
  refine VC.region ?_
  refine VL.q (Q.move rfl) ?_
  refine VL.q (Q.len sl93 rfl) ?_
  refine VL.q (Q.move rfl) ?_
  refine VL.nil ?_
  refine VE.seq ?_
  refine VC.block ?_
  refine VC.rounds 40 ?_
  refine VC.rnd (m := 39) ?_
  refine VC.seq ?_
  refine VC.region ?_
  refine VL.q (Q.lt rfl rfl) ?_
  refine VL.nil ?_
  refine VE.seq ?_
  refine VC.seq ?_
  refine VC.condT rfl ?_
  refine VC.skip ?_
  refine VE.seq ?_
  refine VC.seq ?_
  refine VC.block ?_
  refine VC.seq ?_
  refine VC.region ?_
  refine VL.q (Q.indexAddr sl93 (j := 0) rfl rfl rfl (by omega)) ?_
  refine VL.q (Q.load1 ty97 rfl zM rfl) ?_
  refine VL.q (Q.assign rfl) ?_
  refine VL.nil ?_
  refine VE.seq ?_
  refine VC.region ?_
  refine VL.q (Q.move rfl) ?_
  refine VL.q (Q.move rfl) ?_
  refine VL.q (Q.nilCheck rfl) ?_
  refine VL.q (Q.slcA0 ar43 (h := _) rfl rfl (by omega)) ?_
  refine VL.eff (O.appendS sl54 ze5 rfl (by decide) rfl rfl zM zS rfl (by decide) (by unfold maxLen; omega) (by omega) zA ?_)
  intro p77 c77 hc77
  refine VL.q (Q.assign rfl) ?_
  refine VL.nil ?_
  refine VE.block_normal ?_
  refine VE.seq ?_
  refine VC.region ?_
  refine VL.quietE (v' := .int .i64 1) (by decide) ((by first | exact Q.addI rfl rfl (by omega) (by omega) | exact Q.add rfl rfl)) (by rfl) ?_
  refine VL.q (Q.move rfl) ?_
  refine VL.nil ?_
  refine VE.then_normal ?_
  refine VC.rnd (m := 38) ?_
  refine VC.seq ?_
  refine VC.region ?_
  refine VL.q (Q.lt rfl rfl) ?_
  refine VL.nil ?_
  refine VE.seq ?_
  refine VC.seq ?_
  refine VC.condT rfl ?_
  refine VC.skip ?_
  refine VE.seq ?_
  refine VC.seq ?_
  refine VC.block ?_
  refine VC.seq ?_
  refine VC.region ?_
  refine VL.q (Q.indexAddr sl93 (j := 1) rfl rfl rfl (by omega)) ?_
  refine VL.q (Q.load1 ty97 rfl zM rfl) ?_
  refine VL.q (Q.assign rfl) ?_
  refine VL.nil ?_
  refine VE.seq ?_
  refine VC.region ?_
  refine VL.q (Q.move rfl) ?_
  refine VL.q (Q.move rfl) ?_
  refine VL.q (Q.nilCheck rfl) ?_
  refine VL.q (Q.slcA0 ar43 (h := _) rfl rfl (by omega)) ?_
  refine VL.eff (O.appendS sl54 ze5 rfl (by decide) rfl rfl zM zS rfl (by decide) (by unfold maxLen; omega) (by omega) zA ?_)
  intro p77_1 c77_1 hc77_1
  refine VL.q (Q.assign rfl) ?_
  refine VL.nil ?_
  refine VE.block_normal ?_
  refine VE.seq ?_
  refine VC.region ?_
  refine VL.quietE (v' := .int .i64 2) (by decide) ((by first | exact Q.addI rfl rfl (by omega) (by omega) | exact Q.add rfl rfl)) (by rfl) ?_
  refine VL.q (Q.move rfl) ?_
  refine VL.nil ?_
  refine VE.then_normal ?_
  refine VC.rnd (m := 37) ?_
  refine VC.seq ?_
  refine VC.region ?_
  refine VL.q (Q.lt rfl rfl) ?_
  refine VL.nil ?_
  refine VE.seq ?_
  refine VC.seq ?_
  refine VC.condF rfl ?_
  refine VC.exit ?_
  refine VE.then_exit ?_
  refine VE.then_exit ?_
  refine VE.block_here ?_
  refine VE.seq ?_
  refine VC.seq ?_
  refine VC.seq ?_
  refine VC.region ?_
  refine VL.q (Q.fieldAddr fa90_1 rfl) ?_
  refine VL.q (Q.load1 ty4 rfl zM rfl) ?_
  refine VL.nil ?_
  refine VE.seq ?_
  refine VC.condF rfl ?_
  refine VC.skip ?_
  refine VE.seq ?_
  refine VC.seq ?_
  refine VC.seq ?_
  refine VC.region ?_
  refine VL.q (Q.move rfl) ?_
  refine VL.q (Q.len sl93 rfl) ?_
  refine VL.q (Q.move rfl) ?_
  refine VL.nil ?_
  refine VE.seq ?_
  refine VC.block ?_
  refine VC.rounds 40 ?_
  refine VC.rnd (m := 39) ?_
  refine VC.seq ?_
  refine VC.region ?_
  refine VL.q (Q.lt rfl rfl) ?_
  refine VL.nil ?_
  refine VE.seq ?_
  refine VC.seq ?_
  refine VC.condF rfl ?_
  refine VC.exit ?_
  refine VE.then_exit ?_
  refine VE.then_exit ?_
  refine VE.block_here ?_
  refine VE.seq ?_
  refine VC.seq ?_
  refine VC.seq ?_
  refine VC.region ?_
  refine VL.q (Q.fieldAddr fa90_2 rfl) ?_
  refine VL.q (Q.load1 ty4 rfl zM rfl) ?_
  refine VL.nil ?_
  refine VE.seq ?_
  refine VC.condF rfl ?_
  refine VC.skip ?_
  refine VE.seq ?_
  refine VC.seq ?_
  refine VC.region ?_
  refine VL.q (Q.move rfl) ?_
  refine VL.q (Q.assign rfl) ?_
  refine VL.nil ?_
  refine VE.seq ?_
  refine VC.ret ?_
  rw [hbs_back D hD]
  exact VE.ret rfl (.tmp rfl .nil) (_, _) (by first | assumption | omega) rfl (by repeat (first | exact List.Sublist.refl _ | exact .cons_cons _ (List.nil_sublist _) | apply List.Sublist.cons))

theorem encode_back (D : Nat) (hD : D ≤ 32767) :
    Does Tryd.prog 15 [.agg #[.int .u8 1, .int .u8 9, .bool false, .bool false, .bool false, .bool false, .bool false, .bool false, .bool false, .int .i64 (D : Int), .int .u8 2, .int .u8 0, .int .u8 0, .int .u8 0, .int .u8 0, .int .u8 2, .int .u8 2, .int .u8 0, .int .u8 0, .int .u8 0, .int .u8 0, .int .u8 1, .int .u8 0, .int .u8 0, .int .u8 0, .int .u8 0, .int .u8 0, .int .u8 0, .int .u8 0, .int .u8 0, .int .u8 0, .int .u8 0, .int .u8 0, .int .u8 0, .int .i64 0, .int .i64 0, .int .i64 0, .int .u8 0, .bool false, .bool false, .slice none 0 0]] [] (fun _ => True) (X := Option Addr × Nat) (fun x => 20 ≤ x.2) (fun x => .tuple #[.slice x.1 20 x.2, .int .i64 0]) (fun x => [.row (.slice x.1 20 x.2) 5 1 20 (bs (hb_back D ++ crcBytes (hb_back D)))]) := by
  refine Does.enter Tryd.func15 rfl (m := 30) rfl (by simp) ?_
  intro W0 hro
  refine VC.seq ?_
  refine VC.region ?_
  refine VL.eff (O.box rfl rfl (by decide) ?_)
  intro g1
  refine VL.q (Q.assign rfl) ?_
  refine VL.q (Q.assign rfl) ?_
  refine VL.nil ?_
  refine VE.seq ?_
  refine VC.seq ?_
  refine VC.seq ?_
  refine VC.region ?_
  refine VL.q (Q.fieldAddr fa58_0 rfl) ?_
  refine VL.q (Q.loadA ty50 rfl zM zS) ?_
  refine VL.eff (O.call0 ok28 rfl rfl (by decide) (check_back D hD) (fun _ _ _ => trivial) ?_)
  intro x6 y6
  refine VL.quietE (v' := .bool false) (by decide) (Q.ne rfl rfl) (by rfl) ?_
  refine VL.q (Q.move rfl) ?_
  refine VL.yes rfl rfl ?_
  refine VL.q (Q.fieldAddr fa58_0 rfl) ?_
  refine VL.yes rfl rfl ?_
  refine VL.q (Q.loadA ty50 rfl zM zS) ?_
  refine VL.yes rfl rfl ?_
  refine VL.eff (O.call0 ok29 rfl rfl (by decide) (bare_back D) (fun _ _ _ => trivial) ?_)
  intro x11 y11
  refine VL.yes rfl rfl ?_
  refine VL.q (Q.move rfl) ?_
  refine VL.no (by simp) rfl rfl (.inl rfl) ?_
  refine VL.no (by simp) rfl rfl (.inl rfl) ?_
  refine VL.no (by simp) rfl rfl (.inl rfl) ?_
  refine VL.no (by simp) rfl rfl (.inl rfl) ?_
  refine VL.yes rfl rfl ?_
  refine VL.quietE (v' := .bool false) (by decide) (Q.pick_false rfl rfl) (by rfl) ?_
  refine VL.quietE (v' := .bool false) (by decide) (Q.pick_false rfl rfl) (by rfl) ?_
  refine VL.nil ?_
  refine VE.seq ?_
  refine VC.condF rfl ?_
  refine VC.skip ?_
  refine VE.seq ?_
  refine VC.seq ?_
  refine VC.seq ?_
  refine VC.region ?_
  refine VL.q (Q.fieldAddr fa58_1 rfl) ?_
  refine VL.q (Q.load1 ty54 rfl zM rfl) ?_
  refine VL.q (Q.len sl54 rfl) ?_
  refine VL.quietE (v' := .bool false) (by decide) (Q.gt rfl rfl) (by rfl) ?_
  refine VL.nil ?_
  refine VE.seq ?_
  refine VC.condF rfl ?_
  refine VC.skip ?_
  refine VE.seq ?_
  refine VC.seq ?_
  refine VA.start (Ls := [.blk g1 [.int .u8 1, .int .u8 9, .bool false, .bool false, .bool false, .bool false, .bool false, .bool false, .bool false, .int .i64 (D : Int), .int .u8 2, .int .u8 0, .int .u8 0, .int .u8 0, .int .u8 0, .int .u8 2, .int .u8 2, .int .u8 0, .int .u8 0, .int .u8 0, .int .u8 0, .int .u8 1, .int .u8 0, .int .u8 0, .int .u8 0, .int .u8 0, .int .u8 0, .int .u8 0, .int .u8 0, .int .u8 0, .int .u8 0, .int .u8 0, .int .u8 0, .int .u8 0, .int .i64 0, .int .i64 0, .int .i64 0, .int .u8 0, .bool false, .bool false, .slice none 0 0] 58]) (Cs := []) mixed ?_
  refine VA.take 0 rfl (by kernel_rfl) (by kernel_rfl) (by kernel_rfl) (Still.then Still.body) (List.singleton_sublist.2 zM) Cells.nil (by decide) (Quiet.c (Q.fieldAddr fa58_0 rfl)) ?_
  refine VA.take 1 rfl (by kernel_rfl) (by kernel_rfl) (by kernel_rfl) (Still.then Still.body) (List.singleton_sublist.2 zM) Cells.nil (by decide) (Quiet.c (Q.loadA ty50 rfl zM zS)) ?_
  refine VA.take 3 rfl (by kernel_rfl) (by kernel_rfl) (by kernel_rfl) (Still.then Still.body) (List.singleton_sublist.2 zM) Cells.nil (by decide) (Quiet.c (Q.fieldAddr fa58_1 rfl)) ?_
  refine VA.take 4 rfl (by kernel_rfl) (by kernel_rfl) (by kernel_rfl) (Still.then Still.body) (List.singleton_sublist.2 zM) Cells.nil (by decide) (Quiet.c (Q.load1 ty54 rfl zM rfl)) ?_
  refine VA.all (rs := [2]) (by kernel_rfl) (by simp) ?_
  refine VA.forall1 ?_
  · skip
    refine VA.eff rfl ?_
    refine id (O.call0 ok31 rfl rfl (by decide) (write_back D hD) (fun _ _ _ => trivial) ?_)
    intro x25 y25
    refine VA.next (List.singleton_sublist.2 zM) Cells.nil ?_
    refine VA.take 5 rfl (by kernel_rfl) (by kernel_rfl) (by kernel_rfl) (Still.then Still.body) (List.singleton_sublist.2 zM) Cells.nil (by decide) (Quiet.c (Q.append0 sl54 rfl rfl (by omega))) ?_
    refine VA.all (rs := [6]) (by kernel_rfl) (by simp) ?_
    refine VA.forall1 ?_
    · skip
      refine VA.eff rfl ?_
      refine id (O.call0 ok30 rfl rfl (by decide) (append_c _ 16 _ (hb_back D) rfl (by omega)) (fun _ _ hw => Rd.row hw zM) ?_)
      intro x29 y29
      refine VA.next (List.singleton_sublist.2 zM) Cells.nil ?_
      refine VA.take 7 rfl (by kernel_rfl) (by kernel_rfl) (by kernel_rfl) (Still.then Still.body) (List.singleton_sublist.2 zM) Cells.nil (by decide) (Quiet.c (Q.assign rfl)) ?_
      refine VA.take 8 rfl (by kernel_rfl) (by kernel_rfl) (by kernel_rfl) (Still.then Still.body) (List.singleton_sublist.2 zM) Cells.nil (by decide) (Quiet.c (Q.assign rfl)) ?_
      refine VA.done (by kernel_rfl) ?_
      refine VE.seq ?_
      refine VC.ret ?_
      exact VE.ret rfl (.tmp rfl (.tmp rfl .nil)) x29 y29 rfl (by repeat (first | exact List.Sublist.refl _ | exact .cons_cons _ (List.nil_sublist _) | apply List.Sublist.cons))

end Go.Proofs.YtencghlmckbmlaaDoor
