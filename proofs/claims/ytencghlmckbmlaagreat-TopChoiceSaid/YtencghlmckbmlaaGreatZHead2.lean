/- The contracts of package header for the frames that the mesh makes: write, Encode. Conditions: those that each bears. -/
import Derived.Test.YtencghlmckbmlaaGreatRows
import Derived.Test.YtencghlmckbmlaaGreatHeader
namespace Go.Proofs.YtencghlmckbmlaaGreat
open Go Go.RowKit Go.Sx
set_option maxRecDepth 100000

theorem fa103_2 : tyField Tryz.prog 103 2 = some 2 := by kernel_rfl
theorem fa103_3 : tyField Tryz.prog 103 3 = some 3 := by kernel_rfl
theorem fa105_0 : tyField Tryz.prog 105 0 = some 0 := by kernel_rfl
theorem fa105_1 : tyField Tryz.prog 105 1 = some 40 := by kernel_rfl
theorem ok143 : okFunc Tryz.prog 143 = true := by kernel_rfl
theorem ok144 : okFunc Tryz.prog 144 = true := by kernel_rfl
theorem ok196 : okFunc Tryz.prog 196 = true := by kernel_rfl
theorem ok76 : okFunc Tryz.prog 76 = true := by kernel_rfl
theorem ok77 : okFunc Tryz.prog 77 = true := by kernel_rfl
theorem sl180 : tySlice Tryz.prog 180 = some (4, 1, 1) := by kernel_rfl
theorem ty23 : tySz Tryz.prog 23 = some (false, 1) := by kernel_rfl
theorem ze4 : (Tryz.prog.info? 4).bind (·.zero) = some (.bool false) := by kernel_rfl

def hb_bcn (D t f : Nat) : List UInt8 := [128, 0, UInt8.ofNat D, UInt8.ofNat (D / 256), 255, 255, 255, 255, 255, 255, 2, 0, 0, 0, 1, UInt8.ofNat f, 2, 0, 0, 0, 1, UInt8.ofNat f, 0, 0]
theorem hbs_bcn (D t f : Nat) (hD : D ≤ 32767) (ht : t ≤ 255) (hf : f ≤ 255) : bs (hb_bcn D t f) = [.int .u8 128, .int .u8 0, .int .u8 ((D : Int) % 256), .int .u8 ((D : Int) / 256), .int .u8 255, .int .u8 255, .int .u8 255, .int .u8 255, .int .u8 255, .int .u8 255, .int .u8 2, .int .u8 0, .int .u8 0, .int .u8 0, .int .u8 1, .int .u8 (f : Int), .int .u8 2, .int .u8 0, .int .u8 0, .int .u8 0, .int .u8 1, .int .u8 (f : Int), .int .u8 0, .int .u8 0] := by
  simp [bs, hb_bcn]
  omega
theorem hbl_bcn (D t f : Nat) : (hb_bcn D t f).length = 24 := rfl

theorem write_bcn (D : Nat) (hD : D ≤ 32767) (t f : Nat) (ht : t ≤ 255) (hf : f ≤ 255) :
  Does Tryz.prog 144 [.agg #[.int .u8 0, .int .u8 8, .bool false, .bool false, .bool false, .bool false, .bool false, .bool false, .bool false, .int .i64 (D : Int), .int .u8 255, .int .u8 255, .int .u8 255, .int .u8 255, .int .u8 255, .int .u8 255, .int .u8 2, .int .u8 0, .int .u8 0, .int .u8 0, .int .u8 1, .int .u8 (f : Int), .int .u8 2, .int .u8 0, .int .u8 0, .int .u8 0, .int .u8 1, .int .u8 (f : Int), .int .u8 0, .int .u8 0, .int .u8 0, .int .u8 0, .int .u8 0, .int .u8 0, .int .i64 0, .int .i64 0, .int .i64 0, .int .u8 0, .bool false, .bool false]] [] (fun _ => True) (X := Option Addr × Nat) (fun x => 24 ≤ x.2) (fun x => .slice x.1 24 x.2) (fun x => [.row (.slice x.1 24 x.2) 5 1 24 (bs (hb_bcn D t f))]) := by
 refine Does.enter Tryz.func144 rfl (m := 122) rfl (by simp) ?_
 intro W0 hro
 refine VC.seq ?_
 refine VC.region ?_
 refine VL.eff (O.box rfl rfl (by decide) ?_)
 intro g1
 refine VL.q (Q.assign rfl) ?_
 refine VL.nil ?_
 refine VE.seq ?_
 refine VC.seq ?_
 refine VC.region ?_
 refine VL.q (Q.fieldAddr fa103_0 rfl) ?_
 refine VL.q (Q.load1 ty5 rfl zM rfl) ?_
 refine VL.q (Q.fieldAddr fa103_1 rfl) ?_
 refine VL.q (Q.load1 ty5 rfl zM rfl) ?_
 refine VL.eff (O.call0 ok73 rfl rfl (by decide) (known_bcn) (fun _ _ _ => trivial) ?_)
 intro x21 y21
 refine VL.q (Q.move rfl) ?_
 refine VL.q (Q.extract rfl rfl) ?_
 refine VL.q (Q.extract rfl rfl) ?_
 refine VL.eff (O.alloc zo193 (by decide) ?_)
 intro g3
 refine VL.eff (O.store ty193 rfl rfl rfl rfl zU zP ?_)
 refine VL.q (Q.assign rfl) ?_
 refine VL.nil ?_
 refine VE.seq ?_
 refine VC.seq ?_
 refine VC.region ?_
 refine VL.q (Q.assign rfl) ?_
 refine VL.nil ?_
 refine VE.seq ?_
 refine VC.seq ?_
 refine VC.seq ?_
 refine VC.region ?_
 refine VL.q (Q.fieldAddr fa103_2 rfl) ?_
 refine VL.q (Q.load1 ty4 rfl zM rfl) ?_
 refine VL.q (Q.fieldAddr fa103_3 rfl) ?_
 refine VL.q (Q.load1 ty4 rfl zM rfl) ?_
 refine VL.q (Q.fieldAddr fa103_4 rfl) ?_
 refine VL.q (Q.load1 ty4 rfl zM rfl) ?_
 refine VL.q (Q.fieldAddr fa103_5 rfl) ?_
 refine VL.q (Q.load1 ty4 rfl zM rfl) ?_
 refine VL.q (Q.fieldAddr fa103_6 rfl) ?_
 refine VL.q (Q.load1 ty4 rfl zM rfl) ?_
 refine VL.q (Q.fieldAddr fa103_7 rfl) ?_
 refine VL.q (Q.load1 ty4 rfl zM rfl) ?_
 refine VL.q (Q.fieldAddr fa103_8 rfl) ?_
 refine VL.q (Q.load1 ty4 rfl zM rfl) ?_
 refine VL.eff (O.buildSlice sl180 ze4 (by decide) zF (by decide) ?_)
 intro g38
 refine VL.q (Q.len sl180 rfl) ?_
 refine VL.q (Q.move rfl) ?_
 refine VL.nil ?_
 refine VE.seq ?_
 refine VC.block ?_
 refine VC.rounds 40 ?_
 refine VC.rnd (m := 39) ?_
 refine VC.seq ?_
 refine VC.region ?_
 refine VL.q (Q.lt rfl rfl) ?_
 refine VL.nil ?_
 refine VE.seq ?_
 refine VC.seq ?_
 refine VC.condT rfl ?_
 refine VC.skip ?_
 refine VE.seq ?_
 refine VC.seq ?_
 refine VC.block ?_
 refine VC.seq ?_
 refine VC.region ?_
 refine VL.q (Q.move rfl) ?_
 refine VL.q (Q.indexAddr sl180 (j := 0) rfl rfl rfl (by omega)) ?_
 refine VL.q (Q.load1 ty4 rfl zM rfl) ?_
 refine VL.q (Q.assign rfl) ?_
 refine VL.q (Q.assign rfl) ?_
 refine VL.nil ?_
 refine VE.seq ?_
 refine VC.seq ?_
 refine VC.region ?_
 refine VL.q (Q.move rfl) ?_
 refine VL.nil ?_
 refine VE.seq ?_
 refine VC.condF rfl ?_
 refine VC.skip ?_
 refine VE.block_normal ?_
 refine VE.seq ?_
 refine VC.region ?_
 refine VL.quietE (v' := .int .i64 1) (by decide) ((by first | exact Q.addI rfl rfl (by omega) (by omega) | exact Q.add rfl rfl)) (by rfl) ?_
 refine VL.q (Q.move rfl) ?_
 refine VL.nil ?_
 refine VE.then_normal ?_
 refine VC.rnd (m := 38) ?_
 refine VC.seq ?_
 refine VC.region ?_
 refine VL.q (Q.lt rfl rfl) ?_
 refine VL.nil ?_
 refine VE.seq ?_
 refine VC.seq ?_
 refine VC.condT rfl ?_
 refine VC.skip ?_
 refine VE.seq ?_
 refine VC.seq ?_
 refine VC.block ?_
 refine VC.seq ?_
 refine VC.region ?_
 refine VL.q (Q.move rfl) ?_
 refine VL.q (Q.indexAddr sl180 (j := 1) rfl rfl rfl (by omega)) ?_
 refine VL.q (Q.load1 ty4 rfl zM rfl) ?_
 refine VL.q (Q.assign rfl) ?_
 refine VL.q (Q.assign rfl) ?_
 refine VL.nil ?_
 refine VE.seq ?_
 refine VC.seq ?_
 refine VC.region ?_
 refine VL.q (Q.move rfl) ?_
 refine VL.nil ?_
 refine VE.seq ?_
 refine VC.condF rfl ?_
 refine VC.skip ?_
 refine VE.block_normal ?_
 refine VE.seq ?_
 refine VC.region ?_
 refine VL.quietE (v' := .int .i64 2) (by decide) ((by first | exact Q.addI rfl rfl (by omega) (by omega) | exact Q.add rfl rfl)) (by rfl) ?_
 refine VL.q (Q.move rfl) ?_
 refine VL.nil ?_
 refine VE.then_normal ?_
 refine VC.rnd (m := 37) ?_
 refine VC.seq ?_
 refine VC.region ?_
 refine VL.q (Q.lt rfl rfl) ?_
 refine VL.nil ?_
 refine VE.seq ?_
 refine VC.seq ?_
 refine VC.condT rfl ?_
 refine VC.skip ?_
 refine VE.seq ?_
 refine VC.seq ?_
 refine VC.block ?_
 refine VC.seq ?_
 refine VC.region ?_
 refine VL.q (Q.move rfl) ?_
 refine VL.q (Q.indexAddr sl180 (j := 2) rfl rfl rfl (by omega)) ?_
 refine VL.q (Q.load1 ty4 rfl zM rfl) ?_
 refine VL.q (Q.assign rfl) ?_
 refine VL.q (Q.assign rfl) ?_
 refine VL.nil ?_
 refine VE.seq ?_
 refine VC.seq ?_
 refine VC.region ?_
 refine VL.q (Q.move rfl) ?_
 refine VL.nil ?_
 refine VE.seq ?_
 refine VC.condF rfl ?_
 refine VC.skip ?_
 refine VE.block_normal ?_
 refine VE.seq ?_
 refine VC.region ?_
 refine VL.quietE (v' := .int .i64 3) (by decide) ((by first | exact Q.addI rfl rfl (by omega) (by omega) | exact Q.add rfl rfl)) (by rfl) ?_
 refine VL.q (Q.move rfl) ?_
 refine VL.nil ?_
 refine VE.then_normal ?_
 refine VC.rnd (m := 36) ?_
 refine VC.seq ?_
 refine VC.region ?_
 refine VL.q (Q.lt rfl rfl) ?_
 refine VL.nil ?_
 refine VE.seq ?_
 refine VC.seq ?_
 refine VC.condT rfl ?_
 refine VC.skip ?_
 refine VE.seq ?_
 refine VC.seq ?_
 refine VC.block ?_
 refine VC.seq ?_
 refine VC.region ?_
 refine VL.q (Q.move rfl) ?_
 refine VL.q (Q.indexAddr sl180 (j := 3) rfl rfl rfl (by omega)) ?_
 refine VL.q (Q.load1 ty4 rfl zM rfl) ?_
 refine VL.q (Q.assign rfl) ?_
 refine VL.q (Q.assign rfl) ?_
 refine VL.nil ?_
 refine VE.seq ?_
 refine VC.seq ?_
 refine VC.region ?_
 refine VL.q (Q.move rfl) ?_
 refine VL.nil ?_
 refine VE.seq ?_
 refine VC.condF rfl ?_
 refine VC.skip ?_
 refine VE.block_normal ?_
 refine VE.seq ?_
 refine VC.region ?_
 refine VL.quietE (v' := .int .i64 4) (by decide) ((by first | exact Q.addI rfl rfl (by omega) (by omega) | exact Q.add rfl rfl)) (by rfl) ?_
 refine VL.q (Q.move rfl) ?_
 refine VL.nil ?_
 refine VE.then_normal ?_
 refine VC.rnd (m := 35) ?_
 refine VC.seq ?_
 refine VC.region ?_
 refine VL.q (Q.lt rfl rfl) ?_
 refine VL.nil ?_
 refine VE.seq ?_
 refine VC.seq ?_
 refine VC.condT rfl ?_
 refine VC.skip ?_
 refine VE.seq ?_
 refine VC.seq ?_
 refine VC.block ?_
 refine VC.seq ?_
 refine VC.region ?_
 refine VL.q (Q.move rfl) ?_
 refine VL.q (Q.indexAddr sl180 (j := 4) rfl rfl rfl (by omega)) ?_
 refine VL.q (Q.load1 ty4 rfl zM rfl) ?_
 refine VL.q (Q.assign rfl) ?_
 refine VL.q (Q.assign rfl) ?_
 refine VL.nil ?_
 refine VE.seq ?_
 refine VC.seq ?_
 refine VC.region ?_
 refine VL.q (Q.move rfl) ?_
 refine VL.nil ?_
 refine VE.seq ?_
 refine VC.condF rfl ?_
 refine VC.skip ?_
 refine VE.block_normal ?_
 refine VE.seq ?_
 refine VC.region ?_
 refine VL.quietE (v' := .int .i64 5) (by decide) ((by first | exact Q.addI rfl rfl (by omega) (by omega) | exact Q.add rfl rfl)) (by rfl) ?_
 refine VL.q (Q.move rfl) ?_
 refine VL.nil ?_
 refine VE.then_normal ?_
 refine VC.rnd (m := 34) ?_
 refine VC.seq ?_
 refine VC.region ?_
 refine VL.q (Q.lt rfl rfl) ?_
 refine VL.nil ?_
 refine VE.seq ?_
 refine VC.seq ?_
 refine VC.condT rfl ?_
 refine VC.skip ?_
 refine VE.seq ?_
 refine VC.seq ?_
 refine VC.block ?_
 refine VC.seq ?_
 refine VC.region ?_
 refine VL.q (Q.move rfl) ?_
 refine VL.q (Q.indexAddr sl180 (j := 5) rfl rfl rfl (by omega)) ?_
 refine VL.q (Q.load1 ty4 rfl zM rfl) ?_
 refine VL.q (Q.assign rfl) ?_
 refine VL.q (Q.assign rfl) ?_
 refine VL.nil ?_
 refine VE.seq ?_
 refine VC.seq ?_
 refine VC.region ?_
 refine VL.q (Q.move rfl) ?_
 refine VL.nil ?_
 refine VE.seq ?_
 refine VC.condF rfl ?_
 refine VC.skip ?_
 refine VE.block_normal ?_
 refine VE.seq ?_
 refine VC.region ?_
 refine VL.quietE (v' := .int .i64 6) (by decide) ((by first | exact Q.addI rfl rfl (by omega) (by omega) | exact Q.add rfl rfl)) (by rfl) ?_
 refine VL.q (Q.move rfl) ?_
 refine VL.nil ?_
 refine VE.then_normal ?_
 refine VC.rnd (m := 33) ?_
 refine VC.seq ?_
 refine VC.region ?_
 refine VL.q (Q.lt rfl rfl) ?_
 refine VL.nil ?_
 refine VE.seq ?_
 refine VC.seq ?_
 refine VC.condT rfl ?_
 refine VC.skip ?_
 refine VE.seq ?_
 refine VC.seq ?_
 refine VC.block ?_
 refine VC.seq ?_
 refine VC.region ?_
 refine VL.q (Q.move rfl) ?_
 refine VL.q (Q.indexAddr sl180 (j := 6) rfl rfl rfl (by omega)) ?_
 refine VL.q (Q.load1 ty4 rfl zM rfl) ?_
 refine VL.q (Q.assign rfl) ?_
 refine VL.q (Q.assign rfl) ?_
 refine VL.nil ?_
 refine VE.seq ?_
 refine VC.seq ?_
 refine VC.region ?_
 refine VL.q (Q.move rfl) ?_
 refine VL.nil ?_
 refine VE.seq ?_
 refine VC.condF rfl ?_
 refine VC.skip ?_
 refine VE.block_normal ?_
 refine VE.seq ?_
 refine VC.region ?_
 refine VL.quietE (v' := .int .i64 7) (by decide) ((by first | exact Q.addI rfl rfl (by omega) (by omega) | exact Q.add rfl rfl)) (by rfl) ?_
 refine VL.q (Q.move rfl) ?_
 refine VL.nil ?_
 refine VE.then_normal ?_
 refine VC.rnd (m := 32) ?_
 refine VC.seq ?_
 refine VC.region ?_
 refine VL.q (Q.lt rfl rfl) ?_
 refine VL.nil ?_
 refine VE.seq ?_
 refine VC.seq ?_
 refine VC.condF rfl ?_
 refine VC.exit ?_
 refine VE.then_exit ?_
 refine VE.then_exit ?_
 refine VE.block_here ?_
 refine VE.seq ?_
 refine VC.seq ?_
 refine VC.region ?_
 refine VL.q (Q.fieldAddr fa103_0 rfl) ?_
 refine VL.q (Q.load1 ty5 rfl zM rfl) ?_
 refine VL.quietE (v' := .int .u8 0) (by decide) ((by first | exact Q.shlF (s := 2) (m := 4) rfl rfl (by decide) (by decide) (by simp only [klo]; omega) (by simp only [khi]; omega) | exact Q.shlM (M := 256) (s := 2) (m := 4) rfl rfl (by decide) (by decide) rfl rfl)) (by rfl) ?_
 refine VL.q (Q.fieldAddr fa103_1 rfl) ?_
 refine VL.q (Q.load1 ty5 rfl zM rfl) ?_
 refine VL.quietE (v' := .int .u8 128) (by decide) ((by first | exact Q.shlF (s := 4) (m := 16) rfl rfl (by decide) (by decide) (by simp only [klo]; omega) (by simp only [khi]; omega) | exact Q.shlM (M := 256) (s := 4) (m := 16) rfl rfl (by decide) (by decide) rfl rfl)) (by rfl) ?_
 refine VL.quietE (v' := .int .u8 128) (by decide) (Q.or rfl rfl (by omega) (by simp only [khi]; omega) (by omega) (by simp only [khi]; omega)) (by rfl) ?_
 refine VL.q (Q.move rfl) ?_
 refine VL.eff (O.buildSlice sl23 ze5 (by decide) zF (by decide) ?_)
 intro g59
 refine VL.q (Q.fieldAddr fa103_9 rfl) ?_
 refine VL.q (Q.load1 ty3 rfl zM rfl) ?_
 refine VK.toRow (g := g59) (s := 1) (m := 2) (c := 2) zU rfl (by omega) (by unfold maxLen; omega) ?_
 refine VL.eff (O.callB ok196 rfl rfl (by decide) (put16_c _ _ _ _ _ (by first | omega | decide) (by omega)) zK (fun _ _ _ => trivial) ?_)
 intro x62 y62
 refine VL.q (Q.assign rfl) ?_
 refine VL.nil ?_
 refine VE.seq ?_
 refine VC.seq ?_
 refine VK.keep (by exact .cons (i := 1) rfl (.cons (i := 2) rfl (.cons (i := 3) rfl (.cons (i := 8) rfl ( .nil))))) ?_
 refine VC.region ?_
 refine VL.eff (O.call0 ok75 rfl rfl (by decide) (places_bcn _) (fun _ _ hw => Rd.seg hw zM zS) ?_)
 intro x64 y64
 refine VL.q (Q.move rfl) ?_
 refine VL.q (Q.extract rfl rfl) ?_
 refine VL.q (Q.extract rfl rfl) ?_
 refine VL.q (Q.assign rfl) ?_
 refine VL.q (Q.assign rfl) ?_
 refine VL.nil ?_
 refine VE.seq ?_
 refine VC.seq ?_
 refine VC.seq ?_
 refine VC.region ?_
 refine VL.q (Q.move rfl) ?_
 refine VL.q (Q.len sl196 rfl) ?_
 refine VL.q (Q.move rfl) ?_
 refine VL.nil ?_
 refine VE.seq ?_
 refine VC.block ?_
 refine VC.rounds 40 ?_
 refine VC.rnd (m := 39) ?_
 refine VC.seq ?_
 refine VC.region ?_
 refine VL.q (Q.lt rfl rfl) ?_
 refine VL.nil ?_
 refine VE.seq ?_
 refine VC.seq ?_
 refine VC.condT rfl ?_
 refine VC.skip ?_
 refine VE.seq ?_
 refine VC.seq ?_
 refine VC.block ?_
 refine VC.seq ?_
 refine VC.region ?_
 refine VL.q (Q.indexAddr sl196 (j := 0) rfl rfl rfl (by omega)) ?_
 refine VL.q (Q.load1 ty200 rfl zM rfl) ?_
 refine VL.q (Q.assign rfl) ?_
 refine VL.nil ?_
 refine VE.seq ?_
 refine VC.region ?_
 refine VL.q (Q.move rfl) ?_
 refine VL.q (Q.move rfl) ?_
 refine VL.q (Q.nilCheck rfl) ?_
 refine VL.q (Q.slcA0 ar44 (h := _) rfl rfl (by omega)) ?_
 refine VL.eff (O.appendS sl23 ze5 rfl (by decide) rfl rfl zM zS rfl (by decide) (by unfold maxLen; omega) (by omega) zA ?_)
 intro p77 c77 hc77
 refine VL.q (Q.assign rfl) ?_
 refine VL.nil ?_
 refine VE.block_normal ?_
 refine VE.seq ?_
 refine VC.region ?_
 refine VL.quietE (v' := .int .i64 1) (by decide) ((by first | exact Q.addI rfl rfl (by omega) (by omega) | exact Q.add rfl rfl)) (by rfl) ?_
 refine VL.q (Q.move rfl) ?_
 refine VL.nil ?_
 refine VE.then_normal ?_
 refine VC.rnd (m := 38) ?_
 refine VC.seq ?_
 refine VC.region ?_
 refine VL.q (Q.lt rfl rfl) ?_
 refine VL.nil ?_
 refine VE.seq ?_
 refine VC.seq ?_
 refine VC.condT rfl ?_
 refine VC.skip ?_
 refine VE.seq ?_
 refine VC.seq ?_
 refine VC.block ?_
 refine VC.seq ?_
 refine VC.region ?_
 refine VL.q (Q.indexAddr sl196 (j := 1) rfl rfl rfl (by omega)) ?_
 refine VL.q (Q.load1 ty200 rfl zM rfl) ?_
 refine VL.q (Q.assign rfl) ?_
 refine VL.nil ?_
 refine VE.seq ?_
 refine VC.region ?_
 refine VL.q (Q.move rfl) ?_
 refine VL.q (Q.move rfl) ?_
 refine VL.q (Q.nilCheck rfl) ?_
 refine VL.q (Q.slcA0 ar44 (h := _) rfl rfl (by omega)) ?_
 refine VL.eff (O.appendS sl23 ze5 rfl (by decide) rfl rfl zM zS rfl (by decide) (by unfold maxLen; omega) (by omega) zA ?_)
 intro p77_1 c77_1 hc77_1
 refine VL.q (Q.assign rfl) ?_
 refine VL.nil ?_
 refine VE.block_normal ?_
 refine VE.seq ?_
 refine VC.region ?_
 refine VL.quietE (v' := .int .i64 2) (by decide) ((by first | exact Q.addI rfl rfl (by omega) (by omega) | exact Q.add rfl rfl)) (by rfl) ?_
 refine VL.q (Q.move rfl) ?_
 refine VL.nil ?_
 refine VE.then_normal ?_
 refine VC.rnd (m := 37) ?_
 refine VC.seq ?_
 refine VC.region ?_
 refine VL.q (Q.lt rfl rfl) ?_
 refine VL.nil ?_
 refine VE.seq ?_
 refine VC.seq ?_
 refine VC.condT rfl ?_
 refine VC.skip ?_
 refine VE.seq ?_
 refine VC.seq ?_
 refine VC.block ?_
 refine VC.seq ?_
 refine VC.region ?_
 refine VL.q (Q.indexAddr sl196 (j := 2) rfl rfl rfl (by omega)) ?_
 refine VL.q (Q.load1 ty200 rfl zM rfl) ?_
 refine VL.q (Q.assign rfl) ?_
 refine VL.nil ?_
 refine VE.seq ?_
 refine VC.region ?_
 refine VL.q (Q.move rfl) ?_
 refine VL.q (Q.move rfl) ?_
 refine VL.q (Q.nilCheck rfl) ?_
 refine VL.q (Q.slcA0 ar44 (h := _) rfl rfl (by omega)) ?_
 refine VL.eff (O.appendS sl23 ze5 rfl (by decide) rfl rfl zM zS rfl (by decide) (by unfold maxLen; omega) (by omega) zA ?_)
 intro p77_2 c77_2 hc77_2
 refine VL.q (Q.assign rfl) ?_
 refine VL.nil ?_
 refine VE.block_normal ?_
 refine VE.seq ?_
 refine VC.region ?_
 refine VL.quietE (v' := .int .i64 3) (by decide) ((by first | exact Q.addI rfl rfl (by omega) (by omega) | exact Q.add rfl rfl)) (by rfl) ?_
 refine VL.q (Q.move rfl) ?_
 refine VL.nil ?_
 refine VE.then_normal ?_
 refine VC.rnd (m := 36) ?_
 refine VC.seq ?_
 refine VC.region ?_
 refine VL.q (Q.lt rfl rfl) ?_
 refine VL.nil ?_
 refine VE.seq ?_
 refine VC.seq ?_
 refine VC.condF rfl ?_
 refine VC.exit ?_
 refine VE.then_exit ?_
 refine VE.then_exit ?_
 refine VE.block_here ?_
 refine VE.seq ?_
 refine VC.seq ?_
 refine VC.seq ?_
 refine VC.region ?_
 refine VL.q (Q.fieldAddr fa193_1 rfl) ?_
 refine VL.q (Q.load1 ty4 rfl zM rfl) ?_
 refine VL.nil ?_
 refine VE.seq ?_
 refine VC.condT rfl ?_
 refine VC.region ?_
 refine VL.q (Q.move rfl) ?_
 refine VL.q (Q.fieldAddr fa103_15 rfl) ?_
 refine VL.q (Q.load1 ty3 rfl zM rfl) ?_
 refine VL.q (Q.fieldAddr fa103_14 rfl) ?_
 refine VL.q (Q.load1 ty3 rfl zM rfl) ?_
 refine VL.quietE (v' := .int .i64 0) (by decide) (Q.shlF (s := 4) (m := 16) rfl rfl (by decide) (by decide) (by simp only [klo]; omega) (by simp only [khi]; omega)) (by rfl) ?_
 refine VL.quietE (v' := .int .i64 0) (by decide) (Q.or rfl rfl (by omega) (by simp only [khi]; omega) (by omega) (by simp only [khi]; omega)) (by rfl) ?_
 refine VL.eff (O.callB ok196 rfl rfl (by decide) (put16_c _ _ _ _ _ (by first | omega | decide) (by omega)) zK (fun _ _ _ => trivial) ?_)
 intro x88 y88
 refine VL.q (Q.assign rfl) ?_
 refine VL.nil ?_
 refine VE.seq ?_
 refine VC.seq ?_
 refine VC.seq ?_
 refine VC.region ?_
 refine VL.q (Q.move rfl) ?_
 refine VL.q (Q.len sl196 rfl) ?_
 refine VL.q (Q.move rfl) ?_
 refine VL.nil ?_
 refine VE.seq ?_
 refine VC.block ?_
 refine VC.rounds 40 ?_
 refine VC.rnd (m := 39) ?_
 refine VC.seq ?_
 refine VC.region ?_
 refine VL.q (Q.lt rfl rfl) ?_
 refine VL.nil ?_
 refine VE.seq ?_
 refine VC.seq ?_
 refine VC.condF rfl ?_
 refine VC.exit ?_
 refine VE.then_exit ?_
 refine VE.then_exit ?_
 refine VE.block_here ?_
 refine VE.seq ?_
 refine VC.seq ?_
 refine VC.seq ?_
 refine VC.region ?_
 refine VL.q (Q.fieldAddr fa193_2 rfl) ?_
 refine VL.q (Q.load1 ty4 rfl zM rfl) ?_
 refine VL.nil ?_
 refine VE.seq ?_
 refine VC.condF rfl ?_
 refine VC.skip ?_
 refine VE.seq ?_
 refine VC.seq ?_
 refine VC.region ?_
 refine VL.q (Q.move rfl) ?_
 refine VL.q (Q.assign rfl) ?_
 refine VL.nil ?_
 refine VE.seq ?_
 refine VC.ret ?_
 rw [hbs_bcn D t f hD ht hf]
 exact VE.ret rfl (.tmp rfl .nil) (_, _) (by first | assumption | omega) rfl (by repeat (first | exact List.Sublist.refl _ | exact .cons_cons _ (List.nil_sublist _) | apply List.Sublist.cons))

theorem encode_bcn (D : Nat) (hD : D ≤ 32767) (t f : Nat) (ht : t ≤ 255) (hf : f ≤ 255) (p : Option Addr) (m c : Nat) (l : List UInt8) (hl : l.length = m) (hm : m ≤ 2304) :
  Does Tryz.prog 64 [.agg #[.int .u8 0, .int .u8 8, .bool false, .bool false, .bool false, .bool false, .bool false, .bool false, .bool false, .int .i64 (D : Int), .int .u8 255, .int .u8 255, .int .u8 255, .int .u8 255, .int .u8 255, .int .u8 255, .int .u8 2, .int .u8 0, .int .u8 0, .int .u8 0, .int .u8 1, .int .u8 (f : Int), .int .u8 2, .int .u8 0, .int .u8 0, .int .u8 0, .int .u8 1, .int .u8 (f : Int), .int .u8 0, .int .u8 0, .int .u8 0, .int .u8 0, .int .u8 0, .int .u8 0, .int .i64 0, .int .i64 0, .int .i64 0, .int .u8 0, .bool false, .bool false, .slice p m c]] [] (fun W => Rd W p (bs l)) (X := Option Addr × Nat) (fun x => 28 + m ≤ x.2) (fun x => .tuple #[.slice x.1 ((hb_bcn D t f ++ l) ++ crcBytes (hb_bcn D t f ++ l)).length x.2, .int .i64 0]) (fun x => [.row (.slice x.1 ((hb_bcn D t f ++ l) ++ crcBytes (hb_bcn D t f ++ l)).length x.2) 5 1 ((hb_bcn D t f ++ l) ++ crcBytes (hb_bcn D t f ++ l)).length (bs ((hb_bcn D t f ++ l) ++ crcBytes (hb_bcn D t f ++ l)))]) := by
 refine Does.enter Tryz.func64 rfl (m := 30) rfl (by simp) ?_
 intro W0 hro
 refine VC.seq ?_
 refine VC.region ?_
 refine VL.eff (O.box rfl rfl (by decide) ?_)
 intro g1
 refine VL.q (Q.assign rfl) ?_
 refine VL.q (Q.assign rfl) ?_
 refine VL.nil ?_
 refine VE.seq ?_
 refine VC.seq ?_
 refine VC.seq ?_
 refine VC.region ?_
 refine VL.q (Q.fieldAddr fa105_0 rfl) ?_
 refine VL.q (Q.loadA ty103 rfl zM zS) ?_
 refine VL.eff (O.call0 ok76 rfl rfl (by decide) (check_bcn D hD t f ht hf) (fun _ _ _ => trivial) ?_)
 intro x6 y6
 refine VL.quietE (v' := .bool false) (by decide) (Q.ne rfl rfl) (by rfl) ?_
 refine VL.q (Q.move rfl) ?_
 refine VL.yes rfl rfl ?_
 refine VL.q (Q.fieldAddr fa105_0 rfl) ?_
 refine VL.yes rfl rfl ?_
 refine VL.q (Q.loadA ty103 rfl zM zS) ?_
 refine VL.yes rfl rfl ?_
 refine VL.eff (O.call0 ok77 rfl rfl (by decide) (bare_bcn D t f ht hf) (fun _ _ _ => trivial) ?_)
 intro x11 y11
 refine VL.yes rfl rfl ?_
 refine VL.q (Q.move rfl) ?_
 refine VL.no (by simp) rfl rfl (.inl rfl) ?_
 refine VL.no (by simp) rfl rfl (.inl rfl) ?_
 refine VL.no (by simp) rfl rfl (.inl rfl) ?_
 refine VL.no (by simp) rfl rfl (.inl rfl) ?_
 refine VL.yes rfl rfl ?_
 refine VL.quietE (v' := .bool false) (by decide) (Q.pick_false rfl rfl) (by rfl) ?_
 refine VL.quietE (v' := .bool false) (by decide) (Q.pick_false rfl rfl) (by rfl) ?_
 refine VL.nil ?_
 refine VE.seq ?_
 refine VC.condF rfl ?_
 refine VC.skip ?_
 refine VE.seq ?_
 refine VC.seq ?_
 refine VC.seq ?_
 refine VC.region ?_
 refine VL.q (Q.fieldAddr fa105_1 rfl) ?_
 refine VL.q (Q.load1 ty23 rfl zM rfl) ?_
 refine VL.q (Q.len sl23 rfl) ?_
 refine VL.quietE (v' := .bool false) (by decide) (Q.gt rfl rfl) (congrArg Value.bool (decide_eq_false (by omega))) ?_
 refine VL.nil ?_
 refine VE.seq ?_
 refine VC.condF rfl ?_
 refine VC.skip ?_
 refine VE.seq ?_
 refine VC.seq ?_
 refine VA.start (Ls := [.blk g1 [.int .u8 0, .int .u8 8, .bool false, .bool false, .bool false, .bool false, .bool false, .bool false, .bool false, .int .i64 (D : Int), .int .u8 255, .int .u8 255, .int .u8 255, .int .u8 255, .int .u8 255, .int .u8 255, .int .u8 2, .int .u8 0, .int .u8 0, .int .u8 0, .int .u8 1, .int .u8 (f : Int), .int .u8 2, .int .u8 0, .int .u8 0, .int .u8 0, .int .u8 1, .int .u8 (f : Int), .int .u8 0, .int .u8 0, .int .u8 0, .int .u8 0, .int .u8 0, .int .u8 0, .int .i64 0, .int .i64 0, .int .i64 0, .int .u8 0, .bool false, .bool false, .slice p m c] 105]) (Cs := []) mixed ?_
 refine VA.take 0 rfl (by kernel_rfl) (by kernel_rfl) (by kernel_rfl) (Still.then Still.body) (List.singleton_sublist.2 zM) Cells.nil (by decide) (Quiet.c (Q.fieldAddr fa105_0 rfl)) ?_
 refine VA.take 1 rfl (by kernel_rfl) (by kernel_rfl) (by kernel_rfl) (Still.then Still.body) (List.singleton_sublist.2 zM) Cells.nil (by decide) (Quiet.c (Q.loadA ty103 rfl zM zS)) ?_
 refine VA.take 3 rfl (by kernel_rfl) (by kernel_rfl) (by kernel_rfl) (Still.then Still.body) (List.singleton_sublist.2 zM) Cells.nil (by decide) (Quiet.c (Q.fieldAddr fa105_1 rfl)) ?_
 refine VA.take 4 rfl (by kernel_rfl) (by kernel_rfl) (by kernel_rfl) (Still.then Still.body) (List.singleton_sublist.2 zM) Cells.nil (by decide) (Quiet.c (Q.load1 ty23 rfl zM rfl)) ?_
 refine VA.all (rs := [2]) (by kernel_rfl) (by simp) ?_
 refine VA.forall1 ?_
 ·
  refine VA.eff rfl ?_
  refine id (O.call0 ok144 rfl rfl (by decide) (write_bcn D hD t f ht hf) (fun _ _ _ => trivial) ?_)
  intro x25 y25
  refine VA.next (List.singleton_sublist.2 zM) Cells.nil ?_
  refine VA.all (rs := [5]) (by kernel_rfl) (by simp) ?_
  refine VA.forall1 ?_
  ·
   refine VA.eff rfl ?_
   refine id (O.append sl23 ze5 rfl (by decide) rfl rfl (by rw [bs_length]; omega) (bs_one l) (by decide) (by unfold maxLen; omega) (by omega) zA (fun _ ho _ => hro.only0 ho) ?_)
   intro p28 c28 hc28
   refine VA.next (List.singleton_sublist.2 zM) Cells.nil ?_
   refine VA.all (rs := [6]) (by kernel_rfl) (by simp) ?_
   refine VA.forall1 ?_
   ·
    refine VA.eff rfl ?_
    rw [← bs_append]
    refine id (O.call0 ok143 rfl rfl (by decide) (append_c _ _ _ (hb_bcn D t f ++ l) (by rw [List.length_append, hbl_bcn, hl]) (by omega)) (fun _ _ hw => Rd.row hw zM) ?_)
    intro x29 y29
    refine VA.next (List.singleton_sublist.2 zM) Cells.nil ?_
    refine VA.take 7 rfl (by kernel_rfl) (by kernel_rfl) (by kernel_rfl) (Still.then Still.body) (List.singleton_sublist.2 zM) Cells.nil (by decide) (Quiet.c (Q.assign rfl)) ?_
    refine VA.take 8 rfl (by kernel_rfl) (by kernel_rfl) (by kernel_rfl) (Still.then Still.body) (List.singleton_sublist.2 zM) Cells.nil (by decide) (Quiet.c (Q.assign rfl)) ?_
    refine VA.done (by kernel_rfl) ?_
    refine VE.seq ?_
    refine VC.ret ?_
    exact VE.ret rfl (.tmp rfl (.tmp rfl .nil)) x29 (by have := y29; simp only [List.length_append, hbl_bcn, hl] at this; have h4 : (crcBytes (hb_bcn D t f ++ l)).length = 4 := rfl; omega) rfl (by repeat (first | exact List.Sublist.refl _ | exact .cons_cons _ (List.nil_sublist _) | apply List.Sublist.cons))

end Go.Proofs.YtencghlmckbmlaaGreat
