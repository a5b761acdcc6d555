/- The contracts of package forward: Encode, Decode. Conditions: those that each bears. -/
import Derived.Test.YtencghlmckbmlaaGreatRows
import Derived.Test.YtencghlmckbmlaaGreatZFwd2
import Derived.Test.YtencghlmckbmlaaGreatZHead3
namespace Go.Proofs.YtencghlmckbmlaaGreat
open Go Go.RowKit Go.Sx
set_option maxRecDepth 100000

theorem ar265 : tyArr Tryz.prog 265 = some (6, 44, 6) := by kernel_rfl
theorem fa156_4 : tyField Tryz.prog 156 4 = some 24 := by kernel_rfl
theorem fa156_5 : tyField Tryz.prog 156 5 = some 30 := by kernel_rfl
theorem lay156 : laysOf Tryz.prog 156 = some ([.int .u8 0, .int .u8 0, .int .u8 0, .int .u8 0, .int .u8 0, .int .u8 0, .int .u8 0, .int .u8 0, .int .u8 0, .int .u8 0, .int .u8 0, .int .u8 0, .int .u8 0, .int .u8 0, .int .u8 0, .int .u8 0, .int .u8 0, .int .u8 0, .int .u8 0, .int .u8 0, .int .u8 0, .int .u8 0, .int .u8 0, .int .u8 0, .int .u8 0, .int .u8 0, .int .u8 0, .int .u8 0, .int .u8 0, .int .u8 0, .int .u8 0, .int .u8 0, .int .u8 0, .int .u8 0, .int .u8 0, .int .u8 0, .int .i64 0, .int .i64 0, .slice none 0 0], [(0, 6), (6, 6), (12, 6), (18, 6), (24, 6), (30, 6), (36, 1), (37, 1), (38, 1)]) := by kernel_rfl
theorem ok123 : okFunc Tryz.prog 123 = true := by kernel_rfl
theorem ok128 : okFunc Tryz.prog 128 = true := by kernel_rfl
theorem sl264 : tySlice Tryz.prog 264 = some (44, 6, 6) := by kernel_rfl
theorem ty156 : tySz Tryz.prog 156 = some (true, 39) := by kernel_rfl
theorem ze44 : (Tryz.prog.info? 44).bind (·.zero) = some (.agg #[.int .u8 0, .int .u8 0, .int .u8 0, .int .u8 0, .int .u8 0, .int .u8 0]) := by kernel_rfl
theorem zo156 : tyZero Tryz.prog 156 = some [.int .u8 0, .int .u8 0, .int .u8 0, .int .u8 0, .int .u8 0, .int .u8 0, .int .u8 0, .int .u8 0, .int .u8 0, .int .u8 0, .int .u8 0, .int .u8 0, .int .u8 0, .int .u8 0, .int .u8 0, .int .u8 0, .int .u8 0, .int .u8 0, .int .u8 0, .int .u8 0, .int .u8 0, .int .u8 0, .int .u8 0, .int .u8 0, .int .u8 0, .int .u8 0, .int .u8 0, .int .u8 0, .int .u8 0, .int .u8 0, .int .u8 0, .int .u8 0, .int .u8 0, .int .u8 0, .int .u8 0, .int .u8 0, .int .i64 0, .int .i64 0, .slice none 0 0] := by kernel_rfl
theorem zo265 : tyZero Tryz.prog 265 = some [.int .u8 0, .int .u8 0, .int .u8 0, .int .u8 0, .int .u8 0, .int .u8 0, .int .u8 0, .int .u8 0, .int .u8 0, .int .u8 0, .int .u8 0, .int .u8 0, .int .u8 0, .int .u8 0, .int .u8 0, .int .u8 0, .int .u8 0, .int .u8 0, .int .u8 0, .int .u8 0, .int .u8 0, .int .u8 0, .int .u8 0, .int .u8 0, .int .u8 0, .int .u8 0, .int .u8 0, .int .u8 0, .int .u8 0, .int .u8 0, .int .u8 0, .int .u8 0, .int .u8 0, .int .u8 0, .int .u8 0, .int .u8 0] := by kernel_rfl

def mfB (f t e lv q ttl : Nat) (l : List UInt8) : List UInt8 := [1, UInt8.ofNat ttl, UInt8.ofNat q, UInt8.ofNat (q / 256)] ++ nodeB f ++ nodeB t ++ nodeB e ++ nodeB lv ++ nodeB e ++ [2, 9, 9, 9, 9, 9] ++ l
theorem mfB_len (f t e lv q ttl : Nat) (l : List UInt8) : (mfB f t e lv q ttl l).length = 40 + l.length := by simp [mfB, nodeB]; omega
theorem mfB_bs (f t e lv q ttl : Nat) (hf : f ≤ 255) (ht : t ≤ 255) (he : e ≤ 255) (hlv : lv ≤ 255) (hq : q < 65536) (h1 : 1 ≤ ttl ∧ ttl ≤ 31) (l : List UInt8) : bs (mfB f t e lv q ttl l) = [.int .u8 1, .int .u8 (ttl : Int), .int .u8 ((q : Int) % 256), .int .u8 ((q : Int) / 256)] ++ [.int .u8 2, .int .u8 0, .int .u8 0, .int .u8 0, .int .u8 2, .int .u8 (f : Int)] ++ [.int .u8 2, .int .u8 0, .int .u8 0, .int .u8 0, .int .u8 2, .int .u8 (t : Int)] ++ [.int .u8 2, .int .u8 0, .int .u8 0, .int .u8 0, .int .u8 2, .int .u8 (e : Int)] ++ [.int .u8 2, .int .u8 0, .int .u8 0, .int .u8 0, .int .u8 2, .int .u8 (lv : Int)] ++ [.int .u8 2, .int .u8 0, .int .u8 0, .int .u8 0, .int .u8 2, .int .u8 (e : Int)] ++ [.int .u8 2, .int .u8 9, .int .u8 9, .int .u8 9, .int .u8 9, .int .u8 9] ++ bs l := by
  unfold mfB
  rw [bs_append, bs_append, bs_append, bs_append, bs_append, bs_append, bs_append, nodeB_bs f hf, nodeB_bs t ht, nodeB_bs e he, nodeB_bs lv hlv]
  have e1 : bs [1, UInt8.ofNat ttl, UInt8.ofNat q, UInt8.ofNat (q / 256)] = [.int .u8 1, .int .u8 (ttl : Int), .int .u8 ((q : Int) % 256), .int .u8 ((q : Int) / 256)] := by
    simp [bs]
    omega
  rw [e1]
  rfl
theorem mfB_cells (f t e lv q ttl : Nat) (hf : f ≤ 255) (ht : t ≤ 255) (he : e ≤ 255) (hlv : lv ≤ 255) (hq : q < 65536) (h1 : 1 ≤ ttl ∧ ttl ≤ 31) (l : List UInt8) : bs (mfB f t e lv q ttl l) = [.int .u8 1, .int .u8 (ttl : Int), .int .u8 ((q : Int) % 256), .int .u8 ((q : Int) / 256), .int .u8 2, .int .u8 0, .int .u8 0, .int .u8 0, .int .u8 2, .int .u8 (f : Int), .int .u8 2, .int .u8 0, .int .u8 0, .int .u8 0, .int .u8 2, .int .u8 (t : Int), .int .u8 2, .int .u8 0, .int .u8 0, .int .u8 0, .int .u8 2, .int .u8 (e : Int), .int .u8 2, .int .u8 0, .int .u8 0, .int .u8 0, .int .u8 2, .int .u8 (lv : Int), .int .u8 2, .int .u8 0, .int .u8 0, .int .u8 0, .int .u8 2, .int .u8 (e : Int), .int .u8 2, .int .u8 9, .int .u8 9, .int .u8 9, .int .u8 9, .int .u8 9] ++ bs l := mfB_bs f t e lv q ttl hf ht he hlv hq h1 l

theorem fencode_c (f t e lv q ttl : Nat) (hf : f ≤ 255) (ht : t ≤ 255) (he : e ≤ 255) (hlv : lv ≤ 255) (hq : q < 65536) (h1 : 1 ≤ ttl ∧ ttl ≤ 31) (p : Option Addr) (m c : Nat) (l : List UInt8) (hl : l.length = m) (hm : m ≤ 2264) :
  Does Tryz.prog 48 [.agg #[.int .u8 2, .int .u8 0, .int .u8 0, .int .u8 0, .int .u8 2, .int .u8 (f : Int), .int .u8 2, .int .u8 0, .int .u8 0, .int .u8 0, .int .u8 2, .int .u8 (t : Int), .int .u8 2, .int .u8 0, .int .u8 0, .int .u8 0, .int .u8 2, .int .u8 (e : Int), .int .u8 2, .int .u8 0, .int .u8 0, .int .u8 0, .int .u8 2, .int .u8 (lv : Int), .int .u8 2, .int .u8 0, .int .u8 0, .int .u8 0, .int .u8 2, .int .u8 (e : Int), .int .u8 2, .int .u8 9, .int .u8 9, .int .u8 9, .int .u8 9, .int .u8 9, .int .i64 (q : Int), .int .i64 (ttl : Int), .slice p m c]] [] (fun W => Rd W p (bs l)) (X := Option Addr × Nat) (fun x => 40 + m ≤ x.2) (fun x => .tuple #[.slice x.1 (40 + m) x.2, .int .i64 0]) (fun x => [.row (.slice x.1 (40 + m) x.2) 5 1 (40 + m) (bs (mfB f t e lv q ttl l))]) := by
 refine Does.enter Tryz.func48 rfl (m := 69) rfl (by simp) ?_
 intro W0 hro
 refine VC.seq ?_
 refine VC.region ?_
 refine VL.eff (O.box rfl rfl (by decide) ?_)
 intro g1
 refine VL.q (Q.assign rfl) ?_
 refine VL.q (Q.assign rfl) ?_
 refine VL.nil ?_
 refine VE.seq ?_
 refine VC.seq ?_
 refine VC.seq ?_
 refine VC.region ?_
 refine VL.q (Q.loadA ty156 rfl zM zS) ?_
 refine VL.eff (O.call0 ok128 rfl rfl (by decide) (checkframe_c f t e lv q ttl p m c hq h1 hm) (fun _ _ _ => trivial) ?_)
 intro x10 y10
 refine VL.q (Q.assign rfl) ?_
 refine VL.nil ?_
 refine VE.seq ?_
 refine VC.seq ?_
 refine VC.region ?_
 refine VL.q (Q.move rfl) ?_
 refine VL.quietE (v' := .bool false) (by decide) (Q.ne rfl rfl) (by rfl) ?_
 refine VL.nil ?_
 refine VE.seq ?_
 refine VC.condF rfl ?_
 refine VC.skip ?_
 refine VE.seq ?_
 refine VC.seq ?_
 refine VC.region ?_
 refine VL.q (Q.fieldAddr fa156_7 rfl) ?_
 refine VL.q (Q.load1 ty3 rfl zM rfl) ?_
 refine VL.q ((by first | exact Q.convF ti3 ti5 rfl (by simp only [klo]; omega) (by simp only [khi]; omega) | exact Q.convM (M := 256) ti3 ti5 rfl rfl rfl | exact Q.conv ti3 ti5 rfl)) ?_
 refine VL.q (Q.fieldAddr fa156_6 rfl) ?_
 refine VL.q (Q.load1 ty3 rfl zM rfl) ?_
 refine VL.q ((by first | exact Q.convF ti3 ti5 rfl (by simp only [klo]; omega) (by simp only [khi]; omega) | exact Q.convM (M := 256) ti3 ti5 rfl rfl rfl | exact Q.conv ti3 ti5 rfl)) ?_
 refine VL.q (Q.fieldAddr fa156_6 rfl) ?_
 refine VL.q (Q.load1 ty3 rfl zM rfl) ?_
 refine VL.q (Q.shrC (s := 8) (m := 256) rfl rfl (by decide) (by decide)) ?_
 refine VL.q ((by first | exact Q.convF ti3 ti5 rfl (by simp only [klo]; omega) (by simp only [khi]; omega) | exact Q.convM (M := 256) ti3 ti5 rfl rfl rfl | exact Q.conv ti3 ti5 rfl)) ?_
 refine VL.eff (O.buildSlice sl23 ze5 (by decide) zF (by decide) ?_)
 intro g24
 refine VL.q (Q.assign rfl) ?_
 refine VL.nil ?_
 refine VE.seq ?_
 refine VC.seq ?_
 refine VC.region ?_
 refine VL.q (Q.fieldAddr fa156_0 rfl) ?_
 refine VL.q (Q.loadA ty44 rfl zM zS) ?_
 refine VL.q (Q.fieldAddr fa156_1 rfl) ?_
 refine VL.q (Q.loadA ty44 rfl zM zS) ?_
 refine VL.q (Q.fieldAddr fa156_2 rfl) ?_
 refine VL.q (Q.loadA ty44 rfl zM zS) ?_
 refine VL.q (Q.fieldAddr fa156_3 rfl) ?_
 refine VL.q (Q.loadA ty44 rfl zM zS) ?_
 refine VL.eff (O.buildSlice sl264 ze44 (by decide) zF (by decide) ?_)
 intro g33
 refine VL.q (Q.assign rfl) ?_
 refine VL.nil ?_
 refine VE.seq ?_
 refine VC.seq ?_
 refine VC.seq ?_
 refine VC.region ?_
 refine VL.q (Q.fieldAddr fa156_4 rfl) ?_
 refine VL.q (Q.loadA ty44 rfl zM zS) ?_
 refine VL.q (Q.fieldAddr fa156_2 rfl) ?_
 refine VL.q (Q.loadA ty44 rfl zM zS) ?_
 refine VL.quietE (v' := .bool false) (by decide) (Q.neS flt44 (by decide) ty44 eg44 rfl rfl rfl rfl) (congrArg (fun b => Value.bool (!b)) ((node_eq e e).trans (decide_eq_true rfl))) ?_
 refine VL.q (Q.move rfl) ?_
 refine VL.yes rfl rfl ?_
 refine VL.q (Q.fieldAddr fa156_5 rfl) ?_
 refine VL.yes rfl rfl ?_
 refine VL.q (Q.loadA ty44 rfl zM zS) ?_
 refine VL.yes rfl rfl ?_
 refine VL.q (Q.fieldAddr fa156_3 rfl) ?_
 refine VL.yes rfl rfl ?_
 refine VL.q (Q.loadA ty44 rfl zM zS) ?_
 refine VL.yes rfl rfl ?_
 refine VL.quietE (v' := .bool true) (by decide) (Q.neS flt44 (by decide) ty44 eg44 rfl rfl rfl rfl) (by rfl) ?_
 refine VL.quietE (v' := .bool true) (by decide) (Q.pick_false rfl rfl) (by rfl) ?_
 refine VL.nil ?_
 refine VE.seq ?_
 refine VC.condT rfl ?_
 refine VC.seq ?_
 refine VK.keep (by exact .cons (i := 1) rfl (.cons (i := 2) rfl (.cons (i := 3) rfl (.cons (i := 5) rfl (.cons (i := 6) rfl ( .nil)))))) ?_
 refine VC.region ?_
 refine VL.q (Q.move rfl) ?_
 refine VL.q (Q.indexAddr sl23 (j := 0) rfl rfl rfl (by omega)) ?_
 refine VL.eff (O.store ty5 rfl rfl rfl rfl zU zP ?_)
 refine VL.nil ?_
 refine VE.seq ?_
 refine VC.region ?_
 refine VL.q (Q.move rfl) ?_
 refine VK.toRow (g := g33) (s := 6) (m := 4) (c := 4) zU rfl (by omega) (by unfold maxLen; omega) ?_
 refine VL.q (Q.fieldAddr fa156_4 rfl) ?_
 refine VL.q (Q.loadA ty44 rfl zM zS) ?_
 refine VL.q (Q.fieldAddr fa156_5 rfl) ?_
 refine VL.q (Q.loadA ty44 rfl zM zS) ?_
 refine VL.eff (O.buildSlice sl264 ze44 (by decide) zF (by decide) ?_)
 intro g53
 refine VL.eff (O.appendS sl264 ze44 rfl (by decide) rfl rfl zM zS rfl (by decide) (by unfold maxLen; omega) (by omega) zA ?_)
 intro pL cL hL
 refine VK.rowHead (m := 6) (p := pL) (c := cL) zM (by decide) ?_
 intro gL hgL _ _
 subst hgL
 refine VL.q (Q.assign rfl) ?_
 refine VL.nil ?_
 refine VE.seq ?_
 refine VC.seq ?_
 refine VC.seq ?_
 refine VC.region ?_
 refine VL.q (Q.move rfl) ?_
 refine VK.toRow (g := g24) (s := 1) (m := 4) (c := 4) zU rfl (by omega) (by unfold maxLen; omega) ?_
 refine VL.q (Q.len sl264 rfl) ?_
 refine VL.q (Q.move rfl) ?_
 refine VL.nil ?_
 refine VE.seq ?_
 refine VC.block ?_
 refine VC.rounds 40 ?_
 refine VC.rnd (m := 39) ?_
 refine VC.seq ?_
 refine VC.region ?_
 refine VL.q (Q.lt rfl rfl) ?_
 refine VL.nil ?_
 refine VE.seq ?_
 refine VC.seq ?_
 refine VC.condT rfl ?_
 refine VC.skip ?_
 refine VE.seq ?_
 refine VC.seq ?_
 refine VC.block ?_
 refine VC.seq ?_
 refine VC.region ?_
 refine VL.q (Q.indexAddr sl264 (j := 0) rfl rfl rfl (by omega)) ?_
 refine VL.q (Q.loadRowA ty44 rfl zM zS) ?_
 refine VL.eff (O.alloc zo44 (by decide) ?_)
 intro g8
 refine VL.eff (O.store ty44 rfl rfl rfl rfl zU zP ?_)
 refine VL.nil ?_
 refine VE.seq ?_
 refine VC.region ?_
 refine VL.q (Q.move rfl) ?_
 refine VL.q (Q.slcA0 ar44 (h := _) rfl rfl (by omega)) ?_
 refine VL.eff (O.appendS sl23 ze5 rfl (by decide) rfl rfl zM zS rfl (by decide) (by unfold maxLen; omega) (by omega) zA ?_)
 intro p63 c63 hc63
 refine VL.q (Q.assign rfl) ?_
 refine VL.nil ?_
 refine VE.block_normal ?_
 refine VE.seq ?_
 refine VC.region ?_
 refine VL.quietE (v' := .int .i64 1) (by decide) ((by first | exact Q.addI rfl rfl (by omega) (by omega) | exact Q.add rfl rfl)) (by rfl) ?_
 refine VL.q (Q.move rfl) ?_
 refine VL.nil ?_
 refine VE.then_normal ?_
 refine VC.rnd (m := 38) ?_
 refine VC.seq ?_
 refine VC.region ?_
 refine VL.q (Q.lt rfl rfl) ?_
 refine VL.nil ?_
 refine VE.seq ?_
 refine VC.seq ?_
 refine VC.condT rfl ?_
 refine VC.skip ?_
 refine VE.seq ?_
 refine VC.seq ?_
 refine VC.block ?_
 refine VC.seq ?_
 refine VC.region ?_
 refine VL.q (Q.indexAddr sl264 (j := 1) rfl rfl rfl (by omega)) ?_
 refine VL.q (Q.loadRowA ty44 rfl zM zS) ?_
 refine VL.eff (O.alloc zo44 (by decide) ?_)
 intro g8_1
 refine VL.eff (O.store ty44 rfl rfl rfl rfl zU zP ?_)
 refine VL.nil ?_
 refine VE.seq ?_
 refine VC.region ?_
 refine VL.q (Q.move rfl) ?_
 refine VL.q (Q.slcA0 ar44 (h := _) rfl rfl (by omega)) ?_
 refine VL.eff (O.appendS sl23 ze5 rfl (by decide) rfl rfl zM zS rfl (by decide) (by unfold maxLen; omega) (by omega) zA ?_)
 intro p63_1 c63_1 hc63_1
 refine VL.q (Q.assign rfl) ?_
 refine VL.nil ?_
 refine VE.block_normal ?_
 refine VE.seq ?_
 refine VC.region ?_
 refine VL.quietE (v' := .int .i64 2) (by decide) ((by first | exact Q.addI rfl rfl (by omega) (by omega) | exact Q.add rfl rfl)) (by rfl) ?_
 refine VL.q (Q.move rfl) ?_
 refine VL.nil ?_
 refine VE.then_normal ?_
 refine VC.rnd (m := 37) ?_
 refine VC.seq ?_
 refine VC.region ?_
 refine VL.q (Q.lt rfl rfl) ?_
 refine VL.nil ?_
 refine VE.seq ?_
 refine VC.seq ?_
 refine VC.condT rfl ?_
 refine VC.skip ?_
 refine VE.seq ?_
 refine VC.seq ?_
 refine VC.block ?_
 refine VC.seq ?_
 refine VC.region ?_
 refine VL.q (Q.indexAddr sl264 (j := 2) rfl rfl rfl (by omega)) ?_
 refine VL.q (Q.loadRowA ty44 rfl zM zS) ?_
 refine VL.eff (O.alloc zo44 (by decide) ?_)
 intro g8_2
 refine VL.eff (O.store ty44 rfl rfl rfl rfl zU zP ?_)
 refine VL.nil ?_
 refine VE.seq ?_
 refine VC.region ?_
 refine VL.q (Q.move rfl) ?_
 refine VL.q (Q.slcA0 ar44 (h := _) rfl rfl (by omega)) ?_
 refine VL.eff (O.appendS sl23 ze5 rfl (by decide) rfl rfl zM zS rfl (by decide) (by unfold maxLen; omega) (by omega) zA ?_)
 intro p63_2 c63_2 hc63_2
 refine VL.q (Q.assign rfl) ?_
 refine VL.nil ?_
 refine VE.block_normal ?_
 refine VE.seq ?_
 refine VC.region ?_
 refine VL.quietE (v' := .int .i64 3) (by decide) ((by first | exact Q.addI rfl rfl (by omega) (by omega) | exact Q.add rfl rfl)) (by rfl) ?_
 refine VL.q (Q.move rfl) ?_
 refine VL.nil ?_
 refine VE.then_normal ?_
 refine VC.rnd (m := 36) ?_
 refine VC.seq ?_
 refine VC.region ?_
 refine VL.q (Q.lt rfl rfl) ?_
 refine VL.nil ?_
 refine VE.seq ?_
 refine VC.seq ?_
 refine VC.condT rfl ?_
 refine VC.skip ?_
 refine VE.seq ?_
 refine VC.seq ?_
 refine VC.block ?_
 refine VC.seq ?_
 refine VC.region ?_
 refine VL.q (Q.indexAddr sl264 (j := 3) rfl rfl rfl (by omega)) ?_
 refine VL.q (Q.loadRowA ty44 rfl zM zS) ?_
 refine VL.eff (O.alloc zo44 (by decide) ?_)
 intro g8_3
 refine VL.eff (O.store ty44 rfl rfl rfl rfl zU zP ?_)
 refine VL.nil ?_
 refine VE.seq ?_
 refine VC.region ?_
 refine VL.q (Q.move rfl) ?_
 refine VL.q (Q.slcA0 ar44 (h := _) rfl rfl (by omega)) ?_
 refine VL.eff (O.appendS sl23 ze5 rfl (by decide) rfl rfl zM zS rfl (by decide) (by unfold maxLen; omega) (by omega) zA ?_)
 intro p63_3 c63_3 hc63_3
 refine VL.q (Q.assign rfl) ?_
 refine VL.nil ?_
 refine VE.block_normal ?_
 refine VE.seq ?_
 refine VC.region ?_
 refine VL.quietE (v' := .int .i64 4) (by decide) ((by first | exact Q.addI rfl rfl (by omega) (by omega) | exact Q.add rfl rfl)) (by rfl) ?_
 refine VL.q (Q.move rfl) ?_
 refine VL.nil ?_
 refine VE.then_normal ?_
 refine VC.rnd (m := 35) ?_
 refine VC.seq ?_
 refine VC.region ?_
 refine VL.q (Q.lt rfl rfl) ?_
 refine VL.nil ?_
 refine VE.seq ?_
 refine VC.seq ?_
 refine VC.condT rfl ?_
 refine VC.skip ?_
 refine VE.seq ?_
 refine VC.seq ?_
 refine VC.block ?_
 refine VC.seq ?_
 refine VC.region ?_
 refine VL.q (Q.indexAddr sl264 (j := 4) rfl rfl rfl (by omega)) ?_
 refine VL.q (Q.loadRowA ty44 rfl zM zS) ?_
 refine VL.eff (O.alloc zo44 (by decide) ?_)
 intro g8_4
 refine VL.eff (O.store ty44 rfl rfl rfl rfl zU zP ?_)
 refine VL.nil ?_
 refine VE.seq ?_
 refine VC.region ?_
 refine VL.q (Q.move rfl) ?_
 refine VL.q (Q.slcA0 ar44 (h := _) rfl rfl (by omega)) ?_
 refine VL.eff (O.appendS sl23 ze5 rfl (by decide) rfl rfl zM zS rfl (by decide) (by unfold maxLen; omega) (by omega) zA ?_)
 intro p63_4 c63_4 hc63_4
 refine VL.q (Q.assign rfl) ?_
 refine VL.nil ?_
 refine VE.block_normal ?_
 refine VE.seq ?_
 refine VC.region ?_
 refine VL.quietE (v' := .int .i64 5) (by decide) ((by first | exact Q.addI rfl rfl (by omega) (by omega) | exact Q.add rfl rfl)) (by rfl) ?_
 refine VL.q (Q.move rfl) ?_
 refine VL.nil ?_
 refine VE.then_normal ?_
 refine VC.rnd (m := 34) ?_
 refine VC.seq ?_
 refine VC.region ?_
 refine VL.q (Q.lt rfl rfl) ?_
 refine VL.nil ?_
 refine VE.seq ?_
 refine VC.seq ?_
 refine VC.condT rfl ?_
 refine VC.skip ?_
 refine VE.seq ?_
 refine VC.seq ?_
 refine VC.block ?_
 refine VC.seq ?_
 refine VC.region ?_
 refine VL.q (Q.indexAddr sl264 (j := 5) rfl rfl rfl (by omega)) ?_
 refine VL.q (Q.loadRowA ty44 rfl zM zS) ?_
 refine VL.eff (O.alloc zo44 (by decide) ?_)
 intro g8_5
 refine VL.eff (O.store ty44 rfl rfl rfl rfl zU zP ?_)
 refine VL.nil ?_
 refine VE.seq ?_
 refine VC.region ?_
 refine VL.q (Q.move rfl) ?_
 refine VL.q (Q.slcA0 ar44 (h := _) rfl rfl (by omega)) ?_
 refine VL.eff (O.appendS sl23 ze5 rfl (by decide) rfl rfl zM zS rfl (by decide) (by unfold maxLen; omega) (by omega) zA ?_)
 intro p63_5 c63_5 hc63_5
 refine VL.q (Q.assign rfl) ?_
 refine VL.nil ?_
 refine VE.block_normal ?_
 refine VE.seq ?_
 refine VC.region ?_
 refine VL.quietE (v' := .int .i64 6) (by decide) ((by first | exact Q.addI rfl rfl (by omega) (by omega) | exact Q.add rfl rfl)) (by rfl) ?_
 refine VL.q (Q.move rfl) ?_
 refine VL.nil ?_
 refine VE.then_normal ?_
 refine VC.rnd (m := 33) ?_
 refine VC.seq ?_
 refine VC.region ?_
 refine VL.q (Q.lt rfl rfl) ?_
 refine VL.nil ?_
 refine VE.seq ?_
 refine VC.seq ?_
 refine VC.condF rfl ?_
 refine VC.exit ?_
 refine VE.then_exit ?_
 refine VE.then_exit ?_
 refine VE.block_here ?_
 refine VE.seq ?_
 refine VC.seq ?_
 refine VC.region ?_
 refine VL.q (Q.move rfl) ?_
 refine VL.q (Q.fieldAddr fa156_8 rfl) ?_
 refine VL.q (Q.load1 ty23 rfl zM rfl) ?_
 refine VL.eff (O.append sl23 ze5 rfl (by decide) rfl rfl (by rw [bs_length]; omega) (bs_one l) (by decide) (by unfold maxLen; omega) (by omega) zA (fun _ ho _ => hro.only0 ho) ?_)
 intro pE cE hE
 refine VL.q (Q.assign rfl) ?_
 refine VL.q (Q.assign rfl) ?_
 refine VL.nil ?_
 refine VE.seq ?_
 refine VC.ret ?_
 rw [mfB_bs f t e lv q ttl hf ht he hlv hq h1 l]
 exact VE.ret rfl (.tmp rfl (.tmp rfl .nil)) (pE, cE) hE rfl zB

theorem fdecode_c (f t e lv q ttl : Nat) (hf : f ≤ 255) (ht : t ≤ 255) (he : e ≤ 255) (hlv : lv ≤ 255) (hq : q < 65536) (h1 : 1 ≤ ttl ∧ ttl ≤ 31) (p : Option Addr) (m c : Nat) (l : List UInt8) (hl : l.length = m) (hm : m ≤ 2264) (hc : 40 + m ≤ c) :
  Does Tryz.prog 49 [.slice p (40 + m) c] [] (fun W => Rd W p (bs (mfB f t e lv q ttl l))) (X := Option Addr × Nat) (fun x => m ≤ x.2) (fun x => .tuple #[.agg #[.int .u8 2, .int .u8 0, .int .u8 0, .int .u8 0, .int .u8 2, .int .u8 (f : Int), .int .u8 2, .int .u8 0, .int .u8 0, .int .u8 0, .int .u8 2, .int .u8 (t : Int), .int .u8 2, .int .u8 0, .int .u8 0, .int .u8 0, .int .u8 2, .int .u8 (e : Int), .int .u8 2, .int .u8 0, .int .u8 0, .int .u8 0, .int .u8 2, .int .u8 (lv : Int), .int .u8 2, .int .u8 0, .int .u8 0, .int .u8 0, .int .u8 2, .int .u8 (e : Int), .int .u8 2, .int .u8 9, .int .u8 9, .int .u8 9, .int .u8 9, .int .u8 9, .int .i64 (q : Int), .int .i64 (ttl : Int), .slice x.1 m x.2], .int .i64 0]) (fun x => [.row (.slice x.1 m x.2) 5 1 m (bs l)]) := by
 refine Does.enter Tryz.func49 rfl (m := 106) rfl (by simp) ?_
 intro W0 hro
 obtain ⟨b, o, rfl⟩ := hro.pos (by rw [bs_length, mfB_len]; omega)
 have hro' := hro
 rw [mfB_cells f t e lv q ttl hf ht he hlv hq h1 l] at hro'
 have hrl : Rd W0 (some ⟨b, sliceOff c 40 o 1, none⟩) (bs l) := by
  by_cases h0 : m = 0
  ·
   have : l = [] := List.eq_nil_of_length_eq_zero (by omega)
   subst this
   exact Rd.nil
  ·
   rw [sliceOff_lt (by omega)]
   have := hro'.drop 40
   exact this
 refine VC.seq ?_
 refine VC.region ?_
 refine VL.eff (O.alloc zo156 (by decide) ?_)
 intro g2
 refine VL.q (Q.assign rfl) ?_
 refine VL.nil ?_
 refine VE.seq ?_
 refine VC.seq ?_
 refine VC.region ?_
 refine VL.q (Q.assign rfl) ?_
 refine VL.nil ?_
 refine VE.seq ?_
 refine VC.seq ?_
 refine VC.seq ?_
 refine VC.region ?_
 refine VL.q (Q.move rfl) ?_
 refine VL.q (Q.len sl23 rfl) ?_
 refine VL.quietE (v' := .bool true) (by decide) (Q.gt rfl rfl) (congrArg Value.bool (decide_eq_true (by omega))) ?_
 refine VL.q (Q.move rfl) ?_
 refine VL.yes rfl rfl ?_
 refine VL.q (Q.move rfl) ?_
 refine VL.yes rfl rfl ?_
 refine VL.q (Q.indexAddr sl23 (j := 0) rfl rfl rfl (by omega)) ?_
 refine VL.yes rfl rfl ?_
 refine VL.q (Q.load0 ty5 rfl (Rd.at (j := 0) hro' rfl) (by simp)) ?_
 refine VL.yes rfl rfl ?_
 refine VL.quietE (v' := .bool true) (by decide) (Q.eq rfl rfl) (by rfl) ?_
 refine VL.quietE (v' := .bool true) (by decide) (Q.pick_true rfl rfl) (by rfl) ?_
 refine VL.nil ?_
 refine VE.seq ?_
 refine VC.condT rfl ?_
 refine VC.region ?_
 refine VL.q (Q.assign rfl) ?_
 refine VL.nil ?_
 refine VE.seq ?_
 refine VC.seq ?_
 refine VC.seq ?_
 refine VC.region ?_
 refine VL.q (Q.move rfl) ?_
 refine VL.q (Q.len sl23 rfl) ?_
 refine VL.q (Q.move rfl) ?_
 refine VL.quietE (v' := .bool false) (by decide) (Q.lt rfl rfl) (congrArg Value.bool (decide_eq_false (by omega))) ?_
 refine VL.nil ?_
 refine VE.seq ?_
 refine VC.condF rfl ?_
 refine VC.skip ?_
 refine VE.seq ?_
 refine VC.seq ?_
 refine VC.region ?_
 refine VL.eff (O.alloc zo265 (by decide) ?_)
 intro g5
 refine VL.nil ?_
 refine VE.seq ?_
 refine VC.seq ?_
 refine VC.seq ?_
 refine VC.region ?_
 refine VL.q (Q.move rfl) ?_
 refine VL.quietE (v' := .int .i64 36) (by decide) ((by first | exact Q.subI rfl rfl (by omega) (by omega) | exact Q.sub rfl rfl)) (by rfl) ?_
 refine VL.quietE (v' := .int .i64 6) (by decide) (Q.quo rfl rfl (by omega) (by omega) (by simp only [khi]; omega)) (by rfl) ?_
 refine VL.q (Q.move rfl) ?_
 refine VL.nil ?_
 refine VE.seq ?_
 refine VC.block ?_
 refine VC.rounds 40 ?_
 refine VC.rnd (m := 39) ?_
 refine VC.seq ?_
 refine VC.region ?_
 refine VL.quietE (v' := .bool true) (by decide) (Q.lt rfl rfl) (by rfl) ?_
 refine VL.nil ?_
 refine VE.seq ?_
 refine VC.seq ?_
 refine VC.condT rfl ?_
 refine VC.skip ?_
 refine VE.seq ?_
 refine VC.seq ?_
 refine VC.block ?_
 refine VC.seq ?_
 refine VC.region ?_
 refine VL.q (Q.move rfl) ?_
 refine VL.q (Q.assign rfl) ?_
 refine VL.nil ?_
 refine VE.seq ?_
 refine VA.start (Ls := []) (Cs := []) mixed ?_
 refine VA.tk 0 rfl (Still.block (Still.then (Still.then (Still.block (Still.then Still.body))))) (List.nil_sublist _) Cells.nil (Quiet.c (Q.move rfl)) ?_
 refine VA.tk 1 rfl (Still.block (Still.then (Still.then (Still.block (Still.then Still.body))))) (List.nil_sublist _) Cells.nil (Quiet.c (Q.indexAddrA ar265 (j := 0) rfl rfl rfl (by omega))) ?_
 refine VA.tk 2 rfl (Still.block (Still.then (Still.then (Still.block (Still.then Still.body))))) (List.nil_sublist _) Cells.nil (Quiet.c (Q.slcA0 ar44 (h := _) rfl rfl (by omega))) ?_
 refine VA.tk 3 rfl (Still.block (Still.then (Still.then (Still.block (Still.then Still.body))))) (List.nil_sublist _) Cells.nil (Quiet.c (Q.move rfl)) ?_
 refine VA.tk 4 rfl (Still.block (Still.then (Still.then (Still.block (Still.then Still.body))))) (List.nil_sublist _) Cells.nil (Quiet.c (Q.move rfl)) ?_
 refine VA.tk 5 rfl (Still.block (Still.then (Still.then (Still.block (Still.then Still.body))))) (List.nil_sublist _) Cells.nil (Quiet.c ((by first | exact Q.mulI rfl rfl (by omega) (by omega) | exact Q.mul rfl rfl))) ?_
 refine VA.tk 6 rfl (Still.block (Still.then (Still.then (Still.block (Still.then Still.body))))) (List.nil_sublist _) Cells.nil (Quiet.c ((by first | exact Q.addI rfl rfl (by omega) (by omega) | exact Q.add rfl rfl))) ?_
 refine VA.tk 7 rfl (Still.block (Still.then (Still.then (Still.block (Still.then Still.body))))) (List.nil_sublist _) Cells.nil (Quiet.c (Q.slcL sl23 (l := 4) (h := _) rfl ⟨_, _, rfl, rfl⟩ rfl (by omega) (by omega) (by omega))) ?_
 refine VA.all (rs := [8]) (by kernel_rfl) (by simp) ?_
 refine VA.forall1 ?_
 ·
  refine VA.eff rfl ?_
  refine id (O.copy (news := [.int .u8 2, .int .u8 0, .int .u8 0, .int .u8 0, .int .u8 2, .int .u8 (f : Int)]) sl23 rfl rfl (by simp only [List.length_cons, List.length_nil]; omega) rfl (by decide) (fun _ ho _ => (hro'.ofSeg zS).only0 ho) zU zP ?_)
  refine VA.next (List.nil_sublist _) Cells.nil ?_
  refine VA.done (by kernel_rfl) ?_
  refine VE.block_normal ?_
  refine VE.seq ?_
  refine VC.region ?_
  refine VL.quietE (v' := .int .i64 1) (by decide) ((by first | exact Q.addI rfl rfl (by omega) (by omega) | exact Q.add rfl rfl)) (by rfl) ?_
  refine VL.q (Q.move rfl) ?_
  refine VL.nil ?_
  refine VE.then_normal ?_
  refine VC.rnd (m := 38) ?_
  refine VC.seq ?_
  refine VC.region ?_
  refine VL.quietE (v' := .bool true) (by decide) (Q.lt rfl rfl) (by rfl) ?_
  refine VL.nil ?_
  refine VE.seq ?_
  refine VC.seq ?_
  refine VC.condT rfl ?_
  refine VC.skip ?_
  refine VE.seq ?_
  refine VC.seq ?_
  refine VC.block ?_
  refine VC.seq ?_
  refine VC.region ?_
  refine VL.q (Q.move rfl) ?_
  refine VL.q (Q.assign rfl) ?_
  refine VL.nil ?_
  refine VE.seq ?_
  refine VA.start (Ls := []) (Cs := []) mixed ?_
  refine VA.tk 0 rfl (Still.block (Still.then (Still.then (Still.block (Still.then Still.body))))) (List.nil_sublist _) Cells.nil (Quiet.c (Q.move rfl)) ?_
  refine VA.tk 1 rfl (Still.block (Still.then (Still.then (Still.block (Still.then Still.body))))) (List.nil_sublist _) Cells.nil (Quiet.c (Q.indexAddrA ar265 (j := 1) rfl rfl rfl (by omega))) ?_
  refine VA.tk 2 rfl (Still.block (Still.then (Still.then (Still.block (Still.then Still.body))))) (List.nil_sublist _) Cells.nil (Quiet.c (Q.slcA0 ar44 (h := _) rfl rfl (by omega))) ?_
  refine VA.tk 3 rfl (Still.block (Still.then (Still.then (Still.block (Still.then Still.body))))) (List.nil_sublist _) Cells.nil (Quiet.c (Q.move rfl)) ?_
  refine VA.tk 4 rfl (Still.block (Still.then (Still.then (Still.block (Still.then Still.body))))) (List.nil_sublist _) Cells.nil (Quiet.c (Q.move rfl)) ?_
  refine VA.tk 5 rfl (Still.block (Still.then (Still.then (Still.block (Still.then Still.body))))) (List.nil_sublist _) Cells.nil (Quiet.c ((by first | exact Q.mulI rfl rfl (by omega) (by omega) | exact Q.mul rfl rfl))) ?_
  refine VA.tk 6 rfl (Still.block (Still.then (Still.then (Still.block (Still.then Still.body))))) (List.nil_sublist _) Cells.nil (Quiet.c ((by first | exact Q.addI rfl rfl (by omega) (by omega) | exact Q.add rfl rfl))) ?_
  refine VA.tk 7 rfl (Still.block (Still.then (Still.then (Still.block (Still.then Still.body))))) (List.nil_sublist _) Cells.nil (Quiet.c (Q.slcL sl23 (l := 10) (h := _) rfl ⟨_, _, rfl, rfl⟩ rfl (by omega) (by omega) (by omega))) ?_
  refine VA.all (rs := [8]) (by kernel_rfl) (by simp) ?_
  refine VA.forall1 ?_
  ·
   refine VA.eff rfl ?_
   refine id (O.copy (news := [.int .u8 2, .int .u8 0, .int .u8 0, .int .u8 0, .int .u8 2, .int .u8 (t : Int)]) sl23 rfl rfl (by simp only [List.length_cons, List.length_nil]; omega) rfl (by decide) (fun _ ho _ => (hro'.ofSeg zS).only0 ho) zU zP ?_)
   refine VA.next (List.nil_sublist _) Cells.nil ?_
   refine VA.done (by kernel_rfl) ?_
   refine VE.block_normal ?_
   refine VE.seq ?_
   refine VC.region ?_
   refine VL.quietE (v' := .int .i64 2) (by decide) ((by first | exact Q.addI rfl rfl (by omega) (by omega) | exact Q.add rfl rfl)) (by rfl) ?_
   refine VL.q (Q.move rfl) ?_
   refine VL.nil ?_
   refine VE.then_normal ?_
   refine VC.rnd (m := 37) ?_
   refine VC.seq ?_
   refine VC.region ?_
   refine VL.quietE (v' := .bool true) (by decide) (Q.lt rfl rfl) (by rfl) ?_
   refine VL.nil ?_
   refine VE.seq ?_
   refine VC.seq ?_
   refine VC.condT rfl ?_
   refine VC.skip ?_
   refine VE.seq ?_
   refine VC.seq ?_
   refine VC.block ?_
   refine VC.seq ?_
   refine VC.region ?_
   refine VL.q (Q.move rfl) ?_
   refine VL.q (Q.assign rfl) ?_
   refine VL.nil ?_
   refine VE.seq ?_
   refine VA.start (Ls := []) (Cs := []) mixed ?_
   refine VA.tk 0 rfl (Still.block (Still.then (Still.then (Still.block (Still.then Still.body))))) (List.nil_sublist _) Cells.nil (Quiet.c (Q.move rfl)) ?_
   refine VA.tk 1 rfl (Still.block (Still.then (Still.then (Still.block (Still.then Still.body))))) (List.nil_sublist _) Cells.nil (Quiet.c (Q.indexAddrA ar265 (j := 2) rfl rfl rfl (by omega))) ?_
   refine VA.tk 2 rfl (Still.block (Still.then (Still.then (Still.block (Still.then Still.body))))) (List.nil_sublist _) Cells.nil (Quiet.c (Q.slcA0 ar44 (h := _) rfl rfl (by omega))) ?_
   refine VA.tk 3 rfl (Still.block (Still.then (Still.then (Still.block (Still.then Still.body))))) (List.nil_sublist _) Cells.nil (Quiet.c (Q.move rfl)) ?_
   refine VA.tk 4 rfl (Still.block (Still.then (Still.then (Still.block (Still.then Still.body))))) (List.nil_sublist _) Cells.nil (Quiet.c (Q.move rfl)) ?_
   refine VA.tk 5 rfl (Still.block (Still.then (Still.then (Still.block (Still.then Still.body))))) (List.nil_sublist _) Cells.nil (Quiet.c ((by first | exact Q.mulI rfl rfl (by omega) (by omega) | exact Q.mul rfl rfl))) ?_
   refine VA.tk 6 rfl (Still.block (Still.then (Still.then (Still.block (Still.then Still.body))))) (List.nil_sublist _) Cells.nil (Quiet.c ((by first | exact Q.addI rfl rfl (by omega) (by omega) | exact Q.add rfl rfl))) ?_
   refine VA.tk 7 rfl (Still.block (Still.then (Still.then (Still.block (Still.then Still.body))))) (List.nil_sublist _) Cells.nil (Quiet.c (Q.slcL sl23 (l := 16) (h := _) rfl ⟨_, _, rfl, rfl⟩ rfl (by omega) (by omega) (by omega))) ?_
   refine VA.all (rs := [8]) (by kernel_rfl) (by simp) ?_
   refine VA.forall1 ?_
   ·
    refine VA.eff rfl ?_
    refine id (O.copy (news := [.int .u8 2, .int .u8 0, .int .u8 0, .int .u8 0, .int .u8 2, .int .u8 (e : Int)]) sl23 rfl rfl (by simp only [List.length_cons, List.length_nil]; omega) rfl (by decide) (fun _ ho _ => (hro'.ofSeg zS).only0 ho) zU zP ?_)
    refine VA.next (List.nil_sublist _) Cells.nil ?_
    refine VA.done (by kernel_rfl) ?_
    refine VE.block_normal ?_
    refine VE.seq ?_
    refine VC.region ?_
    refine VL.quietE (v' := .int .i64 3) (by decide) ((by first | exact Q.addI rfl rfl (by omega) (by omega) | exact Q.add rfl rfl)) (by rfl) ?_
    refine VL.q (Q.move rfl) ?_
    refine VL.nil ?_
    refine VE.then_normal ?_
    refine VC.rnd (m := 36) ?_
    refine VC.seq ?_
    refine VC.region ?_
    refine VL.quietE (v' := .bool true) (by decide) (Q.lt rfl rfl) (by rfl) ?_
    refine VL.nil ?_
    refine VE.seq ?_
    refine VC.seq ?_
    refine VC.condT rfl ?_
    refine VC.skip ?_
    refine VE.seq ?_
    refine VC.seq ?_
    refine VC.block ?_
    refine VC.seq ?_
    refine VC.region ?_
    refine VL.q (Q.move rfl) ?_
    refine VL.q (Q.assign rfl) ?_
    refine VL.nil ?_
    refine VE.seq ?_
    refine VA.start (Ls := []) (Cs := []) mixed ?_
    refine VA.tk 0 rfl (Still.block (Still.then (Still.then (Still.block (Still.then Still.body))))) (List.nil_sublist _) Cells.nil (Quiet.c (Q.move rfl)) ?_
    refine VA.tk 1 rfl (Still.block (Still.then (Still.then (Still.block (Still.then Still.body))))) (List.nil_sublist _) Cells.nil (Quiet.c (Q.indexAddrA ar265 (j := 3) rfl rfl rfl (by omega))) ?_
    refine VA.tk 2 rfl (Still.block (Still.then (Still.then (Still.block (Still.then Still.body))))) (List.nil_sublist _) Cells.nil (Quiet.c (Q.slcA0 ar44 (h := _) rfl rfl (by omega))) ?_
    refine VA.tk 3 rfl (Still.block (Still.then (Still.then (Still.block (Still.then Still.body))))) (List.nil_sublist _) Cells.nil (Quiet.c (Q.move rfl)) ?_
    refine VA.tk 4 rfl (Still.block (Still.then (Still.then (Still.block (Still.then Still.body))))) (List.nil_sublist _) Cells.nil (Quiet.c (Q.move rfl)) ?_
    refine VA.tk 5 rfl (Still.block (Still.then (Still.then (Still.block (Still.then Still.body))))) (List.nil_sublist _) Cells.nil (Quiet.c ((by first | exact Q.mulI rfl rfl (by omega) (by omega) | exact Q.mul rfl rfl))) ?_
    refine VA.tk 6 rfl (Still.block (Still.then (Still.then (Still.block (Still.then Still.body))))) (List.nil_sublist _) Cells.nil (Quiet.c ((by first | exact Q.addI rfl rfl (by omega) (by omega) | exact Q.add rfl rfl))) ?_
    refine VA.tk 7 rfl (Still.block (Still.then (Still.then (Still.block (Still.then Still.body))))) (List.nil_sublist _) Cells.nil (Quiet.c (Q.slcL sl23 (l := 22) (h := _) rfl ⟨_, _, rfl, rfl⟩ rfl (by omega) (by omega) (by omega))) ?_
    refine VA.all (rs := [8]) (by kernel_rfl) (by simp) ?_
    refine VA.forall1 ?_
    ·
     refine VA.eff rfl ?_
     refine id (O.copy (news := [.int .u8 2, .int .u8 0, .int .u8 0, .int .u8 0, .int .u8 2, .int .u8 (lv : Int)]) sl23 rfl rfl (by simp only [List.length_cons, List.length_nil]; omega) rfl (by decide) (fun _ ho _ => (hro'.ofSeg zS).only0 ho) zU zP ?_)
     refine VA.next (List.nil_sublist _) Cells.nil ?_
     refine VA.done (by kernel_rfl) ?_
     refine VE.block_normal ?_
     refine VE.seq ?_
     refine VC.region ?_
     refine VL.quietE (v' := .int .i64 4) (by decide) ((by first | exact Q.addI rfl rfl (by omega) (by omega) | exact Q.add rfl rfl)) (by rfl) ?_
     refine VL.q (Q.move rfl) ?_
     refine VL.nil ?_
     refine VE.then_normal ?_
     refine VC.rnd (m := 35) ?_
     refine VC.seq ?_
     refine VC.region ?_
     refine VL.quietE (v' := .bool true) (by decide) (Q.lt rfl rfl) (by rfl) ?_
     refine VL.nil ?_
     refine VE.seq ?_
     refine VC.seq ?_
     refine VC.condT rfl ?_
     refine VC.skip ?_
     refine VE.seq ?_
     refine VC.seq ?_
     refine VC.block ?_
     refine VC.seq ?_
     refine VC.region ?_
     refine VL.q (Q.move rfl) ?_
     refine VL.q (Q.assign rfl) ?_
     refine VL.nil ?_
     refine VE.seq ?_
     refine VA.start (Ls := []) (Cs := []) mixed ?_
     refine VA.tk 0 rfl (Still.block (Still.then (Still.then (Still.block (Still.then Still.body))))) (List.nil_sublist _) Cells.nil (Quiet.c (Q.move rfl)) ?_
     refine VA.tk 1 rfl (Still.block (Still.then (Still.then (Still.block (Still.then Still.body))))) (List.nil_sublist _) Cells.nil (Quiet.c (Q.indexAddrA ar265 (j := 4) rfl rfl rfl (by omega))) ?_
     refine VA.tk 2 rfl (Still.block (Still.then (Still.then (Still.block (Still.then Still.body))))) (List.nil_sublist _) Cells.nil (Quiet.c (Q.slcA0 ar44 (h := _) rfl rfl (by omega))) ?_
     refine VA.tk 3 rfl (Still.block (Still.then (Still.then (Still.block (Still.then Still.body))))) (List.nil_sublist _) Cells.nil (Quiet.c (Q.move rfl)) ?_
     refine VA.tk 4 rfl (Still.block (Still.then (Still.then (Still.block (Still.then Still.body))))) (List.nil_sublist _) Cells.nil (Quiet.c (Q.move rfl)) ?_
     refine VA.tk 5 rfl (Still.block (Still.then (Still.then (Still.block (Still.then Still.body))))) (List.nil_sublist _) Cells.nil (Quiet.c ((by first | exact Q.mulI rfl rfl (by omega) (by omega) | exact Q.mul rfl rfl))) ?_
     refine VA.tk 6 rfl (Still.block (Still.then (Still.then (Still.block (Still.then Still.body))))) (List.nil_sublist _) Cells.nil (Quiet.c ((by first | exact Q.addI rfl rfl (by omega) (by omega) | exact Q.add rfl rfl))) ?_
     refine VA.tk 7 rfl (Still.block (Still.then (Still.then (Still.block (Still.then Still.body))))) (List.nil_sublist _) Cells.nil (Quiet.c (Q.slcL sl23 (l := 28) (h := _) rfl ⟨_, _, rfl, rfl⟩ rfl (by omega) (by omega) (by omega))) ?_
     refine VA.all (rs := [8]) (by kernel_rfl) (by simp) ?_
     refine VA.forall1 ?_
     ·
      refine VA.eff rfl ?_
      refine id (O.copy (news := [.int .u8 2, .int .u8 0, .int .u8 0, .int .u8 0, .int .u8 2, .int .u8 (e : Int)]) sl23 rfl rfl (by simp only [List.length_cons, List.length_nil]; omega) rfl (by decide) (fun _ ho _ => (hro'.ofSeg zS).only0 ho) zU zP ?_)
      refine VA.next (List.nil_sublist _) Cells.nil ?_
      refine VA.done (by kernel_rfl) ?_
      refine VE.block_normal ?_
      refine VE.seq ?_
      refine VC.region ?_
      refine VL.quietE (v' := .int .i64 5) (by decide) ((by first | exact Q.addI rfl rfl (by omega) (by omega) | exact Q.add rfl rfl)) (by rfl) ?_
      refine VL.q (Q.move rfl) ?_
      refine VL.nil ?_
      refine VE.then_normal ?_
      refine VC.rnd (m := 34) ?_
      refine VC.seq ?_
      refine VC.region ?_
      refine VL.quietE (v' := .bool true) (by decide) (Q.lt rfl rfl) (by rfl) ?_
      refine VL.nil ?_
      refine VE.seq ?_
      refine VC.seq ?_
      refine VC.condT rfl ?_
      refine VC.skip ?_
      refine VE.seq ?_
      refine VC.seq ?_
      refine VC.block ?_
      refine VC.seq ?_
      refine VC.region ?_
      refine VL.q (Q.move rfl) ?_
      refine VL.q (Q.assign rfl) ?_
      refine VL.nil ?_
      refine VE.seq ?_
      refine VA.start (Ls := []) (Cs := []) mixed ?_
      refine VA.tk 0 rfl (Still.block (Still.then (Still.then (Still.block (Still.then Still.body))))) (List.nil_sublist _) Cells.nil (Quiet.c (Q.move rfl)) ?_
      refine VA.tk 1 rfl (Still.block (Still.then (Still.then (Still.block (Still.then Still.body))))) (List.nil_sublist _) Cells.nil (Quiet.c (Q.indexAddrA ar265 (j := 5) rfl rfl rfl (by omega))) ?_
      refine VA.tk 2 rfl (Still.block (Still.then (Still.then (Still.block (Still.then Still.body))))) (List.nil_sublist _) Cells.nil (Quiet.c (Q.slcA0 ar44 (h := _) rfl rfl (by omega))) ?_
      refine VA.tk 3 rfl (Still.block (Still.then (Still.then (Still.block (Still.then Still.body))))) (List.nil_sublist _) Cells.nil (Quiet.c (Q.move rfl)) ?_
      refine VA.tk 4 rfl (Still.block (Still.then (Still.then (Still.block (Still.then Still.body))))) (List.nil_sublist _) Cells.nil (Quiet.c (Q.move rfl)) ?_
      refine VA.tk 5 rfl (Still.block (Still.then (Still.then (Still.block (Still.then Still.body))))) (List.nil_sublist _) Cells.nil (Quiet.c ((by first | exact Q.mulI rfl rfl (by omega) (by omega) | exact Q.mul rfl rfl))) ?_
      refine VA.tk 6 rfl (Still.block (Still.then (Still.then (Still.block (Still.then Still.body))))) (List.nil_sublist _) Cells.nil (Quiet.c ((by first | exact Q.addI rfl rfl (by omega) (by omega) | exact Q.add rfl rfl))) ?_
      refine VA.tk 7 rfl (Still.block (Still.then (Still.then (Still.block (Still.then Still.body))))) (List.nil_sublist _) Cells.nil (Quiet.c (Q.slcL sl23 (l := 34) (h := _) rfl ⟨_, _, rfl, rfl⟩ rfl (by omega) (by omega) (by omega))) ?_
      refine VA.all (rs := [8]) (by kernel_rfl) (by simp) ?_
      refine VA.forall1 ?_
      ·
       refine VA.eff rfl ?_
       refine id (O.copy (news := [.int .u8 2, .int .u8 9, .int .u8 9, .int .u8 9, .int .u8 9, .int .u8 9]) sl23 rfl rfl (by simp only [List.length_cons, List.length_nil]; omega) rfl (by decide) (fun _ ho _ => (hro'.ofSeg zS).only0 ho) zU zP ?_)
       refine VA.next (List.nil_sublist _) Cells.nil ?_
       refine VA.done (by kernel_rfl) ?_
       refine VE.block_normal ?_
       refine VE.seq ?_
       refine VC.region ?_
       refine VL.quietE (v' := .int .i64 6) (by decide) ((by first | exact Q.addI rfl rfl (by omega) (by omega) | exact Q.add rfl rfl)) (by rfl) ?_
       refine VL.q (Q.move rfl) ?_
       refine VL.nil ?_
       refine VE.then_normal ?_
       refine VC.rnd (m := 33) ?_
       refine VC.seq ?_
       refine VC.region ?_
       refine VL.quietE (v' := .bool false) (by decide) (Q.lt rfl rfl) (by rfl) ?_
       refine VL.nil ?_
       refine VE.seq ?_
       refine VC.seq ?_
       refine VC.condF rfl ?_
       refine VC.exit ?_
       refine VE.then_exit ?_
       refine VE.then_exit ?_
       refine VE.block_here ?_
       refine VE.seq ?_
       refine VC.seq ?_
       refine VC.seq ?_
       refine VC.region ?_
       refine VL.q (Q.move rfl) ?_
       refine VL.quietE (v' := .bool false) (by decide) (Q.eq rfl rfl) (by rfl) ?_
       refine VL.nil ?_
       refine VE.seq ?_
       refine VC.condF rfl ?_
       refine VC.skip ?_
       refine VE.seq ?_
       refine VC.seq ?_
       refine VA.start (Ls := [.blk g5 [.int .u8 2, .int .u8 0, .int .u8 0, .int .u8 0, .int .u8 2, .int .u8 (f : Int), .int .u8 2, .int .u8 0, .int .u8 0, .int .u8 0, .int .u8 2, .int .u8 (t : Int), .int .u8 2, .int .u8 0, .int .u8 0, .int .u8 0, .int .u8 2, .int .u8 (e : Int), .int .u8 2, .int .u8 0, .int .u8 0, .int .u8 0, .int .u8 2, .int .u8 (lv : Int), .int .u8 2, .int .u8 0, .int .u8 0, .int .u8 0, .int .u8 2, .int .u8 (e : Int), .int .u8 2, .int .u8 9, .int .u8 9, .int .u8 9, .int .u8 9, .int .u8 9] 265]) (Cs := []) mixed ?_
       refine VA.tk 0 rfl (Still.then Still.body) (List.singleton_sublist.2 zM) Cells.nil (Quiet.c (Q.indexAddrA ar265 (j := 0) rfl rfl rfl (by omega))) ?_
       refine VA.tk 1 rfl (Still.then Still.body) (List.singleton_sublist.2 zM) Cells.nil (Quiet.c (Q.loadA ty44 rfl zM zS)) ?_
       refine VA.tk 2 rfl (Still.then Still.body) (List.singleton_sublist.2 zM) Cells.nil (Quiet.c (Q.indexAddrA ar265 (j := 1) rfl rfl rfl (by omega))) ?_
       refine VA.tk 3 rfl (Still.then Still.body) (List.singleton_sublist.2 zM) Cells.nil (Quiet.c (Q.loadA ty44 rfl zM zS)) ?_
       refine VA.tk 4 rfl (Still.then Still.body) (List.singleton_sublist.2 zM) Cells.nil (Quiet.c (Q.indexAddrA ar265 (j := 2) rfl rfl rfl (by omega))) ?_
       refine VA.tk 5 rfl (Still.then Still.body) (List.singleton_sublist.2 zM) Cells.nil (Quiet.c (Q.loadA ty44 rfl zM zS)) ?_
       refine VA.tk 6 rfl (Still.then Still.body) (List.singleton_sublist.2 zM) Cells.nil (Quiet.c (Q.indexAddrA ar265 (j := 3) rfl rfl rfl (by omega))) ?_
       refine VA.tk 7 rfl (Still.then Still.body) (List.singleton_sublist.2 zM) Cells.nil (Quiet.c (Q.loadA ty44 rfl zM zS)) ?_
       refine VA.tk 8 rfl (Still.then Still.body) (List.singleton_sublist.2 zM) Cells.nil (Quiet.c (Q.indexAddrA ar265 (j := 4) rfl rfl rfl (by omega))) ?_
       refine VA.tk 9 rfl (Still.then Still.body) (List.singleton_sublist.2 zM) Cells.nil (Quiet.c (Q.loadA ty44 rfl zM zS)) ?_
       refine VA.tk 10 rfl (Still.then Still.body) (List.singleton_sublist.2 zM) Cells.nil (Quiet.c (Q.indexAddrA ar265 (j := 5) rfl rfl rfl (by omega))) ?_
       refine VA.tk 11 rfl (Still.then Still.body) (List.singleton_sublist.2 zM) Cells.nil (Quiet.c (Q.loadA ty44 rfl zM zS)) ?_
       refine VA.tk 12 rfl (Still.then Still.body) (List.singleton_sublist.2 zM) Cells.nil (Quiet.c (Q.move rfl)) ?_
       refine VA.tk 13 rfl (Still.then Still.body) (List.singleton_sublist.2 zM) Cells.nil (Quiet.c (Q.indexAddr sl23 (j := 2) rfl rfl rfl (by omega))) ?_
       refine VA.tk 14 rfl (Still.then Still.body) (List.singleton_sublist.2 zM) Cells.nil (Quiet.c (Q.load0 ty5 rfl (Rd.at (j := 2) hro' rfl) (by simp))) ?_
       refine VA.tk 15 rfl (Still.then Still.body) (List.singleton_sublist.2 zM) Cells.nil (Quiet.c ((by first | exact Q.convF ti5 ti3 rfl (by simp only [klo]; omega) (by simp only [khi]; omega) | exact Q.convM (M := 0) ti5 ti3 rfl rfl rfl | exact Q.conv ti5 ti3 rfl))) ?_
       refine VA.tk 16 rfl (Still.then Still.body) (List.singleton_sublist.2 zM) Cells.nil (Quiet.c (Q.move rfl)) ?_
       refine VA.tk 17 rfl (Still.then Still.body) (List.singleton_sublist.2 zM) Cells.nil (Quiet.c (Q.indexAddr sl23 (j := 3) rfl rfl rfl (by omega))) ?_
       refine VA.tk 18 rfl (Still.then Still.body) (List.singleton_sublist.2 zM) Cells.nil (Quiet.c (Q.load0 ty5 rfl (Rd.at (j := 3) hro' rfl) (by simp))) ?_
       refine VA.tk 19 rfl (Still.then Still.body) (List.singleton_sublist.2 zM) Cells.nil (Quiet.c ((by first | exact Q.convF ti5 ti3 rfl (by simp only [klo]; omega) (by simp only [khi]; omega) | exact Q.convM (M := 0) ti5 ti3 rfl rfl rfl | exact Q.conv ti5 ti3 rfl))) ?_
       refine VA.tk 20 rfl (Still.then Still.body) (List.singleton_sublist.2 zM) Cells.nil (Quiet.c (Q.shlF (s := 8) (m := 256) rfl rfl (by decide) (by decide) (by simp only [klo]; omega) (by simp only [khi]; omega))) ?_
       refine VA.tk 21 rfl (Still.then Still.body) (List.singleton_sublist.2 zM) Cells.nil (Quiet.c (Quiet.to (v' := .int .i64 (q : Int)) (Q.or rfl rfl (by omega) (by simp only [khi]; omega) (by omega) (by simp only [khi]; omega)) (congrArg (Value.int .i64) ((or_bytes ((q : Int) % 256) ((q : Int) / 256) (by omega) (by omega)).trans (by omega))))) ?_
       refine VA.tk 22 rfl (Still.then Still.body) (List.singleton_sublist.2 zM) Cells.nil (Quiet.c (Q.move rfl)) ?_
       refine VA.tk 23 rfl (Still.then Still.body) (List.singleton_sublist.2 zM) Cells.nil (Quiet.c (Q.indexAddr sl23 (j := 1) rfl rfl rfl (by omega))) ?_
       refine VA.tk 24 rfl (Still.then Still.body) (List.singleton_sublist.2 zM) Cells.nil (Quiet.c (Q.load0 ty5 rfl (Rd.at (j := 1) hro' rfl) (by simp))) ?_
       refine VA.tk 25 rfl (Still.then Still.body) (List.singleton_sublist.2 zM) Cells.nil (Quiet.c ((by first | exact Q.convF ti5 ti3 rfl (by simp only [klo]; omega) (by simp only [khi]; omega) | exact Q.convM (M := 0) ti5 ti3 rfl rfl rfl | exact Q.conv ti5 ti3 rfl))) ?_
       refine VA.tk 26 rfl (Still.then Still.body) (List.singleton_sublist.2 zM) Cells.nil (Quiet.c (Q.move rfl)) ?_
       refine VA.tk 27 rfl (Still.then Still.body) (List.singleton_sublist.2 zM) Cells.nil (Quiet.c (Q.move rfl)) ?_
       refine VA.tk 28 rfl (Still.then Still.body) (List.singleton_sublist.2 zM) Cells.nil (Quiet.c (Quiet.to (v' := .slice (some ⟨b, sliceOff c 40 o 1, none⟩) m (c - 40)) (Q.slc sl23 (l := 40) (h := 40 + m) rfl ⟨_, _, rfl, rfl⟩ rfl (by omega) hc) (by rw [show 40 + m - 40 = m from by omega]))) ?_
       refine VA.all (rs := [29, 31]) (by kernel_rfl) (by simp) ?_
       refine VA.forall2 ?_ ?_
       ·
        refine VA.eff rfl ?_
        refine id (O.call0 ok123 rfl rfl (by decide) (bclone_c (some ⟨b, sliceOff c 40 o 1, none⟩) m (c - 40) (bs l) (by rw [bs_length]; omega) (bs_one l) (by omega)) (fun _ ho _ => hrl.only0 ho) ?_)
        intro x75 y75
        obtain ⟨pd, cd⟩ := x75
        have hcd : m ≤ cd := y75
        refine VA.next (List.singleton_sublist.2 zM) Cells.nil ?_
        refine VA.tk 30 rfl (Still.then Still.body) (List.singleton_sublist.2 zM) Cells.nil (Quiet.c (Q.build lay156 zF)) ?_
        refine VA.all (rs := [31]) (by kernel_rfl) (by simp) ?_
        refine VA.forall1 ?_
        ·
         refine VA.eff rfl ?_
         refine id (O.alloc zo156 (by decide) ?_)
         intro g7
         refine VA.next (List.singleton_sublist.2 zM) Cells.nil ?_
         refine VA.all (rs := [32]) (by kernel_rfl) (by simp) ?_
         refine VA.forall1 ?_
         ·
          refine VA.eff rfl ?_
          refine id (O.store ty156 rfl rfl rfl rfl zU zP ?_)
          refine VA.next (List.singleton_sublist.2 zM) Cells.nil ?_
          refine VA.done (by kernel_rfl) ?_
          refine VE.seq ?_
          refine VC.seq ?_
          refine VC.seq ?_
          refine VK.keep (by exact .cons (i := 0) rfl (.cons (i := 2) rfl (.cons (i := 3) rfl (.cons (i := 4) rfl (.cons (i := 7) rfl ( .nil)))))) ?_
          refine VC.region ?_
          refine VL.q (Q.move rfl) ?_
          refine VL.q (Q.indexAddr sl23 (j := 0) rfl rfl rfl (by omega)) ?_
          refine VL.q (Q.load0 ty5 rfl (Rd.at (j := 0) hro' rfl) (by simp)) ?_
          refine VL.quietE (v' := .bool false) (by decide) (Q.gt rfl rfl) (by rfl) ?_
          refine VL.q (Q.move rfl) ?_
          refine VL.yes rfl rfl ?_
          refine VL.q (Q.move rfl) ?_
          refine VL.yes rfl rfl ?_
          refine VL.quietE (v' := .bool true) (by decide) (Q.eq rfl rfl) (by rfl) ?_
          refine VL.yes rfl rfl ?_
          refine VL.q (Q.move rfl) ?_
          refine VL.yes rfl rfl ?_
          refine VL.q (Q.fieldAddr fa156_4 rfl) ?_
          refine VL.yes rfl rfl ?_
          refine VL.q (Q.loadA ty44 rfl zM zS) ?_
          refine VL.yes rfl rfl ?_
          refine VL.q (Q.fieldAddr fa156_2 rfl) ?_
          refine VL.yes rfl rfl ?_
          refine VL.q (Q.loadA ty44 rfl zM zS) ?_
          refine VL.yes rfl rfl ?_
          refine VL.quietE (v' := .bool true) (by decide) (Q.eqS flt44 (by decide) ty44 eg44 rfl rfl rfl rfl) (congrArg Value.bool ((node_eq e e).trans (decide_eq_true rfl))) ?_
          refine VL.yes rfl rfl ?_
          refine VL.quietE (v' := .bool true) (by decide) (Q.pick_true rfl rfl) (by rfl) ?_
          refine VL.yes rfl rfl ?_
          refine VL.q (Q.move rfl) ?_
          refine VL.yes rfl rfl ?_
          refine VL.q (Q.fieldAddr fa156_5 rfl) ?_
          refine VL.yes rfl rfl ?_
          refine VL.q (Q.loadA ty44 rfl zM zS) ?_
          refine VL.yes rfl rfl ?_
          refine VL.q (Q.fieldAddr fa156_3 rfl) ?_
          refine VL.yes rfl rfl ?_
          refine VL.q (Q.loadA ty44 rfl zM zS) ?_
          refine VL.yes rfl rfl ?_
          refine VL.quietE (v' := .bool false) (by decide) (Q.eqS flt44 (by decide) ty44 eg44 rfl rfl rfl rfl) (by rfl) ?_
          refine VL.yes rfl rfl ?_
          refine VL.quietE (v' := .bool false) (by decide) (Q.pick_true rfl rfl) (by rfl) ?_
          refine VL.quietE (v' := .bool false) (by decide) (Q.pick_false rfl rfl) (by rfl) ?_
          refine VL.q (Q.move rfl) ?_
          refine VL.yes rfl rfl ?_
          refine VL.q (Q.loadA ty156 rfl zM zS) ?_
          refine VL.yes rfl rfl ?_
          refine VL.eff (O.call0 ok128 rfl rfl (by decide) (checkframe_c f t e lv q ttl pd m cd hq h1 hm) (fun _ _ _ => trivial) ?_)
          intro x101 y101
          refine VL.yes rfl rfl ?_
          refine VL.quietE (v' := .bool false) (by decide) (Q.ne rfl rfl) (by rfl) ?_
          refine VL.quietE (v' := .bool false) (by decide) (Q.pick_false rfl rfl) (by rfl) ?_
          refine VL.nil ?_
          refine VE.seq ?_
          refine VC.condF rfl ?_
          refine VC.skip ?_
          refine VE.seq ?_
          refine VC.seq ?_
          refine VC.region ?_
          refine VL.q (Q.loadA ty156 rfl zM zS) ?_
          refine VL.eff (O.store ty156 rfl rfl rfl rfl zU zP ?_)
          refine VL.q (Q.assign rfl) ?_
          refine VL.nil ?_
          refine VE.seq ?_
          refine VC.ret ?_
          exact VE.ret rfl (.cell ty156 rfl zM rfl (.tmp rfl .nil)) (pd, cd) hcd rfl zB
       ·
        refine VA.eff rfl ?_
        refine id (O.alloc zo156 (by decide) ?_)
        intro g7_1
        refine VA.next (List.singleton_sublist.2 zM) Cells.nil ?_
        refine VA.all (rs := [29]) (by kernel_rfl) (by simp) ?_
        refine VA.forall1 ?_
        ·
         refine VA.eff rfl ?_
         refine id (O.call0 ok123 rfl rfl (by decide) (bclone_c (some ⟨b, sliceOff c 40 o 1, none⟩) m (c - 40) (bs l) (by rw [bs_length]; omega) (bs_one l) (by omega)) (fun _ ho _ => hrl.only0 ho) ?_)
         intro x75_1 y75_1
         obtain ⟨pd, cd⟩ := x75_1
         have hcd : m ≤ cd := y75_1
         refine VA.next (List.singleton_sublist.2 zM) Cells.nil ?_
         refine VA.tk 30 rfl (Still.then Still.body) (List.singleton_sublist.2 zM) Cells.nil (Quiet.c (Q.build lay156 zF)) ?_
         refine VA.all (rs := [32]) (by kernel_rfl) (by simp) ?_
         refine VA.forall1 ?_
         ·
          refine VA.eff rfl ?_
          refine id (O.store ty156 rfl rfl rfl rfl zU zP ?_)
          refine VA.next (List.singleton_sublist.2 zM) Cells.nil ?_
          refine VA.done (by kernel_rfl) ?_
          refine VE.seq ?_
          refine VC.seq ?_
          refine VC.seq ?_
          refine VK.keep (by exact .cons (i := 0) rfl (.cons (i := 2) rfl (.cons (i := 3) rfl (.cons (i := 4) rfl (.cons (i := 7) rfl ( .nil)))))) ?_
          refine VC.region ?_
          refine VL.q (Q.move rfl) ?_
          refine VL.q (Q.indexAddr sl23 (j := 0) rfl rfl rfl (by omega)) ?_
          refine VL.q (Q.load0 ty5 rfl (Rd.at (j := 0) hro' rfl) (by simp)) ?_
          refine VL.quietE (v' := .bool false) (by decide) (Q.gt rfl rfl) (by rfl) ?_
          refine VL.q (Q.move rfl) ?_
          refine VL.yes rfl rfl ?_
          refine VL.q (Q.move rfl) ?_
          refine VL.yes rfl rfl ?_
          refine VL.quietE (v' := .bool true) (by decide) (Q.eq rfl rfl) (by rfl) ?_
          refine VL.yes rfl rfl ?_
          refine VL.q (Q.move rfl) ?_
          refine VL.yes rfl rfl ?_
          refine VL.q (Q.fieldAddr fa156_4 rfl) ?_
          refine VL.yes rfl rfl ?_
          refine VL.q (Q.loadA ty44 rfl zM zS) ?_
          refine VL.yes rfl rfl ?_
          refine VL.q (Q.fieldAddr fa156_2 rfl) ?_
          refine VL.yes rfl rfl ?_
          refine VL.q (Q.loadA ty44 rfl zM zS) ?_
          refine VL.yes rfl rfl ?_
          refine VL.quietE (v' := .bool true) (by decide) (Q.eqS flt44 (by decide) ty44 eg44 rfl rfl rfl rfl) (congrArg Value.bool ((node_eq e e).trans (decide_eq_true rfl))) ?_
          refine VL.yes rfl rfl ?_
          refine VL.quietE (v' := .bool true) (by decide) (Q.pick_true rfl rfl) (by rfl) ?_
          refine VL.yes rfl rfl ?_
          refine VL.q (Q.move rfl) ?_
          refine VL.yes rfl rfl ?_
          refine VL.q (Q.fieldAddr fa156_5 rfl) ?_
          refine VL.yes rfl rfl ?_
          refine VL.q (Q.loadA ty44 rfl zM zS) ?_
          refine VL.yes rfl rfl ?_
          refine VL.q (Q.fieldAddr fa156_3 rfl) ?_
          refine VL.yes rfl rfl ?_
          refine VL.q (Q.loadA ty44 rfl zM zS) ?_
          refine VL.yes rfl rfl ?_
          refine VL.quietE (v' := .bool false) (by decide) (Q.eqS flt44 (by decide) ty44 eg44 rfl rfl rfl rfl) (by rfl) ?_
          refine VL.yes rfl rfl ?_
          refine VL.quietE (v' := .bool false) (by decide) (Q.pick_true rfl rfl) (by rfl) ?_
          refine VL.quietE (v' := .bool false) (by decide) (Q.pick_false rfl rfl) (by rfl) ?_
          refine VL.q (Q.move rfl) ?_
          refine VL.yes rfl rfl ?_
          refine VL.q (Q.loadA ty156 rfl zM zS) ?_
          refine VL.yes rfl rfl ?_
          refine VL.eff (O.call0 ok128 rfl rfl (by decide) (checkframe_c f t e lv q ttl pd m cd hq h1 hm) (fun _ _ _ => trivial) ?_)
          intro x101_1 y101_1
          refine VL.yes rfl rfl ?_
          refine VL.quietE (v' := .bool false) (by decide) (Q.ne rfl rfl) (by rfl) ?_
          refine VL.quietE (v' := .bool false) (by decide) (Q.pick_false rfl rfl) (by rfl) ?_
          refine VL.nil ?_
          refine VE.seq ?_
          refine VC.condF rfl ?_
          refine VC.skip ?_
          refine VE.seq ?_
          refine VC.seq ?_
          refine VC.region ?_
          refine VL.q (Q.loadA ty156 rfl zM zS) ?_
          refine VL.eff (O.store ty156 rfl rfl rfl rfl zU zP ?_)
          refine VL.q (Q.assign rfl) ?_
          refine VL.nil ?_
          refine VE.seq ?_
          refine VC.ret ?_
          exact VE.ret rfl (.cell ty156 rfl zM rfl (.tmp rfl .nil)) (pd, cd) hcd rfl zB

end Go.Proofs.YtencghlmckbmlaaGreat
