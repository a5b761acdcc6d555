/- The rounds of vaneSilent. Conditions: those that each bears. -/
import Derived.Test.YtencghlmckbmlaaDoorRows
import Derived.Test.YtencghlmckbmlaaDoorSil1
namespace Go.Proofs.YtencghlmckbmlaaDoor
open Go Go.RowKit Go.Sx
set_option maxRecDepth 100000



theorem round_5 (W0 : World) (hsub : Subs W0) (hsl : Rd W0 (some ⟨1, 0, none⟩) [.int .i64 7, .int .i64 3, .int .i64 2, .int .i64 2]) (hl : List Bool) (p2 : Option Addr) (c2 : Nat) (hrh : Rd W0 p2 (bls hl)) (x0 x1 x2 x3 x4 x5 v15 : Value) (R : Rs) (st : Nat) (T A : Int) (k : Nat) (u l : Int) (pi : Nat) (ps pa : Int) (D : Nat) (g1 g17 g19 g21 : Nat) (hst : st ≤ 4294967295) (hps : 0 ≤ ps) (hpa : 1 ≤ pa) (hsum : ps + pa + D = T) (hD : D ≤ 32767) (hT : T ≤ 2000000) (hA : 1 ≤ A ∧ A ≤ 32767) (hnv : navI ((st : Int) + T) k u l) (QQ : Exit → Act → World → Prop) (hS : Still QQ) (hn : VK W0 (List.flatMap Rs.ids []) 347 (fun a W => QQ .normal a W) [(1, .pointer (some ⟨g1, 0, none⟩)), (7, .int .i64 A), (15, v15), (16, .int .i64 (st : Int)), (17, .pointer (some ⟨g17, 0, none⟩)), (18, .int .i64 ((st : Int) + T)), (19, .pointer (some ⟨g19, 0, none⟩)), (20, .int .i64 (k : Int))] [.blk g19 [.int .i64 ((st : Int) + T), .int .i64 0] 46, .blk g17 [.int .u8 2, .int .u8 0, .int .u8 0, .int .u8 0, .int .u8 0, .int .u8 3] 43, R, .blk g1 [x0, x1, x2, x3, x4, x5, .slice p2 hl.length c2] 27]) (hc : VK W0 (List.flatMap Rs.ids []) 347 (fun a W => QQ (.exit 3) a W) [(1, .pointer (some ⟨g1, 0, none⟩)), (7, .int .i64 A), (15, v15), (16, .int .i64 (st : Int)), (17, .pointer (some ⟨g17, 0, none⟩)), (18, .int .i64 ((st : Int) + T)), (19, .pointer (some ⟨g19, 0, none⟩)), (20, .int .i64 (k : Int))] [.blk g19 [.int .i64 u, .int .i64 l] 46, .blk g17 [.int .u8 2, .int .u8 0, .int .u8 0, .int .u8 0, .int .u8 0, .int .u8 3] 43, R, .blk g1 [x0, x1, x2, x3, x4, x5, .slice p2 hl.length c2] 27]) :
    VK W0 (List.flatMap Rs.ids []) 347 ((bodyAt Tryd.f4 [1, 1, 1, 1, 1, 1, 1, 1, 1, 1, 1, 1, 1, 1, 0, 1, 0, 0, 1, 0, 0, 1]).wp Tryd.prog QQ) [(1, .pointer (some ⟨g1, 0, none⟩)), (7, .int .i64 A), (15, v15), (16, .int .i64 (st : Int)), (17, .pointer (some ⟨g17, 0, none⟩)), (18, .int .i64 ((st : Int) + T)), (19, .pointer (some ⟨g19, 0, none⟩)), (20, .int .i64 (k : Int)), (21, .pointer (some ⟨g21, 0, none⟩))] [.blk g21 [.int .u8 5, .bool true, .int .i64 (pi : Int), .int .i64 ps, .int .i64 pa, .int .i64 (D : Int)] 48, .blk g19 [.int .i64 u, .int .i64 l] 46, .blk g17 [.int .u8 2, .int .u8 0, .int .u8 0, .int .u8 0, .int .u8 0, .int .u8 3] 43, R, .blk g1 [x0, x1, x2, x3, x4, x5, .slice p2 hl.length c2] 27] := by
  have hnx := hear_law (ans := A) false hnv ((fun h => by cases h)) (show ((st : Int) + ps + pa) + (D : Int) = ((st : Int) + T) by omega) (by omega) (by omega) (by omega)
  obtain ⟨hnU, hnL⟩ := hnx
  rw [if_neg (by decide)] at hnL
  refine VC.seqJ (X := Nat) (fun z => [(1, .pointer (some ⟨g1, 0, none⟩)), (7, .int .i64 A), (15, v15), (16, .int .i64 (st : Int)), (17, .pointer (some ⟨g17, 0, none⟩)), (18, .int .i64 ((st : Int) + T)), (19, .pointer (some ⟨g19, 0, none⟩)), (20, .int .i64 (k : Int)), (21, .pointer (some ⟨g21, 0, none⟩)), (22, .pointer (some ⟨z, 0, none⟩)), (23, .int .i64 0)]) (fun z => [.blk z [.int .u8 1, .int .u8 13, .bool false, .bool false, .bool false, .bool false, .bool false, .bool false, .bool false, .int .i64 (D : Int), .int .u8 2, .int .u8 0, .int .u8 0, .int .u8 0, .int .u8 0, .int .u8 2, .int .u8 0, .int .u8 0, .int .u8 0, .int .u8 0, .int .u8 0, .int .u8 0, .int .u8 0, .int .u8 0, .int .u8 0, .int .u8 0, .int .u8 0, .int .u8 0, .int .u8 0, .int .u8 0, .int .u8 0, .int .u8 0, .int .u8 0, .int .u8 0, .int .i64 0, .int .i64 0, .int .i64 0, .int .u8 0, .bool false, .bool false] 50, .blk g21 [.int .u8 5, .bool true, .int .i64 (pi : Int), .int .i64 ps, .int .i64 pa, .int .i64 (D : Int)] 48, .blk g19 [.int .i64 u, .int .i64 l] 46, .blk g17 [.int .u8 2, .int .u8 0, .int .u8 0, .int .u8 0, .int .u8 0, .int .u8 3] 43, R, .blk g1 [x0, x1, x2, x3, x4, x5, .slice p2 hl.length c2] 27]) (fun z => True) ?_ ?_
  · skip
    refine VA.start (Ls := [.blk g21 [.int .u8 5, .bool true, .int .i64 (pi : Int), .int .i64 ps, .int .i64 pa, .int .i64 (D : Int)] 48]) (Cs := []) mixed ?_
    refine VA.take 0 rfl (by kernel_rfl) (by kernel_rfl) (by kernel_rfl) (Still.then hS) (List.singleton_sublist.2 zM) Cells.nil (by decide) (Quiet.c (Q.loadA ty48 rfl zM zS)) ?_
    refine VA.all (rs := [1, 7]) (by kernel_rfl) (by simp) ?_
    refine VA.forall2 ?_ ?_
    · skip
      refine VA.eff rfl ?_
      refine id (O.call0 ok13 rfl rfl (by decide) (station_c) (fun _ _ _ => trivial) ?_)
      intro x155 y155
      refine VA.next (List.singleton_sublist.2 zM) Cells.nil ?_
      refine VA.all (rs := [2, 7]) (by kernel_rfl) (by simp) ?_
      refine VA.forall2 ?_ ?_
      · skip
        refine VA.eff rfl ?_
        refine id (O.call0 ok14 rfl rfl (by decide) (point_c) (fun _ _ _ => trivial) ?_)
        intro x156 y156
        refine VA.next (List.singleton_sublist.2 zM) Cells.nil ?_
        refine VA.all (rs := [3, 7]) (by kernel_rfl) (by simp) ?_
        refine VA.forall2 ?_ ?_
        · skip
          refine VA.eff rfl ?_
          refine id (O.call0 ok12 rfl rfl (by decide) (xheader_5 pi ps pa D hD) (fun _ ho _ => hsub.only ho) ?_)
          intro x157 y157
          refine VA.next (List.singleton_sublist.2 zM) Cells.nil ?_
          refine VA.take 4 rfl (by kernel_rfl) (by kernel_rfl) (by kernel_rfl) (Still.then hS) (List.singleton_sublist.2 zM) Cells.nil (by decide) (Quiet.c (Q.move rfl)) ?_
          refine VA.take 5 rfl (by kernel_rfl) (by kernel_rfl) (by kernel_rfl) (Still.then hS) (List.singleton_sublist.2 zM) Cells.nil (by decide) (Quiet.c (Q.extract rfl rfl)) ?_
          refine VA.take 6 rfl (by kernel_rfl) (by kernel_rfl) (by kernel_rfl) (Still.then hS) (List.singleton_sublist.2 zM) Cells.nil (by decide) (Quiet.c (Q.extract rfl rfl)) ?_
          refine VA.all (rs := [7]) (by kernel_rfl) (by simp) ?_
          refine VA.forall1 ?_
          · skip
            refine VA.eff rfl ?_
            refine id (O.alloc zo50 (by decide) ?_)
            intro g22
            refine VA.next (List.singleton_sublist.2 zM) Cells.nil ?_
            refine VA.all (rs := [8]) (by kernel_rfl) (by simp) ?_
            refine VA.forall1 ?_
            · skip
              refine VA.eff rfl ?_
              refine id (O.store ty50 rfl rfl rfl rfl zU zP ?_)
              refine VA.next (List.singleton_sublist.2 zM) Cells.nil ?_
              refine VA.take 9 rfl (by kernel_rfl) (by kernel_rfl) (by kernel_rfl) (Still.then hS) (List.singleton_sublist.2 zM) Cells.nil (by decide) (Quiet.c (Q.assign rfl)) ?_
              refine VA.done (by kernel_rfl) ?_
              refine VE.then_normal ?_
              exact VE.meetP g22 trivial zE zKs
        · skip
          refine VA.eff rfl ?_
          refine id (O.alloc zo50 (by decide) ?_)
          intro g22_1
          refine VA.next (List.singleton_sublist.2 zM) Cells.nil ?_
          refine VA.all (rs := [3]) (by kernel_rfl) (by simp) ?_
          refine VA.forall1 ?_
          · skip
            refine VA.eff rfl ?_
            refine id (O.call0 ok12 rfl rfl (by decide) (xheader_5 pi ps pa D hD) (fun _ ho _ => hsub.only ho) ?_)
            intro x157_1 y157_1
            refine VA.next (List.singleton_sublist.2 zM) Cells.nil ?_
            refine VA.take 4 rfl (by kernel_rfl) (by kernel_rfl) (by kernel_rfl) (Still.then hS) (List.singleton_sublist.2 zM) Cells.nil (by decide) (Quiet.c (Q.move rfl)) ?_
            refine VA.take 5 rfl (by kernel_rfl) (by kernel_rfl) (by kernel_rfl) (Still.then hS) (List.singleton_sublist.2 zM) Cells.nil (by decide) (Quiet.c (Q.extract rfl rfl)) ?_
            refine VA.take 6 rfl (by kernel_rfl) (by kernel_rfl) (by kernel_rfl) (Still.then hS) (List.singleton_sublist.2 zM) Cells.nil (by decide) (Quiet.c (Q.extract rfl rfl)) ?_
            refine VA.all (rs := [8]) (by kernel_rfl) (by simp) ?_
            refine VA.forall1 ?_
            · skip
              refine VA.eff rfl ?_
              refine id (O.store ty50 rfl rfl rfl rfl zU zP ?_)
              refine VA.next (List.singleton_sublist.2 zM) Cells.nil ?_
              refine VA.take 9 rfl (by kernel_rfl) (by kernel_rfl) (by kernel_rfl) (Still.then hS) (List.singleton_sublist.2 zM) Cells.nil (by decide) (Quiet.c (Q.assign rfl)) ?_
              refine VA.done (by kernel_rfl) ?_
              refine VE.then_normal ?_
              exact VE.meetP g22_1 trivial zE zKs
      · skip
        refine VA.eff rfl ?_
        refine id (O.alloc zo50 (by decide) ?_)
        intro g22_2
        refine VA.next (List.singleton_sublist.2 zM) Cells.nil ?_
        refine VA.all (rs := [2]) (by kernel_rfl) (by simp) ?_
        refine VA.forall1 ?_
        · skip
          refine VA.eff rfl ?_
          refine id (O.call0 ok14 rfl rfl (by decide) (point_c) (fun _ _ _ => trivial) ?_)
          intro x156_1 y156_1
          refine VA.next (List.singleton_sublist.2 zM) Cells.nil ?_
          refine VA.all (rs := [3]) (by kernel_rfl) (by simp) ?_
          refine VA.forall1 ?_
          · skip
            refine VA.eff rfl ?_
            refine id (O.call0 ok12 rfl rfl (by decide) (xheader_5 pi ps pa D hD) (fun _ ho _ => hsub.only ho) ?_)
            intro x157_2 y157_2
            refine VA.next (List.singleton_sublist.2 zM) Cells.nil ?_
            refine VA.take 4 rfl (by kernel_rfl) (by kernel_rfl) (by kernel_rfl) (Still.then hS) (List.singleton_sublist.2 zM) Cells.nil (by decide) (Quiet.c (Q.move rfl)) ?_
            refine VA.take 5 rfl (by kernel_rfl) (by kernel_rfl) (by kernel_rfl) (Still.then hS) (List.singleton_sublist.2 zM) Cells.nil (by decide) (Quiet.c (Q.extract rfl rfl)) ?_
            refine VA.take 6 rfl (by kernel_rfl) (by kernel_rfl) (by kernel_rfl) (Still.then hS) (List.singleton_sublist.2 zM) Cells.nil (by decide) (Quiet.c (Q.extract rfl rfl)) ?_
            refine VA.all (rs := [8]) (by kernel_rfl) (by simp) ?_
            refine VA.forall1 ?_
            · skip
              refine VA.eff rfl ?_
              refine id (O.store ty50 rfl rfl rfl rfl zU zP ?_)
              refine VA.next (List.singleton_sublist.2 zM) Cells.nil ?_
              refine VA.take 9 rfl (by kernel_rfl) (by kernel_rfl) (by kernel_rfl) (Still.then hS) (List.singleton_sublist.2 zM) Cells.nil (by decide) (Quiet.c (Q.assign rfl)) ?_
              refine VA.done (by kernel_rfl) ?_
              refine VE.then_normal ?_
              exact VE.meetP g22_2 trivial zE zKs
    · skip
      refine VA.eff rfl ?_
      refine id (O.alloc zo50 (by decide) ?_)
      intro g22_3
      refine VA.next (List.singleton_sublist.2 zM) Cells.nil ?_
      refine VA.all (rs := [1]) (by kernel_rfl) (by simp) ?_
      refine VA.forall1 ?_
      · skip
        refine VA.eff rfl ?_
        refine id (O.call0 ok13 rfl rfl (by decide) (station_c) (fun _ _ _ => trivial) ?_)
        intro x155_1 y155_1
        refine VA.next (List.singleton_sublist.2 zM) Cells.nil ?_
        refine VA.all (rs := [2]) (by kernel_rfl) (by simp) ?_
        refine VA.forall1 ?_
        · skip
          refine VA.eff rfl ?_
          refine id (O.call0 ok14 rfl rfl (by decide) (point_c) (fun _ _ _ => trivial) ?_)
          intro x156_2 y156_2
          refine VA.next (List.singleton_sublist.2 zM) Cells.nil ?_
          refine VA.all (rs := [3]) (by kernel_rfl) (by simp) ?_
          refine VA.forall1 ?_
          · skip
            refine VA.eff rfl ?_
            refine id (O.call0 ok12 rfl rfl (by decide) (xheader_5 pi ps pa D hD) (fun _ ho _ => hsub.only ho) ?_)
            intro x157_3 y157_3
            refine VA.next (List.singleton_sublist.2 zM) Cells.nil ?_
            refine VA.take 4 rfl (by kernel_rfl) (by kernel_rfl) (by kernel_rfl) (Still.then hS) (List.singleton_sublist.2 zM) Cells.nil (by decide) (Quiet.c (Q.move rfl)) ?_
            refine VA.take 5 rfl (by kernel_rfl) (by kernel_rfl) (by kernel_rfl) (Still.then hS) (List.singleton_sublist.2 zM) Cells.nil (by decide) (Quiet.c (Q.extract rfl rfl)) ?_
            refine VA.take 6 rfl (by kernel_rfl) (by kernel_rfl) (by kernel_rfl) (Still.then hS) (List.singleton_sublist.2 zM) Cells.nil (by decide) (Quiet.c (Q.extract rfl rfl)) ?_
            refine VA.all (rs := [8]) (by kernel_rfl) (by simp) ?_
            refine VA.forall1 ?_
            · skip
              refine VA.eff rfl ?_
              refine id (O.store ty50 rfl rfl rfl rfl zU zP ?_)
              refine VA.next (List.singleton_sublist.2 zM) Cells.nil ?_
              refine VA.take 9 rfl (by kernel_rfl) (by kernel_rfl) (by kernel_rfl) (Still.then hS) (List.singleton_sublist.2 zM) Cells.nil (by decide) (Quiet.c (Q.assign rfl)) ?_
              refine VA.done (by kernel_rfl) ?_
              refine VE.then_normal ?_
              exact VE.meetP g22_3 trivial zE zKs
  · intro gz _
    refine VC.seq ?_
    refine VC.region ?_
    refine VL.q (Q.loadA ty50 rfl zM zS) ?_
    refine VL.q (Q.build lay58 zF) ?_
    refine VL.eff (O.call0 ok15 rfl rfl (by decide) (encode_ack D hD) (fun _ _ _ => trivial) ?_)
    intro x163 y163
    refine VL.q (Q.move rfl) ?_
    refine VL.q (Q.extract rfl rfl) ?_
    refine VL.q (Q.extract rfl rfl) ?_
    refine VL.q (Q.assign rfl) ?_
    refine VL.q (Q.assign rfl) ?_
    refine VL.nil ?_
    refine VE.seq ?_
    refine VC.seq ?_
    refine VC.region ?_
    refine VL.q (Q.move rfl) ?_
    refine VL.eff (O.call0 ok16 rfl rfl (by decide) (decode_ack D hD _ _ (by omega)) (fun _ _ hw => Rd.row hw zM) ?_)
    intro x168 y168
    refine VL.q (Q.move rfl) ?_
    refine VL.q (Q.extract rfl rfl) ?_
    refine VL.q (Q.extract rfl rfl) ?_
    refine VL.eff (O.alloc zo58 (by decide) ?_)
    intro g26
    refine VL.eff (O.store ty58 rfl rfl rfl rfl zU zP ?_)
    refine VL.q (Q.assign rfl) ?_
    refine VL.nil ?_
    refine VE.seq ?_
    refine VC.seq ?_
    refine VC.region ?_
    refine VL.q (Q.move rfl) ?_
    refine VL.q (Q.fieldAddr fa48_3 rfl) ?_
    refine VL.q (Q.load1 ty3 rfl zM rfl) ?_
    refine VL.q ((by first | exact Q.addI rfl rfl (by omega) (by omega) | exact Q.add rfl rfl)) ?_
    refine VL.q (Q.fieldAddr fa48_4 rfl) ?_
    refine VL.q (Q.load1 ty3 rfl zM rfl) ?_
    refine VL.q ((by first | exact Q.addI rfl rfl (by omega) (by omega) | exact Q.add rfl rfl)) ?_
    refine VL.q (Q.assign rfl) ?_
    refine VL.nil ?_
    refine VE.seq ?_
    refine VC.seq ?_
    refine VC.seq ?_
    refine VC.region ?_
    refine VL.q (Q.move rfl) ?_
    refine VL.quietE (v' := .bool false) (by decide) (Q.ne rfl rfl) (by rfl) ?_
    refine VL.q (Q.move rfl) ?_
    refine VL.yes rfl rfl ?_
    refine VL.q (Q.move rfl) ?_
    refine VL.yes rfl rfl ?_
    refine VL.quietE (v' := .bool false) (by decide) (Q.ne rfl rfl) (by rfl) ?_
    refine VL.quietE (v' := .bool false) (by decide) (Q.pick_false rfl rfl) (by rfl) ?_
    refine VL.q (Q.move rfl) ?_
    refine VL.yes rfl rfl ?_
    refine VL.q (Q.move rfl) ?_
    refine VL.yes rfl rfl ?_
    refine VL.quietE (v' := .bool false) (by decide) (Q.ne rfl rfl) (by rfl) ?_
    refine VL.quietE (v' := .bool false) (by decide) (Q.pick_false rfl rfl) (by rfl) ?_
    refine VL.q (Q.move rfl) ?_
    refine VL.yes rfl rfl ?_
    refine VL.q (Q.fieldAddr fa58_0 rfl) ?_
    refine VL.yes rfl rfl ?_
    refine VL.q (Q.loadA ty50 rfl zM zS) ?_
    refine VL.yes rfl rfl ?_
    refine VL.q (Q.loadA ty50 rfl zM zS) ?_
    refine VL.yes rfl rfl ?_
    refine VL.quietE (v' := .bool false) (by decide) (Q.neS flt50 (by decide) ty50 eg50 rfl rfl rfl rfl) (by simp [vsEq, vEq]) ?_
    refine VL.quietE (v' := .bool false) (by decide) (Q.pick_false rfl rfl) (by rfl) ?_
    refine VL.q (Q.move rfl) ?_
    refine VL.yes rfl rfl ?_
    refine VL.q (Q.fieldAddr fa58_1 rfl) ?_
    refine VL.yes rfl rfl ?_
    refine VL.q (Q.load1 ty54 rfl zM rfl) ?_
    refine VL.yes rfl rfl ?_
    refine VL.q (Q.len sl54 rfl) ?_
    refine VL.yes rfl rfl ?_
    refine VL.quietE (v' := .bool false) (by decide) (Q.gt rfl rfl) (by rfl) ?_
    refine VL.quietE (v' := .bool false) (by decide) (Q.pick_false rfl rfl) (by rfl) ?_
    refine VL.q (Q.move rfl) ?_
    refine VL.yes rfl rfl ?_
    refine VL.q (Q.move rfl) ?_
    refine VL.yes rfl rfl ?_
    refine VL.q (Q.fieldAddr fa50_9 rfl) ?_
    refine VL.yes rfl rfl ?_
    refine VL.q (Q.load1 ty3 rfl zM rfl) ?_
    refine VL.yes rfl rfl ?_
    refine VL.q ((by first | exact Q.addI rfl rfl (by omega) (by omega) | exact Q.add rfl rfl)) ?_
    refine VL.yes rfl rfl ?_
    refine VL.q (Q.move rfl) ?_
    refine VL.yes rfl rfl ?_
    refine VL.quietE (v' := .bool false) (by decide) (Q.ne rfl rfl) (neF (by omega)) ?_
    refine VL.quietE (v' := .bool false) (by decide) (Q.pick_false rfl rfl) (by rfl) ?_
    refine VL.nil ?_
    refine VE.seq ?_
    refine VC.condF rfl ?_
    refine VC.skip ?_
    refine VE.seq ?_
    refine VC.seq ?_
    refine VK.keep (by exact .cons (i := 1) rfl (.cons (i := 7) rfl (.cons (i := 15) rfl (.cons (i := 16) rfl (.cons (i := 17) rfl (.cons (i := 18) rfl (.cons (i := 19) rfl (.cons (i := 20) rfl (.cons (i := 21) rfl (.cons (i := 22) rfl (.cons (i := 23) rfl (.cons (i := 25) rfl (.cons (i := 26) rfl (.cons (i := 28) rfl ( .nil))))))))))))))) ?_
    refine VC.region ?_
    refine VL.q (Q.build lay46 zF) ?_
    refine VL.q (Q.fieldAddr fa50_10 rfl) ?_
    refine VL.q (Q.loadA ty43 rfl zM zS) ?_
    refine VL.q (Q.fieldAddr fa58_0 rfl) ?_
    refine VL.q (Q.loadA ty50 rfl zM zS) ?_
    refine VL.q (Q.move rfl) ?_
    refine VL.q (Q.move rfl) ?_
    refine VL.eff (O.call0 ok17 rfl rfl (by decide) (own_ack D hD ((st : Int) + ps + pa) (A) (by omega) (by omega)) (fun _ _ _ => trivial) ?_)
    intro x216 y216
    refine VL.q (Q.move rfl) ?_
    refine VL.q (Q.extract rfl rfl) ?_
    refine VL.q (Q.extract rfl rfl) ?_
    refine VL.eff (O.alloc zo46 (by decide) ?_)
    intro g29
    refine VL.eff (O.store ty46 rfl rfl rfl rfl zU zP ?_)
    refine VL.q (Q.assign rfl) ?_
    refine VL.nil ?_
    refine VE.seq ?_
    refine VC.seq ?_
    refine VC.seq ?_
    refine VC.region ?_
    refine VL.q (Q.move rfl) ?_
    refine VL.quietE (v' := .bool false) (by decide) (Q.ne rfl rfl) (by rfl) ?_
    refine VL.q (Q.move rfl) ?_
    refine VL.yes rfl rfl ?_
    refine VL.q (Q.loadA ty46 rfl zM zS) ?_
    refine VL.yes rfl rfl ?_
    refine VL.q (Q.build lay46 zF) ?_
    refine VL.yes rfl rfl ?_
    refine VL.quietE (v' := .bool false) (by decide) (Q.neS flt46 (by decide) ty46 eg46 rfl rfl rfl rfl) (by rfl) ?_
    refine VL.quietE (v' := .bool false) (by decide) (Q.pick_false rfl rfl) (by rfl) ?_
    refine VL.nil ?_
    refine VE.seq ?_
    refine VC.condF rfl ?_
    refine VC.skip ?_
    refine VE.seq ?_
    refine VC.seq ?_
    refine VC.seqJ (X := Unit) (fun _z => [(238, .bool (heardP hl k)), (1, .pointer (some ⟨g1, 0, none⟩)), (7, .int .i64 A), (15, v15), (16, .int .i64 (st : Int)), (17, .pointer (some ⟨g17, 0, none⟩)), (18, .int .i64 ((st : Int) + T)), (19, .pointer (some ⟨g19, 0, none⟩)), (20, .int .i64 (k : Int)), (21, .pointer (some ⟨g21, 0, none⟩)), (26, .pointer (some ⟨g26, 0, none⟩)), (28, .int .i64 ((st : Int) + ps + pa))]) (fun _z => [.blk g26 [.int .u8 1, .int .u8 13, .bool false, .bool false, .bool false, .bool false, .bool false, .bool false, .bool false, .int .i64 (D : Int), .int .u8 2, .int .u8 0, .int .u8 0, .int .u8 0, .int .u8 0, .int .u8 2, .int .u8 0, .int .u8 0, .int .u8 0, .int .u8 0, .int .u8 0, .int .u8 0, .int .u8 0, .int .u8 0, .int .u8 0, .int .u8 0, .int .u8 0, .int .u8 0, .int .u8 0, .int .u8 0, .int .u8 0, .int .u8 0, .int .u8 0, .int .u8 0, .int .i64 0, .int .i64 0, .int .i64 0, .int .u8 0, .bool false, .bool false, .slice (some ⟨x168, 0, none⟩) 0 0] 58, .blk g21 [.int .u8 5, .bool true, .int .i64 (pi : Int), .int .i64 ps, .int .i64 pa, .int .i64 (D : Int)] 48, .blk g19 [.int .i64 u, .int .i64 l] 46, .blk g17 [.int .u8 2, .int .u8 0, .int .u8 0, .int .u8 0, .int .u8 0, .int .u8 3] 43, R, .blk g1 [x0, x1, x2, x3, x4, x5, .slice p2 hl.length c2] 27]) (fun _z => True) ?_ ?_
    · skip
      refine VC.region ?_
      refine VL.q (Q.move rfl) ?_
      refine VL.q (Q.fieldAddr fa27_6 rfl) ?_
      refine VL.q (Q.load1 ty25 rfl zM rfl) ?_
      refine VL.q (Q.len sl25 rfl) ?_
      refine VL.q (Q.lt rfl rfl) ?_
      refine VL.q (Q.move rfl) ?_
      refine VK.case 231 rfl ?_ ?_
      · intro h231
        have hlk : k < hl.length := by have := of_decide_eq_true h231; omega
        obtain ⟨b1, o1, rfl, hc1⟩ := hrh k _ (bls_get hl k hlk)
        refine VL.yes rfl rfl ?_
        refine VL.q (Q.fieldAddr fa27_6 rfl) ?_
        refine VL.yes rfl rfl ?_
        refine VL.q (Q.load1 ty25 rfl zM rfl) ?_
        refine VL.yes rfl rfl ?_
        refine VL.q (Q.move rfl) ?_
        refine VL.yes rfl rfl ?_
        refine VL.q (Q.indexAddr sl25 (j := k) rfl rfl rfl hlk) ?_
        refine VL.yes rfl rfl ?_
        refine VL.q (Q.load0 ty4 rfl (by simpa using hc1) (by simp)) ?_
        refine VL.yes rfl rfl ?_
        refine VL.q (Q.not rfl) ?_
        refine VL.q (Q.pick_true rfl rfl) ?_
        refine VL.nil ?_
        refine VE.then_normal ?_
        exact VE.meetP () trivial (.cons (eBool (by simp [heardP, hlk])) zE) zKs
      · intro h231
        have hlk : ¬ k < hl.length := by have := of_decide_eq_false h231; omega
        refine VL.no (by simp) rfl rfl (.inl rfl) ?_
        refine VL.no (by simp) rfl rfl (.inl rfl) ?_
        refine VL.no (by simp) rfl rfl (.inl rfl) ?_
        refine VL.no (by simp) rfl rfl (.inl rfl) ?_
        refine VL.no (by simp) rfl rfl (.inl rfl) ?_
        refine VL.no (by simp) rfl rfl (.inl rfl) ?_
        refine VL.quietE (v' := .bool false) (by decide) (Q.pick_false rfl rfl) (by rfl) ?_
        refine VL.nil ?_
        refine VE.then_normal ?_
        exact VE.meetP () trivial (.cons (eBool (by simp [heardP, hlk])) zE) zKs
    · intro _ _
      refine VC.cond rfl ?_ ?_
      · intro h238
        refine VC.exit ?_
        refine VE.then_exit ?_
        exact VE.give zE zB hc
      · intro h238
        refine VC.skip ?_
        refine VE.seq ?_
        refine VC.seq ?_
        refine VC.region ?_
        refine VL.q (Q.loadA ty46 rfl zM zS) ?_
        refine VL.q (Q.loadA ty43 rfl zM zS) ?_
        refine VL.q (Q.fieldAddr fa58_0 rfl) ?_
        refine VL.q (Q.loadA ty50 rfl zM zS) ?_
        refine VL.q (Q.move rfl) ?_
        refine VL.q (Q.move rfl) ?_
        have hcall := heard_ack u l (navI_ok hnv (by omega)) D hD ((st : Int) + ps + pa) (A) (by omega) (by omega)
        rw [hnU, hnL] at hcall
        refine VL.eff (O.call0 ok17 rfl rfl (by decide) (hcall) (fun _ _ _ => trivial) ?_)
        intro x246 y246
        refine VL.q (Q.move rfl) ?_
        refine VL.q (Q.extract rfl rfl) ?_
        refine VL.q (Q.extract rfl rfl) ?_
        refine VL.eff (O.alloc zo46 (by decide) ?_)
        intro g30
        refine VL.eff (O.store ty46 rfl rfl rfl rfl zU zP ?_)
        refine VL.q (Q.assign rfl) ?_
        refine VL.nil ?_
        refine VE.seq ?_
        refine VC.seq ?_
        refine VC.region ?_
        refine VL.q (Q.loadA ty46 rfl zM zS) ?_
        have hno : navOk ((st : Int) + T) 0 := ⟨by omega, by omega⟩
        have hcall2 := until2_c ((st : Int) + T) 0 hno
        rw [until0] at hcall2
        refine VL.eff (O.call0 ok18 rfl rfl (by decide) (hcall2) (fun _ _ _ => trivial) ?_)
        intro x251 y251
        refine VL.q (Q.move rfl) ?_
        refine VL.q (Q.extract rfl rfl) ?_
        refine VL.q (Q.extract rfl rfl) ?_
        refine VL.q (Q.assign rfl) ?_
        refine VL.q (Q.assign rfl) ?_
        refine VL.nil ?_
        refine VE.seq ?_
        refine VC.seq ?_
        refine VC.region ?_
        refine VL.q (Q.move rfl) ?_
        refine VL.q (Q.assign rfl) ?_
        refine VL.q (Q.assign rfl) ?_
        refine VL.nil ?_
        refine VE.seq ?_
        refine VC.seq ?_
        refine VC.seq ?_
        refine VC.region ?_
        refine VL.q (Q.fieldAddr fa48_0 rfl) ?_
        refine VL.q (Q.load1 ty5 rfl zM rfl) ?_
        refine VL.quietE (v' := .bool false) (by decide) (Q.eq rfl rfl) (by rfl) ?_
        refine VL.nil ?_
        refine VE.seq ?_
        refine VC.condF rfl ?_
        refine VC.skip ?_
        refine VE.seq ?_
        refine VC.seq ?_
        refine VC.seq ?_
        refine VC.region ?_
        refine VL.q (Q.move rfl) ?_
        refine VL.quietE (v' := .bool false) (by decide) (Q.ne rfl rfl) (by rfl) ?_
        refine VL.q (Q.move rfl) ?_
        refine VL.yes rfl rfl ?_
        refine VL.q (Q.move rfl) ?_
        refine VL.yes rfl rfl ?_
        refine VL.quietE (v' := .bool false) (by decide) (Q.ne rfl rfl) (by rfl) ?_
        refine VL.quietE (v' := .bool false) (by decide) (Q.pick_false rfl rfl) (by rfl) ?_
        refine VL.q (Q.move rfl) ?_
        refine VL.yes rfl rfl ?_
        refine VL.q (Q.fieldAddr fa46_0 rfl) ?_
        refine VL.yes rfl rfl ?_
        refine VL.q (Q.load1 ty3 rfl zM rfl) ?_
        refine VL.yes rfl rfl ?_
        refine VL.q (Q.move rfl) ?_
        refine VL.yes rfl rfl ?_
        refine VL.quietE (v' := .bool false) (by decide) (Q.ne rfl rfl) (neF rfl) ?_
        refine VL.quietE (v' := .bool false) (by decide) (Q.pick_false rfl rfl) (by rfl) ?_
        refine VL.q (Q.move rfl) ?_
        refine VL.yes rfl rfl ?_
        refine VL.q (Q.fieldAddr fa46_1 rfl) ?_
        refine VL.yes rfl rfl ?_
        refine VL.q (Q.load1 ty3 rfl zM rfl) ?_
        refine VL.yes rfl rfl ?_
        refine VL.q (Q.move rfl) ?_
        refine VL.yes rfl rfl ?_
        refine VL.quietE (v' := .bool false) (by decide) (Q.ne rfl rfl) (neF rfl) ?_
        refine VL.quietE (v' := .bool false) (by decide) (Q.pick_false rfl rfl) (by rfl) ?_
        refine VL.q (Q.move rfl) ?_
        refine VL.yes rfl rfl ?_
        refine VL.q (Q.move rfl) ?_
        refine VL.yes rfl rfl ?_
        refine VL.q (Q.move rfl) ?_
        refine VL.yes rfl rfl ?_
        refine VL.quietE (v' := .bool false) (by decide) (Q.ne rfl rfl) (neF rfl) ?_
        refine VL.quietE (v' := .bool false) (by decide) (Q.pick_false rfl rfl) (by rfl) ?_
        refine VL.nil ?_
        refine VE.seq ?_
        refine VC.condF rfl ?_
        refine VC.skip ?_
        refine VE.seq ?_
        refine VC.seq ?_
        refine VK.keep (by exact .cons (i := 1) rfl (.cons (i := 7) rfl (.cons (i := 15) rfl (.cons (i := 16) rfl (.cons (i := 17) rfl (.cons (i := 18) rfl (.cons (i := 19) rfl (.cons (i := 20) rfl (.cons (i := 23) rfl (.cons (i := 25) rfl (.cons (i := 28) rfl (.cons (i := 30) rfl (.cons (i := 32) rfl ( .nil)))))))))))))) ?_
        refine VC.region ?_
        refine VL.q (Q.loadA ty46 rfl zM zS) ?_
        refine VL.q (Q.move rfl) ?_
        refine VL.q ((by first | exact Q.subI rfl rfl (by omega) (by omega) | exact Q.sub rfl rfl)) ?_
        have hcall3 := reserved_c ((st : Int) + T) 0 hno (((st : Int) + T) - 1) (by omega)
        rw [until0] at hcall3
        refine VL.eff (O.call0 ok19 rfl rfl (by decide) (hcall3) (fun _ _ _ => trivial) ?_)
        intro x293 y293
        refine VL.q (Q.move rfl) ?_
        refine VL.quietE (v' := .bool true) (by decide) (Q.extract rfl rfl) (congrArg Value.bool (decide_eq_true (by omega))) ?_
        refine VL.q (Q.extract rfl rfl) ?_
        refine VL.q (Q.assign rfl) ?_
        refine VL.q (Q.assign rfl) ?_
        refine VL.nil ?_
        refine VE.seq ?_
        refine VC.seq ?_
        refine VC.region ?_
        refine VL.q (Q.loadA ty46 rfl zM zS) ?_
        refine VL.q (Q.move rfl) ?_
        have hcall3 := reserved_c ((st : Int) + T) 0 hno (((st : Int) + T)) (by omega)
        rw [until0] at hcall3
        refine VL.eff (O.call0 ok19 rfl rfl (by decide) (hcall3) (fun _ _ _ => trivial) ?_)
        intro x299 y299
        refine VL.q (Q.move rfl) ?_
        refine VL.quietE (v' := .bool false) (by decide) (Q.extract rfl rfl) (congrArg Value.bool (decide_eq_false (by omega))) ?_
        refine VL.q (Q.extract rfl rfl) ?_
        refine VL.q (Q.assign rfl) ?_
        refine VL.q (Q.assign rfl) ?_
        refine VL.nil ?_
        refine VE.seq ?_
        refine VC.seq ?_
        refine VC.seq ?_
        refine VC.region ?_
        refine VL.q (Q.move rfl) ?_
        refine VL.quietE (v' := .bool false) (by decide) (Q.ne rfl rfl) (by rfl) ?_
        refine VL.q (Q.move rfl) ?_
        refine VL.yes rfl rfl ?_
        refine VL.q (Q.move rfl) ?_
        refine VL.yes rfl rfl ?_
        refine VL.quietE (v' := .bool false) (by decide) (Q.ne rfl rfl) (by rfl) ?_
        refine VL.quietE (v' := .bool false) (by decide) (Q.pick_false rfl rfl) (by rfl) ?_
        refine VL.q (Q.move rfl) ?_
        refine VL.yes rfl rfl ?_
        refine VL.q (Q.move rfl) ?_
        refine VL.yes rfl rfl ?_
        refine VL.quietE (v' := .bool false) (by decide) (Q.not rfl) (by rfl) ?_
        refine VL.quietE (v' := .bool false) (by decide) (Q.pick_false rfl rfl) (by rfl) ?_
        refine VL.q (Q.move rfl) ?_
        refine VL.yes rfl rfl ?_
        refine VL.q (Q.move rfl) ?_
        refine VL.quietE (v' := .bool false) (by decide) (Q.pick_false rfl rfl) (by rfl) ?_
        refine VL.nil ?_
        refine VE.seq ?_
        refine VC.condF rfl ?_
        refine VC.skip ?_
        refine VE.seq ?_
        refine VC.seq ?_
        refine VC.seq ?_
        refine VC.region ?_
        refine VL.q (Q.assign rfl) ?_
        refine VL.nil ?_
        refine VE.seq ?_
        refine VC.block ?_
        refine VC.rounds 40 ?_
        refine VC.rnd (m := 39) ?_
        refine VC.seq ?_
        refine VC.seq ?_
        refine VC.region ?_
        refine VL.q (Q.move rfl) ?_
        refine VL.quietE (v' := .bool true) (by decide) (Q.lt rfl rfl) (by rfl) ?_
        refine VL.nil ?_
        refine VE.seq ?_
        refine VC.condT rfl ?_
        refine VC.skip ?_
        refine VE.seq ?_
        refine VC.seq ?_
        refine VC.block ?_
        refine VC.seq ?_
        refine VC.region ?_
        refine VL.q (Q.move rfl) ?_
        refine VL.eff (O.call0 ok20 rfl rfl (by decide) (space_0) (fun _ ho _ => hsl.only0 ho) ?_)
        intro x321 y321
        refine VL.q (Q.move rfl) ?_
        refine VL.q (Q.extract rfl rfl) ?_
        refine VL.q (Q.extract rfl rfl) ?_
        refine VL.q (Q.assign rfl) ?_
        refine VL.q (Q.assign rfl) ?_
        refine VL.nil ?_
        refine VE.seq ?_
        refine VC.seq ?_
        refine VC.region ?_
        refine VL.q (Q.loadA ty46 rfl zM zS) ?_
        refine VL.q (Q.move rfl) ?_
        refine VL.q (Q.move rfl) ?_
        have hcall4 := earliest_0 ((st : Int) + T) 0 hno ((st : Int) + ps + pa) (by omega)
        rw [until0] at hcall4
        refine VL.eff (O.call0 ok21 rfl rfl (by decide) (hcall4) (fun _ ho _ => hsl.only0 ho) ?_)
        intro x328 y328
        refine VL.q (Q.move rfl) ?_
        refine VL.q (Q.extract rfl rfl) ?_
        refine VL.q (Q.extract rfl rfl) ?_
        refine VL.q (Q.assign rfl) ?_
        refine VL.q (Q.assign rfl) ?_
        refine VL.nil ?_
        refine VE.seq ?_
        refine VC.seq ?_
        refine VK.keep (by exact .cons (i := 1) rfl (.cons (i := 7) rfl (.cons (i := 15) rfl (.cons (i := 16) rfl (.cons (i := 17) rfl (.cons (i := 18) rfl (.cons (i := 19) rfl (.cons (i := 20) rfl (.cons (i := 28) rfl (.cons (i := 30) rfl (.cons (i := 32) rfl (.cons (i := 36) rfl (.cons (i := 37) rfl (.cons (i := 38) rfl (.cons (i := 39) rfl (.cons (i := 40) rfl (.cons (i := 315) rfl (.cons (i := 316) rfl (.cons (i := 319) rfl (.cons (i := 320) rfl (.cons (i := 321) rfl (.cons (i := 322) rfl (.cons (i := 323) rfl (.cons (i := 324) rfl (.cons (i := 325) rfl (.cons (i := 326) rfl (.cons (i := 327) rfl (.cons (i := 328) rfl (.cons (i := 329) rfl (.cons (i := 330) rfl ( .nil))))))))))))))))))))))))))))))) ?_
        refine VC.region ?_
        refine VL.q (Q.move rfl) ?_
        refine VL.quietE (v' := .bool false) (by decide) (Q.ne rfl rfl) (by rfl) ?_
        refine VL.q (Q.move rfl) ?_
        refine VL.yes rfl rfl ?_
        refine VL.q (Q.move rfl) ?_
        refine VL.yes rfl rfl ?_
        refine VL.quietE (v' := .bool false) (by decide) (Q.ne rfl rfl) (by rfl) ?_
        refine VL.quietE (v' := .bool false) (by decide) (Q.pick_false rfl rfl) (by rfl) ?_
        refine VL.q (Q.move rfl) ?_
        refine VL.yes rfl rfl ?_
        refine VL.q (Q.move rfl) ?_
        refine VL.yes rfl rfl ?_
        refine VL.q (Q.move rfl) ?_
        refine VL.yes rfl rfl ?_
        refine VL.q (Q.move rfl) ?_
        refine VL.yes rfl rfl ?_
        refine VL.q ((by first | exact Q.addI rfl rfl (by omega) (by omega) | exact Q.add rfl rfl)) ?_
        refine VL.yes rfl rfl ?_
        refine VL.quietE (v' := .bool false) (by decide) (Q.ne rfl rfl) (neF (by split <;> omega)) ?_
        refine VL.quietE (v' := .bool false) (by decide) (Q.pick_false rfl rfl) (by rfl) ?_
        refine VL.nil ?_
        refine VE.seq ?_
        refine VC.condF rfl ?_
        refine VC.skip ?_
        refine VE.block_normal ?_
        refine VE.seq ?_
        refine VC.region ?_
        refine VL.q (Q.move rfl) ?_
        refine VL.quietE (v' := .int .u8 1) (by decide) ((by first | exact Q.addF rfl rfl (by simp only [klo]; omega) (by simp only [khi]; omega) | exact Q.addM (M := 256) rfl rfl rfl rfl)) (by rfl) ?_
        refine VL.q (Q.assign rfl) ?_
        refine VL.nil ?_
        refine VE.then_normal ?_
        refine VC.rnd (m := 38) ?_
        refine VC.seq ?_
        refine VC.seq ?_
        refine VC.region ?_
        refine VL.q (Q.move rfl) ?_
        refine VL.quietE (v' := .bool true) (by decide) (Q.lt rfl rfl) (by rfl) ?_
        refine VL.nil ?_
        refine VE.seq ?_
        refine VC.condT rfl ?_
        refine VC.skip ?_
        refine VE.seq ?_
        refine VC.seq ?_
        refine VC.block ?_
        refine VC.seq ?_
        refine VC.region ?_
        refine VL.q (Q.move rfl) ?_
        refine VL.eff (O.call0 ok20 rfl rfl (by decide) (space_1) (fun _ ho _ => hsl.only0 ho) ?_)
        intro x321_1 y321_1
        refine VL.q (Q.move rfl) ?_
        refine VL.q (Q.extract rfl rfl) ?_
        refine VL.q (Q.extract rfl rfl) ?_
        refine VL.q (Q.assign rfl) ?_
        refine VL.q (Q.assign rfl) ?_
        refine VL.nil ?_
        refine VE.seq ?_
        refine VC.seq ?_
        refine VC.region ?_
        refine VL.q (Q.loadA ty46 rfl zM zS) ?_
        refine VL.q (Q.move rfl) ?_
        refine VL.q (Q.move rfl) ?_
        have hcall4 := earliest_1 ((st : Int) + T) 0 hno ((st : Int) + ps + pa) (by omega)
        rw [until0] at hcall4
        refine VL.eff (O.call0 ok21 rfl rfl (by decide) (hcall4) (fun _ ho _ => hsl.only0 ho) ?_)
        intro x328_1 y328_1
        refine VL.q (Q.move rfl) ?_
        refine VL.q (Q.extract rfl rfl) ?_
        refine VL.q (Q.extract rfl rfl) ?_
        refine VL.q (Q.assign rfl) ?_
        refine VL.q (Q.assign rfl) ?_
        refine VL.nil ?_
        refine VE.seq ?_
        refine VC.seq ?_
        refine VC.region ?_
        refine VL.q (Q.move rfl) ?_
        refine VL.quietE (v' := .bool false) (by decide) (Q.ne rfl rfl) (by rfl) ?_
        refine VL.q (Q.move rfl) ?_
        refine VL.yes rfl rfl ?_
        refine VL.q (Q.move rfl) ?_
        refine VL.yes rfl rfl ?_
        refine VL.quietE (v' := .bool false) (by decide) (Q.ne rfl rfl) (by rfl) ?_
        refine VL.quietE (v' := .bool false) (by decide) (Q.pick_false rfl rfl) (by rfl) ?_
        refine VL.q (Q.move rfl) ?_
        refine VL.yes rfl rfl ?_
        refine VL.q (Q.move rfl) ?_
        refine VL.yes rfl rfl ?_
        refine VL.q (Q.move rfl) ?_
        refine VL.yes rfl rfl ?_
        refine VL.q (Q.move rfl) ?_
        refine VL.yes rfl rfl ?_
        refine VL.q ((by first | exact Q.addI rfl rfl (by omega) (by omega) | exact Q.add rfl rfl)) ?_
        refine VL.yes rfl rfl ?_
        refine VL.quietE (v' := .bool false) (by decide) (Q.ne rfl rfl) (neF (by split <;> omega)) ?_
        refine VL.quietE (v' := .bool false) (by decide) (Q.pick_false rfl rfl) (by rfl) ?_
        refine VL.nil ?_
        refine VE.seq ?_
        refine VC.condF rfl ?_
        refine VC.skip ?_
        refine VE.block_normal ?_
        refine VE.seq ?_
        refine VC.region ?_
        refine VL.q (Q.move rfl) ?_
        refine VL.quietE (v' := .int .u8 2) (by decide) ((by first | exact Q.addF rfl rfl (by simp only [klo]; omega) (by simp only [khi]; omega) | exact Q.addM (M := 256) rfl rfl rfl rfl)) (by rfl) ?_
        refine VL.q (Q.assign rfl) ?_
        refine VL.nil ?_
        refine VE.then_normal ?_
        refine VC.rnd (m := 37) ?_
        refine VC.seq ?_
        refine VC.seq ?_
        refine VC.region ?_
        refine VL.q (Q.move rfl) ?_
        refine VL.quietE (v' := .bool true) (by decide) (Q.lt rfl rfl) (by rfl) ?_
        refine VL.nil ?_
        refine VE.seq ?_
        refine VC.condT rfl ?_
        refine VC.skip ?_
        refine VE.seq ?_
        refine VC.seq ?_
        refine VC.block ?_
        refine VC.seq ?_
        refine VC.region ?_
        refine VL.q (Q.move rfl) ?_
        refine VL.eff (O.call0 ok20 rfl rfl (by decide) (space_2) (fun _ ho _ => hsl.only0 ho) ?_)
        intro x321_2 y321_2
        refine VL.q (Q.move rfl) ?_
        refine VL.q (Q.extract rfl rfl) ?_
        refine VL.q (Q.extract rfl rfl) ?_
        refine VL.q (Q.assign rfl) ?_
        refine VL.q (Q.assign rfl) ?_
        refine VL.nil ?_
        refine VE.seq ?_
        refine VC.seq ?_
        refine VC.region ?_
        refine VL.q (Q.loadA ty46 rfl zM zS) ?_
        refine VL.q (Q.move rfl) ?_
        refine VL.q (Q.move rfl) ?_
        have hcall4 := earliest_2 ((st : Int) + T) 0 hno ((st : Int) + ps + pa) (by omega)
        rw [until0] at hcall4
        refine VL.eff (O.call0 ok21 rfl rfl (by decide) (hcall4) (fun _ ho _ => hsl.only0 ho) ?_)
        intro x328_2 y328_2
        refine VL.q (Q.move rfl) ?_
        refine VL.q (Q.extract rfl rfl) ?_
        refine VL.q (Q.extract rfl rfl) ?_
        refine VL.q (Q.assign rfl) ?_
        refine VL.q (Q.assign rfl) ?_
        refine VL.nil ?_
        refine VE.seq ?_
        refine VC.seq ?_
        refine VC.region ?_
        refine VL.q (Q.move rfl) ?_
        refine VL.quietE (v' := .bool false) (by decide) (Q.ne rfl rfl) (by rfl) ?_
        refine VL.q (Q.move rfl) ?_
        refine VL.yes rfl rfl ?_
        refine VL.q (Q.move rfl) ?_
        refine VL.yes rfl rfl ?_
        refine VL.quietE (v' := .bool false) (by decide) (Q.ne rfl rfl) (by rfl) ?_
        refine VL.quietE (v' := .bool false) (by decide) (Q.pick_false rfl rfl) (by rfl) ?_
        refine VL.q (Q.move rfl) ?_
        refine VL.yes rfl rfl ?_
        refine VL.q (Q.move rfl) ?_
        refine VL.yes rfl rfl ?_
        refine VL.q (Q.move rfl) ?_
        refine VL.yes rfl rfl ?_
        refine VL.q (Q.move rfl) ?_
        refine VL.yes rfl rfl ?_
        refine VL.q ((by first | exact Q.addI rfl rfl (by omega) (by omega) | exact Q.add rfl rfl)) ?_
        refine VL.yes rfl rfl ?_
        refine VL.quietE (v' := .bool false) (by decide) (Q.ne rfl rfl) (neF (by split <;> omega)) ?_
        refine VL.quietE (v' := .bool false) (by decide) (Q.pick_false rfl rfl) (by rfl) ?_
        refine VL.nil ?_
        refine VE.seq ?_
        refine VC.condF rfl ?_
        refine VC.skip ?_
        refine VE.block_normal ?_
        refine VE.seq ?_
        refine VC.region ?_
        refine VL.q (Q.move rfl) ?_
        refine VL.quietE (v' := .int .u8 3) (by decide) ((by first | exact Q.addF rfl rfl (by simp only [klo]; omega) (by simp only [khi]; omega) | exact Q.addM (M := 256) rfl rfl rfl rfl)) (by rfl) ?_
        refine VL.q (Q.assign rfl) ?_
        refine VL.nil ?_
        refine VE.then_normal ?_
        refine VC.rnd (m := 36) ?_
        refine VC.seq ?_
        refine VC.seq ?_
        refine VC.region ?_
        refine VL.q (Q.move rfl) ?_
        refine VL.quietE (v' := .bool true) (by decide) (Q.lt rfl rfl) (by rfl) ?_
        refine VL.nil ?_
        refine VE.seq ?_
        refine VC.condT rfl ?_
        refine VC.skip ?_
        refine VE.seq ?_
        refine VC.seq ?_
        refine VC.block ?_
        refine VC.seq ?_
        refine VC.region ?_
        refine VL.q (Q.move rfl) ?_
        refine VL.eff (O.call0 ok20 rfl rfl (by decide) (space_3) (fun _ ho _ => hsl.only0 ho) ?_)
        intro x321_3 y321_3
        refine VL.q (Q.move rfl) ?_
        refine VL.q (Q.extract rfl rfl) ?_
        refine VL.q (Q.extract rfl rfl) ?_
        refine VL.q (Q.assign rfl) ?_
        refine VL.q (Q.assign rfl) ?_
        refine VL.nil ?_
        refine VE.seq ?_
        refine VC.seq ?_
        refine VC.region ?_
        refine VL.q (Q.loadA ty46 rfl zM zS) ?_
        refine VL.q (Q.move rfl) ?_
        refine VL.q (Q.move rfl) ?_
        have hcall4 := earliest_3 ((st : Int) + T) 0 hno ((st : Int) + ps + pa) (by omega)
        rw [until0] at hcall4
        refine VL.eff (O.call0 ok21 rfl rfl (by decide) (hcall4) (fun _ ho _ => hsl.only0 ho) ?_)
        intro x328_3 y328_3
        refine VL.q (Q.move rfl) ?_
        refine VL.q (Q.extract rfl rfl) ?_
        refine VL.q (Q.extract rfl rfl) ?_
        refine VL.q (Q.assign rfl) ?_
        refine VL.q (Q.assign rfl) ?_
        refine VL.nil ?_
        refine VE.seq ?_
        refine VC.seq ?_
        refine VC.region ?_
        refine VL.q (Q.move rfl) ?_
        refine VL.quietE (v' := .bool false) (by decide) (Q.ne rfl rfl) (by rfl) ?_
        refine VL.q (Q.move rfl) ?_
        refine VL.yes rfl rfl ?_
        refine VL.q (Q.move rfl) ?_
        refine VL.yes rfl rfl ?_
        refine VL.quietE (v' := .bool false) (by decide) (Q.ne rfl rfl) (by rfl) ?_
        refine VL.quietE (v' := .bool false) (by decide) (Q.pick_false rfl rfl) (by rfl) ?_
        refine VL.q (Q.move rfl) ?_
        refine VL.yes rfl rfl ?_
        refine VL.q (Q.move rfl) ?_
        refine VL.yes rfl rfl ?_
        refine VL.q (Q.move rfl) ?_
        refine VL.yes rfl rfl ?_
        refine VL.q (Q.move rfl) ?_
        refine VL.yes rfl rfl ?_
        refine VL.q ((by first | exact Q.addI rfl rfl (by omega) (by omega) | exact Q.add rfl rfl)) ?_
        refine VL.yes rfl rfl ?_
        refine VL.quietE (v' := .bool false) (by decide) (Q.ne rfl rfl) (neF (by split <;> omega)) ?_
        refine VL.quietE (v' := .bool false) (by decide) (Q.pick_false rfl rfl) (by rfl) ?_
        refine VL.nil ?_
        refine VE.seq ?_
        refine VC.condF rfl ?_
        refine VC.skip ?_
        refine VE.block_normal ?_
        refine VE.seq ?_
        refine VC.region ?_
        refine VL.q (Q.move rfl) ?_
        refine VL.quietE (v' := .int .u8 4) (by decide) ((by first | exact Q.addF rfl rfl (by simp only [klo]; omega) (by simp only [khi]; omega) | exact Q.addM (M := 256) rfl rfl rfl rfl)) (by rfl) ?_
        refine VL.q (Q.assign rfl) ?_
        refine VL.nil ?_
        refine VE.then_normal ?_
        refine VC.rnd (m := 35) ?_
        refine VC.seq ?_
        refine VC.seq ?_
        refine VC.region ?_
        refine VL.q (Q.move rfl) ?_
        refine VL.quietE (v' := .bool false) (by decide) (Q.lt rfl rfl) (by rfl) ?_
        refine VL.nil ?_
        refine VE.seq ?_
        refine VC.condF rfl ?_
        refine VC.exit ?_
        refine VE.then_exit ?_
        refine VE.then_exit ?_
        refine VE.block_here ?_
        refine VE.seq ?_
        refine VC.region ?_
        refine VL.q (Q.loadA ty46 rfl zM zS) ?_
        refine VL.eff (O.store ty46 rfl rfl rfl rfl zU zP ?_)
        refine VL.nil ?_
        exact VE.give zE zB hn

theorem round_6 (W0 : World) (hsub : Subs W0) (hsl : Rd W0 (some ⟨1, 0, none⟩) [.int .i64 7, .int .i64 3, .int .i64 2, .int .i64 2]) (hl : List Bool) (p2 : Option Addr) (c2 : Nat) (hrh : Rd W0 p2 (bls hl)) (x0 x1 x2 x3 x4 x5 v15 : Value) (R : Rs) (st : Nat) (T A : Int) (k : Nat) (u l : Int) (pi : Nat) (ps pa : Int) (D : Nat) (g1 g17 g19 g21 : Nat) (hst : st ≤ 4294967295) (hps : 0 ≤ ps) (hpa : 1 ≤ pa) (hsum : ps + pa + D = T) (hD : D ≤ 32767) (hT : T ≤ 2000000) (hA : 1 ≤ A ∧ A ≤ 32767) (hnv : navI ((st : Int) + T) k u l) (QQ : Exit → Act → World → Prop) (hS : Still QQ) (hn : VK W0 (List.flatMap Rs.ids []) 347 (fun a W => QQ .normal a W) [(1, .pointer (some ⟨g1, 0, none⟩)), (7, .int .i64 A), (15, v15), (16, .int .i64 (st : Int)), (17, .pointer (some ⟨g17, 0, none⟩)), (18, .int .i64 ((st : Int) + T)), (19, .pointer (some ⟨g19, 0, none⟩)), (20, .int .i64 (k : Int))] [.blk g19 [.int .i64 ((st : Int) + T), .int .i64 0] 46, .blk g17 [.int .u8 2, .int .u8 0, .int .u8 0, .int .u8 0, .int .u8 0, .int .u8 3] 43, R, .blk g1 [x0, x1, x2, x3, x4, x5, .slice p2 hl.length c2] 27]) (hc : VK W0 (List.flatMap Rs.ids []) 347 (fun a W => QQ (.exit 3) a W) [(1, .pointer (some ⟨g1, 0, none⟩)), (7, .int .i64 A), (15, v15), (16, .int .i64 (st : Int)), (17, .pointer (some ⟨g17, 0, none⟩)), (18, .int .i64 ((st : Int) + T)), (19, .pointer (some ⟨g19, 0, none⟩)), (20, .int .i64 (k : Int))] [.blk g19 [.int .i64 u, .int .i64 l] 46, .blk g17 [.int .u8 2, .int .u8 0, .int .u8 0, .int .u8 0, .int .u8 0, .int .u8 3] 43, R, .blk g1 [x0, x1, x2, x3, x4, x5, .slice p2 hl.length c2] 27]) :
    VK W0 (List.flatMap Rs.ids []) 347 ((bodyAt Tryd.f4 [1, 1, 1, 1, 1, 1, 1, 1, 1, 1, 1, 1, 1, 1, 0, 1, 0, 0, 1, 0, 0, 1]).wp Tryd.prog QQ) [(1, .pointer (some ⟨g1, 0, none⟩)), (7, .int .i64 A), (15, v15), (16, .int .i64 (st : Int)), (17, .pointer (some ⟨g17, 0, none⟩)), (18, .int .i64 ((st : Int) + T)), (19, .pointer (some ⟨g19, 0, none⟩)), (20, .int .i64 (k : Int)), (21, .pointer (some ⟨g21, 0, none⟩))] [.blk g21 [.int .u8 6, .bool false, .int .i64 (pi : Int), .int .i64 ps, .int .i64 pa, .int .i64 (D : Int)] 48, .blk g19 [.int .i64 u, .int .i64 l] 46, .blk g17 [.int .u8 2, .int .u8 0, .int .u8 0, .int .u8 0, .int .u8 0, .int .u8 3] 43, R, .blk g1 [x0, x1, x2, x3, x4, x5, .slice p2 hl.length c2] 27] := by
  have hnx := hear_law (ans := A) false hnv ((fun h => by cases h)) (show ((st : Int) + ps + pa) + (D : Int) = ((st : Int) + T) by omega) (by omega) (by omega) (by omega)
  obtain ⟨hnU, hnL⟩ := hnx
  rw [if_neg (by decide)] at hnL
  refine VC.seqJ (X := Nat) (fun z => [(1, .pointer (some ⟨g1, 0, none⟩)), (7, .int .i64 A), (15, v15), (16, .int .i64 (st : Int)), (17, .pointer (some ⟨g17, 0, none⟩)), (18, .int .i64 ((st : Int) + T)), (19, .pointer (some ⟨g19, 0, none⟩)), (20, .int .i64 (k : Int)), (21, .pointer (some ⟨g21, 0, none⟩)), (22, .pointer (some ⟨z, 0, none⟩)), (23, .int .i64 0)]) (fun z => [.blk z [.int .u8 1, .int .u8 8, .bool false, .bool false, .bool false, .bool false, .bool false, .bool false, .bool false, .int .i64 (D : Int), .int .u8 2, .int .u8 0, .int .u8 0, .int .u8 0, .int .u8 0, .int .u8 1, .int .u8 2, .int .u8 0, .int .u8 0, .int .u8 0, .int .u8 0, .int .u8 2, .int .u8 0, .int .u8 0, .int .u8 0, .int .u8 0, .int .u8 0, .int .u8 0, .int .u8 0, .int .u8 0, .int .u8 0, .int .u8 0, .int .u8 0, .int .u8 0, .int .i64 0, .int .i64 0, .int .i64 0, .int .u8 0, .bool false, .bool false] 50, .blk g21 [.int .u8 6, .bool false, .int .i64 (pi : Int), .int .i64 ps, .int .i64 pa, .int .i64 (D : Int)] 48, .blk g19 [.int .i64 u, .int .i64 l] 46, .blk g17 [.int .u8 2, .int .u8 0, .int .u8 0, .int .u8 0, .int .u8 0, .int .u8 3] 43, R, .blk g1 [x0, x1, x2, x3, x4, x5, .slice p2 hl.length c2] 27]) (fun z => True) ?_ ?_
  · skip
    refine VA.start (Ls := [.blk g21 [.int .u8 6, .bool false, .int .i64 (pi : Int), .int .i64 ps, .int .i64 pa, .int .i64 (D : Int)] 48]) (Cs := []) mixed ?_
    refine VA.take 0 rfl (by kernel_rfl) (by kernel_rfl) (by kernel_rfl) (Still.then hS) (List.singleton_sublist.2 zM) Cells.nil (by decide) (Quiet.c (Q.loadA ty48 rfl zM zS)) ?_
    refine VA.all (rs := [1, 7]) (by kernel_rfl) (by simp) ?_
    refine VA.forall2 ?_ ?_
    · skip
      refine VA.eff rfl ?_
      refine id (O.call0 ok13 rfl rfl (by decide) (station_c) (fun _ _ _ => trivial) ?_)
      intro x155 y155
      refine VA.next (List.singleton_sublist.2 zM) Cells.nil ?_
      refine VA.all (rs := [2, 7]) (by kernel_rfl) (by simp) ?_
      refine VA.forall2 ?_ ?_
      · skip
        refine VA.eff rfl ?_
        refine id (O.call0 ok14 rfl rfl (by decide) (point_c) (fun _ _ _ => trivial) ?_)
        intro x156 y156
        refine VA.next (List.singleton_sublist.2 zM) Cells.nil ?_
        refine VA.all (rs := [3, 7]) (by kernel_rfl) (by simp) ?_
        refine VA.forall2 ?_ ?_
        · skip
          refine VA.eff rfl ?_
          refine id (O.call0 ok12 rfl rfl (by decide) (xheader_6 pi ps pa D hD) (fun _ ho _ => hsub.only ho) ?_)
          intro x157 y157
          refine VA.next (List.singleton_sublist.2 zM) Cells.nil ?_
          refine VA.take 4 rfl (by kernel_rfl) (by kernel_rfl) (by kernel_rfl) (Still.then hS) (List.singleton_sublist.2 zM) Cells.nil (by decide) (Quiet.c (Q.move rfl)) ?_
          refine VA.take 5 rfl (by kernel_rfl) (by kernel_rfl) (by kernel_rfl) (Still.then hS) (List.singleton_sublist.2 zM) Cells.nil (by decide) (Quiet.c (Q.extract rfl rfl)) ?_
          refine VA.take 6 rfl (by kernel_rfl) (by kernel_rfl) (by kernel_rfl) (Still.then hS) (List.singleton_sublist.2 zM) Cells.nil (by decide) (Quiet.c (Q.extract rfl rfl)) ?_
          refine VA.all (rs := [7]) (by kernel_rfl) (by simp) ?_
          refine VA.forall1 ?_
          · skip
            refine VA.eff rfl ?_
            refine id (O.alloc zo50 (by decide) ?_)
            intro g22
            refine VA.next (List.singleton_sublist.2 zM) Cells.nil ?_
            refine VA.all (rs := [8]) (by kernel_rfl) (by simp) ?_
            refine VA.forall1 ?_
            · skip
              refine VA.eff rfl ?_
              refine id (O.store ty50 rfl rfl rfl rfl zU zP ?_)
              refine VA.next (List.singleton_sublist.2 zM) Cells.nil ?_
              refine VA.take 9 rfl (by kernel_rfl) (by kernel_rfl) (by kernel_rfl) (Still.then hS) (List.singleton_sublist.2 zM) Cells.nil (by decide) (Quiet.c (Q.assign rfl)) ?_
              refine VA.done (by kernel_rfl) ?_
              refine VE.then_normal ?_
              exact VE.meetP g22 trivial zE zKs
        · skip
          refine VA.eff rfl ?_
          refine id (O.alloc zo50 (by decide) ?_)
          intro g22_1
          refine VA.next (List.singleton_sublist.2 zM) Cells.nil ?_
          refine VA.all (rs := [3]) (by kernel_rfl) (by simp) ?_
          refine VA.forall1 ?_
          · skip
            refine VA.eff rfl ?_
            refine id (O.call0 ok12 rfl rfl (by decide) (xheader_6 pi ps pa D hD) (fun _ ho _ => hsub.only ho) ?_)
            intro x157_1 y157_1
            refine VA.next (List.singleton_sublist.2 zM) Cells.nil ?_
            refine VA.take 4 rfl (by kernel_rfl) (by kernel_rfl) (by kernel_rfl) (Still.then hS) (List.singleton_sublist.2 zM) Cells.nil (by decide) (Quiet.c (Q.move rfl)) ?_
            refine VA.take 5 rfl (by kernel_rfl) (by kernel_rfl) (by kernel_rfl) (Still.then hS) (List.singleton_sublist.2 zM) Cells.nil (by decide) (Quiet.c (Q.extract rfl rfl)) ?_
            refine VA.take 6 rfl (by kernel_rfl) (by kernel_rfl) (by kernel_rfl) (Still.then hS) (List.singleton_sublist.2 zM) Cells.nil (by decide) (Quiet.c (Q.extract rfl rfl)) ?_
            refine VA.all (rs := [8]) (by kernel_rfl) (by simp) ?_
            refine VA.forall1 ?_
            · skip
              refine VA.eff rfl ?_
              refine id (O.store ty50 rfl rfl rfl rfl zU zP ?_)
              refine VA.next (List.singleton_sublist.2 zM) Cells.nil ?_
              refine VA.take 9 rfl (by kernel_rfl) (by kernel_rfl) (by kernel_rfl) (Still.then hS) (List.singleton_sublist.2 zM) Cells.nil (by decide) (Quiet.c (Q.assign rfl)) ?_
              refine VA.done (by kernel_rfl) ?_
              refine VE.then_normal ?_
              exact VE.meetP g22_1 trivial zE zKs
      · skip
        refine VA.eff rfl ?_
        refine id (O.alloc zo50 (by decide) ?_)
        intro g22_2
        refine VA.next (List.singleton_sublist.2 zM) Cells.nil ?_
        refine VA.all (rs := [2]) (by kernel_rfl) (by simp) ?_
        refine VA.forall1 ?_
        · skip
          refine VA.eff rfl ?_
          refine id (O.call0 ok14 rfl rfl (by decide) (point_c) (fun _ _ _ => trivial) ?_)
          intro x156_1 y156_1
          refine VA.next (List.singleton_sublist.2 zM) Cells.nil ?_
          refine VA.all (rs := [3]) (by kernel_rfl) (by simp) ?_
          refine VA.forall1 ?_
          · skip
            refine VA.eff rfl ?_
            refine id (O.call0 ok12 rfl rfl (by decide) (xheader_6 pi ps pa D hD) (fun _ ho _ => hsub.only ho) ?_)
            intro x157_2 y157_2
            refine VA.next (List.singleton_sublist.2 zM) Cells.nil ?_
            refine VA.take 4 rfl (by kernel_rfl) (by kernel_rfl) (by kernel_rfl) (Still.then hS) (List.singleton_sublist.2 zM) Cells.nil (by decide) (Quiet.c (Q.move rfl)) ?_
            refine VA.take 5 rfl (by kernel_rfl) (by kernel_rfl) (by kernel_rfl) (Still.then hS) (List.singleton_sublist.2 zM) Cells.nil (by decide) (Quiet.c (Q.extract rfl rfl)) ?_
            refine VA.take 6 rfl (by kernel_rfl) (by kernel_rfl) (by kernel_rfl) (Still.then hS) (List.singleton_sublist.2 zM) Cells.nil (by decide) (Quiet.c (Q.extract rfl rfl)) ?_
            refine VA.all (rs := [8]) (by kernel_rfl) (by simp) ?_
            refine VA.forall1 ?_
            · skip
              refine VA.eff rfl ?_
              refine id (O.store ty50 rfl rfl rfl rfl zU zP ?_)
              refine VA.next (List.singleton_sublist.2 zM) Cells.nil ?_
              refine VA.take 9 rfl (by kernel_rfl) (by kernel_rfl) (by kernel_rfl) (Still.then hS) (List.singleton_sublist.2 zM) Cells.nil (by decide) (Quiet.c (Q.assign rfl)) ?_
              refine VA.done (by kernel_rfl) ?_
              refine VE.then_normal ?_
              exact VE.meetP g22_2 trivial zE zKs
    · skip
      refine VA.eff rfl ?_
      refine id (O.alloc zo50 (by decide) ?_)
      intro g22_3
      refine VA.next (List.singleton_sublist.2 zM) Cells.nil ?_
      refine VA.all (rs := [1]) (by kernel_rfl) (by simp) ?_
      refine VA.forall1 ?_
      · skip
        refine VA.eff rfl ?_
        refine id (O.call0 ok13 rfl rfl (by decide) (station_c) (fun _ _ _ => trivial) ?_)
        intro x155_1 y155_1
        refine VA.next (List.singleton_sublist.2 zM) Cells.nil ?_
        refine VA.all (rs := [2]) (by kernel_rfl) (by simp) ?_
        refine VA.forall1 ?_
        · skip
          refine VA.eff rfl ?_
          refine id (O.call0 ok14 rfl rfl (by decide) (point_c) (fun _ _ _ => trivial) ?_)
          intro x156_2 y156_2
          refine VA.next (List.singleton_sublist.2 zM) Cells.nil ?_
          refine VA.all (rs := [3]) (by kernel_rfl) (by simp) ?_
          refine VA.forall1 ?_
          · skip
            refine VA.eff rfl ?_
            refine id (O.call0 ok12 rfl rfl (by decide) (xheader_6 pi ps pa D hD) (fun _ ho _ => hsub.only ho) ?_)
            intro x157_3 y157_3
            refine VA.next (List.singleton_sublist.2 zM) Cells.nil ?_
            refine VA.take 4 rfl (by kernel_rfl) (by kernel_rfl) (by kernel_rfl) (Still.then hS) (List.singleton_sublist.2 zM) Cells.nil (by decide) (Quiet.c (Q.move rfl)) ?_
            refine VA.take 5 rfl (by kernel_rfl) (by kernel_rfl) (by kernel_rfl) (Still.then hS) (List.singleton_sublist.2 zM) Cells.nil (by decide) (Quiet.c (Q.extract rfl rfl)) ?_
            refine VA.take 6 rfl (by kernel_rfl) (by kernel_rfl) (by kernel_rfl) (Still.then hS) (List.singleton_sublist.2 zM) Cells.nil (by decide) (Quiet.c (Q.extract rfl rfl)) ?_
            refine VA.all (rs := [8]) (by kernel_rfl) (by simp) ?_
            refine VA.forall1 ?_
            · skip
              refine VA.eff rfl ?_
              refine id (O.store ty50 rfl rfl rfl rfl zU zP ?_)
              refine VA.next (List.singleton_sublist.2 zM) Cells.nil ?_
              refine VA.take 9 rfl (by kernel_rfl) (by kernel_rfl) (by kernel_rfl) (Still.then hS) (List.singleton_sublist.2 zM) Cells.nil (by decide) (Quiet.c (Q.assign rfl)) ?_
              refine VA.done (by kernel_rfl) ?_
              refine VE.then_normal ?_
              exact VE.meetP g22_3 trivial zE zKs
  · intro gz _
    refine VC.seq ?_
    refine VC.region ?_
    refine VL.q (Q.loadA ty50 rfl zM zS) ?_
    refine VL.q (Q.build lay58 zF) ?_
    refine VL.eff (O.call0 ok15 rfl rfl (by decide) (encode_bar D hD) (fun _ _ _ => trivial) ?_)
    intro x163 y163
    refine VL.q (Q.move rfl) ?_
    refine VL.q (Q.extract rfl rfl) ?_
    refine VL.q (Q.extract rfl rfl) ?_
    refine VL.q (Q.assign rfl) ?_
    refine VL.q (Q.assign rfl) ?_
    refine VL.nil ?_
    refine VE.seq ?_
    refine VC.seq ?_
    refine VC.region ?_
    refine VL.q (Q.move rfl) ?_
    refine VL.eff (O.call0 ok16 rfl rfl (by decide) (decode_bar D hD _ _ (by omega)) (fun _ _ hw => Rd.row hw zM) ?_)
    intro x168 y168
    refine VL.q (Q.move rfl) ?_
    refine VL.q (Q.extract rfl rfl) ?_
    refine VL.q (Q.extract rfl rfl) ?_
    refine VL.eff (O.alloc zo58 (by decide) ?_)
    intro g26
    refine VL.eff (O.store ty58 rfl rfl rfl rfl zU zP ?_)
    refine VL.q (Q.assign rfl) ?_
    refine VL.nil ?_
    refine VE.seq ?_
    refine VC.seq ?_
    refine VC.region ?_
    refine VL.q (Q.move rfl) ?_
    refine VL.q (Q.fieldAddr fa48_3 rfl) ?_
    refine VL.q (Q.load1 ty3 rfl zM rfl) ?_
    refine VL.q ((by first | exact Q.addI rfl rfl (by omega) (by omega) | exact Q.add rfl rfl)) ?_
    refine VL.q (Q.fieldAddr fa48_4 rfl) ?_
    refine VL.q (Q.load1 ty3 rfl zM rfl) ?_
    refine VL.q ((by first | exact Q.addI rfl rfl (by omega) (by omega) | exact Q.add rfl rfl)) ?_
    refine VL.q (Q.assign rfl) ?_
    refine VL.nil ?_
    refine VE.seq ?_
    refine VC.seq ?_
    refine VC.seq ?_
    refine VC.region ?_
    refine VL.q (Q.move rfl) ?_
    refine VL.quietE (v' := .bool false) (by decide) (Q.ne rfl rfl) (by rfl) ?_
    refine VL.q (Q.move rfl) ?_
    refine VL.yes rfl rfl ?_
    refine VL.q (Q.move rfl) ?_
    refine VL.yes rfl rfl ?_
    refine VL.quietE (v' := .bool false) (by decide) (Q.ne rfl rfl) (by rfl) ?_
    refine VL.quietE (v' := .bool false) (by decide) (Q.pick_false rfl rfl) (by rfl) ?_
    refine VL.q (Q.move rfl) ?_
    refine VL.yes rfl rfl ?_
    refine VL.q (Q.move rfl) ?_
    refine VL.yes rfl rfl ?_
    refine VL.quietE (v' := .bool false) (by decide) (Q.ne rfl rfl) (by rfl) ?_
    refine VL.quietE (v' := .bool false) (by decide) (Q.pick_false rfl rfl) (by rfl) ?_
    refine VL.q (Q.move rfl) ?_
    refine VL.yes rfl rfl ?_
    refine VL.q (Q.fieldAddr fa58_0 rfl) ?_
    refine VL.yes rfl rfl ?_
    refine VL.q (Q.loadA ty50 rfl zM zS) ?_
    refine VL.yes rfl rfl ?_
    refine VL.q (Q.loadA ty50 rfl zM zS) ?_
    refine VL.yes rfl rfl ?_
    refine VL.quietE (v' := .bool false) (by decide) (Q.neS flt50 (by decide) ty50 eg50 rfl rfl rfl rfl) (by simp [vsEq, vEq]) ?_
    refine VL.quietE (v' := .bool false) (by decide) (Q.pick_false rfl rfl) (by rfl) ?_
    refine VL.q (Q.move rfl) ?_
    refine VL.yes rfl rfl ?_
    refine VL.q (Q.fieldAddr fa58_1 rfl) ?_
    refine VL.yes rfl rfl ?_
    refine VL.q (Q.load1 ty54 rfl zM rfl) ?_
    refine VL.yes rfl rfl ?_
    refine VL.q (Q.len sl54 rfl) ?_
    refine VL.yes rfl rfl ?_
    refine VL.quietE (v' := .bool false) (by decide) (Q.gt rfl rfl) (by rfl) ?_
    refine VL.quietE (v' := .bool false) (by decide) (Q.pick_false rfl rfl) (by rfl) ?_
    refine VL.q (Q.move rfl) ?_
    refine VL.yes rfl rfl ?_
    refine VL.q (Q.move rfl) ?_
    refine VL.yes rfl rfl ?_
    refine VL.q (Q.fieldAddr fa50_9 rfl) ?_
    refine VL.yes rfl rfl ?_
    refine VL.q (Q.load1 ty3 rfl zM rfl) ?_
    refine VL.yes rfl rfl ?_
    refine VL.q ((by first | exact Q.addI rfl rfl (by omega) (by omega) | exact Q.add rfl rfl)) ?_
    refine VL.yes rfl rfl ?_
    refine VL.q (Q.move rfl) ?_
    refine VL.yes rfl rfl ?_
    refine VL.quietE (v' := .bool false) (by decide) (Q.ne rfl rfl) (neF (by omega)) ?_
    refine VL.quietE (v' := .bool false) (by decide) (Q.pick_false rfl rfl) (by rfl) ?_
    refine VL.nil ?_
    refine VE.seq ?_
    refine VC.condF rfl ?_
    refine VC.skip ?_
    refine VE.seq ?_
    refine VC.seq ?_
    refine VK.keep (by exact .cons (i := 1) rfl (.cons (i := 7) rfl (.cons (i := 15) rfl (.cons (i := 16) rfl (.cons (i := 17) rfl (.cons (i := 18) rfl (.cons (i := 19) rfl (.cons (i := 20) rfl (.cons (i := 21) rfl (.cons (i := 22) rfl (.cons (i := 23) rfl (.cons (i := 25) rfl (.cons (i := 26) rfl (.cons (i := 28) rfl ( .nil))))))))))))))) ?_
    refine VC.region ?_
    refine VL.q (Q.build lay46 zF) ?_
    refine VL.q (Q.fieldAddr fa50_10 rfl) ?_
    refine VL.q (Q.loadA ty43 rfl zM zS) ?_
    refine VL.q (Q.fieldAddr fa58_0 rfl) ?_
    refine VL.q (Q.loadA ty50 rfl zM zS) ?_
    refine VL.q (Q.move rfl) ?_
    refine VL.q (Q.move rfl) ?_
    refine VL.eff (O.call0 ok17 rfl rfl (by decide) (own_bar D hD ((st : Int) + ps + pa) (A) (by omega) (by omega)) (fun _ _ _ => trivial) ?_)
    intro x216 y216
    refine VL.q (Q.move rfl) ?_
    refine VL.q (Q.extract rfl rfl) ?_
    refine VL.q (Q.extract rfl rfl) ?_
    refine VL.eff (O.alloc zo46 (by decide) ?_)
    intro g29
    refine VL.eff (O.store ty46 rfl rfl rfl rfl zU zP ?_)
    refine VL.q (Q.assign rfl) ?_
    refine VL.nil ?_
    refine VE.seq ?_
    refine VC.seq ?_
    refine VC.seq ?_
    refine VC.region ?_
    refine VL.q (Q.move rfl) ?_
    refine VL.quietE (v' := .bool false) (by decide) (Q.ne rfl rfl) (by rfl) ?_
    refine VL.q (Q.move rfl) ?_
    refine VL.yes rfl rfl ?_
    refine VL.q (Q.loadA ty46 rfl zM zS) ?_
    refine VL.yes rfl rfl ?_
    refine VL.q (Q.build lay46 zF) ?_
    refine VL.yes rfl rfl ?_
    refine VL.quietE (v' := .bool false) (by decide) (Q.neS flt46 (by decide) ty46 eg46 rfl rfl rfl rfl) (by rfl) ?_
    refine VL.quietE (v' := .bool false) (by decide) (Q.pick_false rfl rfl) (by rfl) ?_
    refine VL.nil ?_
    refine VE.seq ?_
    refine VC.condF rfl ?_
    refine VC.skip ?_
    refine VE.seq ?_
    refine VC.seq ?_
    refine VC.seqJ (X := Unit) (fun _z => [(238, .bool (heardP hl k)), (1, .pointer (some ⟨g1, 0, none⟩)), (7, .int .i64 A), (15, v15), (16, .int .i64 (st : Int)), (17, .pointer (some ⟨g17, 0, none⟩)), (18, .int .i64 ((st : Int) + T)), (19, .pointer (some ⟨g19, 0, none⟩)), (20, .int .i64 (k : Int)), (21, .pointer (some ⟨g21, 0, none⟩)), (26, .pointer (some ⟨g26, 0, none⟩)), (28, .int .i64 ((st : Int) + ps + pa))]) (fun _z => [.blk g26 [.int .u8 1, .int .u8 8, .bool false, .bool false, .bool false, .bool false, .bool false, .bool false, .bool false, .int .i64 (D : Int), .int .u8 2, .int .u8 0, .int .u8 0, .int .u8 0, .int .u8 0, .int .u8 1, .int .u8 2, .int .u8 0, .int .u8 0, .int .u8 0, .int .u8 0, .int .u8 2, .int .u8 0, .int .u8 0, .int .u8 0, .int .u8 0, .int .u8 0, .int .u8 0, .int .u8 0, .int .u8 0, .int .u8 0, .int .u8 0, .int .u8 0, .int .u8 0, .int .i64 0, .int .i64 0, .int .i64 0, .int .u8 0, .bool false, .bool false, .slice (some ⟨x168, 0, none⟩) 0 0] 58, .blk g21 [.int .u8 6, .bool false, .int .i64 (pi : Int), .int .i64 ps, .int .i64 pa, .int .i64 (D : Int)] 48, .blk g19 [.int .i64 u, .int .i64 l] 46, .blk g17 [.int .u8 2, .int .u8 0, .int .u8 0, .int .u8 0, .int .u8 0, .int .u8 3] 43, R, .blk g1 [x0, x1, x2, x3, x4, x5, .slice p2 hl.length c2] 27]) (fun _z => True) ?_ ?_
    · skip
      refine VC.region ?_
      refine VL.q (Q.move rfl) ?_
      refine VL.q (Q.fieldAddr fa27_6 rfl) ?_
      refine VL.q (Q.load1 ty25 rfl zM rfl) ?_
      refine VL.q (Q.len sl25 rfl) ?_
      refine VL.q (Q.lt rfl rfl) ?_
      refine VL.q (Q.move rfl) ?_
      refine VK.case 231 rfl ?_ ?_
      · intro h231
        have hlk : k < hl.length := by have := of_decide_eq_true h231; omega
        obtain ⟨b1, o1, rfl, hc1⟩ := hrh k _ (bls_get hl k hlk)
        refine VL.yes rfl rfl ?_
        refine VL.q (Q.fieldAddr fa27_6 rfl) ?_
        refine VL.yes rfl rfl ?_
        refine VL.q (Q.load1 ty25 rfl zM rfl) ?_
        refine VL.yes rfl rfl ?_
        refine VL.q (Q.move rfl) ?_
        refine VL.yes rfl rfl ?_
        refine VL.q (Q.indexAddr sl25 (j := k) rfl rfl rfl hlk) ?_
        refine VL.yes rfl rfl ?_
        refine VL.q (Q.load0 ty4 rfl (by simpa using hc1) (by simp)) ?_
        refine VL.yes rfl rfl ?_
        refine VL.q (Q.not rfl) ?_
        refine VL.q (Q.pick_true rfl rfl) ?_
        refine VL.nil ?_
        refine VE.then_normal ?_
        exact VE.meetP () trivial (.cons (eBool (by simp [heardP, hlk])) zE) zKs
      · intro h231
        have hlk : ¬ k < hl.length := by have := of_decide_eq_false h231; omega
        refine VL.no (by simp) rfl rfl (.inl rfl) ?_
        refine VL.no (by simp) rfl rfl (.inl rfl) ?_
        refine VL.no (by simp) rfl rfl (.inl rfl) ?_
        refine VL.no (by simp) rfl rfl (.inl rfl) ?_
        refine VL.no (by simp) rfl rfl (.inl rfl) ?_
        refine VL.no (by simp) rfl rfl (.inl rfl) ?_
        refine VL.quietE (v' := .bool false) (by decide) (Q.pick_false rfl rfl) (by rfl) ?_
        refine VL.nil ?_
        refine VE.then_normal ?_
        exact VE.meetP () trivial (.cons (eBool (by simp [heardP, hlk])) zE) zKs
    · intro _ _
      refine VC.cond rfl ?_ ?_
      · intro h238
        refine VC.exit ?_
        refine VE.then_exit ?_
        exact VE.give zE zB hc
      · intro h238
        refine VC.skip ?_
        refine VE.seq ?_
        refine VC.seq ?_
        refine VC.region ?_
        refine VL.q (Q.loadA ty46 rfl zM zS) ?_
        refine VL.q (Q.loadA ty43 rfl zM zS) ?_
        refine VL.q (Q.fieldAddr fa58_0 rfl) ?_
        refine VL.q (Q.loadA ty50 rfl zM zS) ?_
        refine VL.q (Q.move rfl) ?_
        refine VL.q (Q.move rfl) ?_
        have hcall := heard_bar u l (navI_ok hnv (by omega)) D hD ((st : Int) + ps + pa) (A) (by omega) (by omega)
        rw [hnU, hnL] at hcall
        refine VL.eff (O.call0 ok17 rfl rfl (by decide) (hcall) (fun _ _ _ => trivial) ?_)
        intro x246 y246
        refine VL.q (Q.move rfl) ?_
        refine VL.q (Q.extract rfl rfl) ?_
        refine VL.q (Q.extract rfl rfl) ?_
        refine VL.eff (O.alloc zo46 (by decide) ?_)
        intro g30
        refine VL.eff (O.store ty46 rfl rfl rfl rfl zU zP ?_)
        refine VL.q (Q.assign rfl) ?_
        refine VL.nil ?_
        refine VE.seq ?_
        refine VC.seq ?_
        refine VC.region ?_
        refine VL.q (Q.loadA ty46 rfl zM zS) ?_
        have hno : navOk ((st : Int) + T) 0 := ⟨by omega, by omega⟩
        have hcall2 := until2_c ((st : Int) + T) 0 hno
        rw [until0] at hcall2
        refine VL.eff (O.call0 ok18 rfl rfl (by decide) (hcall2) (fun _ _ _ => trivial) ?_)
        intro x251 y251
        refine VL.q (Q.move rfl) ?_
        refine VL.q (Q.extract rfl rfl) ?_
        refine VL.q (Q.extract rfl rfl) ?_
        refine VL.q (Q.assign rfl) ?_
        refine VL.q (Q.assign rfl) ?_
        refine VL.nil ?_
        refine VE.seq ?_
        refine VC.seq ?_
        refine VC.region ?_
        refine VL.q (Q.move rfl) ?_
        refine VL.q (Q.assign rfl) ?_
        refine VL.q (Q.assign rfl) ?_
        refine VL.nil ?_
        refine VE.seq ?_
        refine VC.seq ?_
        refine VC.seq ?_
        refine VC.region ?_
        refine VL.q (Q.fieldAddr fa48_0 rfl) ?_
        refine VL.q (Q.load1 ty5 rfl zM rfl) ?_
        refine VL.quietE (v' := .bool false) (by decide) (Q.eq rfl rfl) (by rfl) ?_
        refine VL.nil ?_
        refine VE.seq ?_
        refine VC.condF rfl ?_
        refine VC.skip ?_
        refine VE.seq ?_
        refine VC.seq ?_
        refine VC.seq ?_
        refine VC.region ?_
        refine VL.q (Q.move rfl) ?_
        refine VL.quietE (v' := .bool false) (by decide) (Q.ne rfl rfl) (by rfl) ?_
        refine VL.q (Q.move rfl) ?_
        refine VL.yes rfl rfl ?_
        refine VL.q (Q.move rfl) ?_
        refine VL.yes rfl rfl ?_
        refine VL.quietE (v' := .bool false) (by decide) (Q.ne rfl rfl) (by rfl) ?_
        refine VL.quietE (v' := .bool false) (by decide) (Q.pick_false rfl rfl) (by rfl) ?_
        refine VL.q (Q.move rfl) ?_
        refine VL.yes rfl rfl ?_
        refine VL.q (Q.fieldAddr fa46_0 rfl) ?_
        refine VL.yes rfl rfl ?_
        refine VL.q (Q.load1 ty3 rfl zM rfl) ?_
        refine VL.yes rfl rfl ?_
        refine VL.q (Q.move rfl) ?_
        refine VL.yes rfl rfl ?_
        refine VL.quietE (v' := .bool false) (by decide) (Q.ne rfl rfl) (neF rfl) ?_
        refine VL.quietE (v' := .bool false) (by decide) (Q.pick_false rfl rfl) (by rfl) ?_
        refine VL.q (Q.move rfl) ?_
        refine VL.yes rfl rfl ?_
        refine VL.q (Q.fieldAddr fa46_1 rfl) ?_
        refine VL.yes rfl rfl ?_
        refine VL.q (Q.load1 ty3 rfl zM rfl) ?_
        refine VL.yes rfl rfl ?_
        refine VL.q (Q.move rfl) ?_
        refine VL.yes rfl rfl ?_
        refine VL.quietE (v' := .bool false) (by decide) (Q.ne rfl rfl) (neF rfl) ?_
        refine VL.quietE (v' := .bool false) (by decide) (Q.pick_false rfl rfl) (by rfl) ?_
        refine VL.q (Q.move rfl) ?_
        refine VL.yes rfl rfl ?_
        refine VL.q (Q.move rfl) ?_
        refine VL.yes rfl rfl ?_
        refine VL.q (Q.move rfl) ?_
        refine VL.yes rfl rfl ?_
        refine VL.quietE (v' := .bool false) (by decide) (Q.ne rfl rfl) (neF rfl) ?_
        refine VL.quietE (v' := .bool false) (by decide) (Q.pick_false rfl rfl) (by rfl) ?_
        refine VL.nil ?_
        refine VE.seq ?_
        refine VC.condF rfl ?_
        refine VC.skip ?_
        refine VE.seq ?_
        refine VC.seq ?_
        refine VK.keep (by exact .cons (i := 1) rfl (.cons (i := 7) rfl (.cons (i := 15) rfl (.cons (i := 16) rfl (.cons (i := 17) rfl (.cons (i := 18) rfl (.cons (i := 19) rfl (.cons (i := 20) rfl (.cons (i := 23) rfl (.cons (i := 25) rfl (.cons (i := 28) rfl (.cons (i := 30) rfl (.cons (i := 32) rfl ( .nil)))))))))))))) ?_
        refine VC.region ?_
        refine VL.q (Q.loadA ty46 rfl zM zS) ?_
        refine VL.q (Q.move rfl) ?_
        refine VL.q ((by first | exact Q.subI rfl rfl (by omega) (by omega) | exact Q.sub rfl rfl)) ?_
        have hcall3 := reserved_c ((st : Int) + T) 0 hno (((st : Int) + T) - 1) (by omega)
        rw [until0] at hcall3
        refine VL.eff (O.call0 ok19 rfl rfl (by decide) (hcall3) (fun _ _ _ => trivial) ?_)
        intro x293 y293
        refine VL.q (Q.move rfl) ?_
        refine VL.quietE (v' := .bool true) (by decide) (Q.extract rfl rfl) (congrArg Value.bool (decide_eq_true (by omega))) ?_
        refine VL.q (Q.extract rfl rfl) ?_
        refine VL.q (Q.assign rfl) ?_
        refine VL.q (Q.assign rfl) ?_
        refine VL.nil ?_
        refine VE.seq ?_
        refine VC.seq ?_
        refine VC.region ?_
        refine VL.q (Q.loadA ty46 rfl zM zS) ?_
        refine VL.q (Q.move rfl) ?_
        have hcall3 := reserved_c ((st : Int) + T) 0 hno (((st : Int) + T)) (by omega)
        rw [until0] at hcall3
        refine VL.eff (O.call0 ok19 rfl rfl (by decide) (hcall3) (fun _ _ _ => trivial) ?_)
        intro x299 y299
        refine VL.q (Q.move rfl) ?_
        refine VL.quietE (v' := .bool false) (by decide) (Q.extract rfl rfl) (congrArg Value.bool (decide_eq_false (by omega))) ?_
        refine VL.q (Q.extract rfl rfl) ?_
        refine VL.q (Q.assign rfl) ?_
        refine VL.q (Q.assign rfl) ?_
        refine VL.nil ?_
        refine VE.seq ?_
        refine VC.seq ?_
        refine VC.seq ?_
        refine VC.region ?_
        refine VL.q (Q.move rfl) ?_
        refine VL.quietE (v' := .bool false) (by decide) (Q.ne rfl rfl) (by rfl) ?_
        refine VL.q (Q.move rfl) ?_
        refine VL.yes rfl rfl ?_
        refine VL.q (Q.move rfl) ?_
        refine VL.yes rfl rfl ?_
        refine VL.quietE (v' := .bool false) (by decide) (Q.ne rfl rfl) (by rfl) ?_
        refine VL.quietE (v' := .bool false) (by decide) (Q.pick_false rfl rfl) (by rfl) ?_
        refine VL.q (Q.move rfl) ?_
        refine VL.yes rfl rfl ?_
        refine VL.q (Q.move rfl) ?_
        refine VL.yes rfl rfl ?_
        refine VL.quietE (v' := .bool false) (by decide) (Q.not rfl) (by rfl) ?_
        refine VL.quietE (v' := .bool false) (by decide) (Q.pick_false rfl rfl) (by rfl) ?_
        refine VL.q (Q.move rfl) ?_
        refine VL.yes rfl rfl ?_
        refine VL.q (Q.move rfl) ?_
        refine VL.quietE (v' := .bool false) (by decide) (Q.pick_false rfl rfl) (by rfl) ?_
        refine VL.nil ?_
        refine VE.seq ?_
        refine VC.condF rfl ?_
        refine VC.skip ?_
        refine VE.seq ?_
        refine VC.seq ?_
        refine VC.seq ?_
        refine VC.region ?_
        refine VL.q (Q.assign rfl) ?_
        refine VL.nil ?_
        refine VE.seq ?_
        refine VC.block ?_
        refine VC.rounds 40 ?_
        refine VC.rnd (m := 39) ?_
        refine VC.seq ?_
        refine VC.seq ?_
        refine VC.region ?_
        refine VL.q (Q.move rfl) ?_
        refine VL.quietE (v' := .bool true) (by decide) (Q.lt rfl rfl) (by rfl) ?_
        refine VL.nil ?_
        refine VE.seq ?_
        refine VC.condT rfl ?_
        refine VC.skip ?_
        refine VE.seq ?_
        refine VC.seq ?_
        refine VC.block ?_
        refine VC.seq ?_
        refine VC.region ?_
        refine VL.q (Q.move rfl) ?_
        refine VL.eff (O.call0 ok20 rfl rfl (by decide) (space_0) (fun _ ho _ => hsl.only0 ho) ?_)
        intro x321 y321
        refine VL.q (Q.move rfl) ?_
        refine VL.q (Q.extract rfl rfl) ?_
        refine VL.q (Q.extract rfl rfl) ?_
        refine VL.q (Q.assign rfl) ?_
        refine VL.q (Q.assign rfl) ?_
        refine VL.nil ?_
        refine VE.seq ?_
        refine VC.seq ?_
        refine VC.region ?_
        refine VL.q (Q.loadA ty46 rfl zM zS) ?_
        refine VL.q (Q.move rfl) ?_
        refine VL.q (Q.move rfl) ?_
        have hcall4 := earliest_0 ((st : Int) + T) 0 hno ((st : Int) + ps + pa) (by omega)
        rw [until0] at hcall4
        refine VL.eff (O.call0 ok21 rfl rfl (by decide) (hcall4) (fun _ ho _ => hsl.only0 ho) ?_)
        intro x328 y328
        refine VL.q (Q.move rfl) ?_
        refine VL.q (Q.extract rfl rfl) ?_
        refine VL.q (Q.extract rfl rfl) ?_
        refine VL.q (Q.assign rfl) ?_
        refine VL.q (Q.assign rfl) ?_
        refine VL.nil ?_
        refine VE.seq ?_
        refine VC.seq ?_
        refine VK.keep (by exact .cons (i := 1) rfl (.cons (i := 7) rfl (.cons (i := 15) rfl (.cons (i := 16) rfl (.cons (i := 17) rfl (.cons (i := 18) rfl (.cons (i := 19) rfl (.cons (i := 20) rfl (.cons (i := 28) rfl (.cons (i := 30) rfl (.cons (i := 32) rfl (.cons (i := 36) rfl (.cons (i := 37) rfl (.cons (i := 38) rfl (.cons (i := 39) rfl (.cons (i := 40) rfl (.cons (i := 315) rfl (.cons (i := 316) rfl (.cons (i := 319) rfl (.cons (i := 320) rfl (.cons (i := 321) rfl (.cons (i := 322) rfl (.cons (i := 323) rfl (.cons (i := 324) rfl (.cons (i := 325) rfl (.cons (i := 326) rfl (.cons (i := 327) rfl (.cons (i := 328) rfl (.cons (i := 329) rfl (.cons (i := 330) rfl ( .nil))))))))))))))))))))))))))))))) ?_
        refine VC.region ?_
        refine VL.q (Q.move rfl) ?_
        refine VL.quietE (v' := .bool false) (by decide) (Q.ne rfl rfl) (by rfl) ?_
        refine VL.q (Q.move rfl) ?_
        refine VL.yes rfl rfl ?_
        refine VL.q (Q.move rfl) ?_
        refine VL.yes rfl rfl ?_
        refine VL.quietE (v' := .bool false) (by decide) (Q.ne rfl rfl) (by rfl) ?_
        refine VL.quietE (v' := .bool false) (by decide) (Q.pick_false rfl rfl) (by rfl) ?_
        refine VL.q (Q.move rfl) ?_
        refine VL.yes rfl rfl ?_
        refine VL.q (Q.move rfl) ?_
        refine VL.yes rfl rfl ?_
        refine VL.q (Q.move rfl) ?_
        refine VL.yes rfl rfl ?_
        refine VL.q (Q.move rfl) ?_
        refine VL.yes rfl rfl ?_
        refine VL.q ((by first | exact Q.addI rfl rfl (by omega) (by omega) | exact Q.add rfl rfl)) ?_
        refine VL.yes rfl rfl ?_
        refine VL.quietE (v' := .bool false) (by decide) (Q.ne rfl rfl) (neF (by split <;> omega)) ?_
        refine VL.quietE (v' := .bool false) (by decide) (Q.pick_false rfl rfl) (by rfl) ?_
        refine VL.nil ?_
        refine VE.seq ?_
        refine VC.condF rfl ?_
        refine VC.skip ?_
        refine VE.block_normal ?_
        refine VE.seq ?_
        refine VC.region ?_
        refine VL.q (Q.move rfl) ?_
        refine VL.quietE (v' := .int .u8 1) (by decide) ((by first | exact Q.addF rfl rfl (by simp only [klo]; omega) (by simp only [khi]; omega) | exact Q.addM (M := 256) rfl rfl rfl rfl)) (by rfl) ?_
        refine VL.q (Q.assign rfl) ?_
        refine VL.nil ?_
        refine VE.then_normal ?_
        refine VC.rnd (m := 38) ?_
        refine VC.seq ?_
        refine VC.seq ?_
        refine VC.region ?_
        refine VL.q (Q.move rfl) ?_
        refine VL.quietE (v' := .bool true) (by decide) (Q.lt rfl rfl) (by rfl) ?_
        refine VL.nil ?_
        refine VE.seq ?_
        refine VC.condT rfl ?_
        refine VC.skip ?_
        refine VE.seq ?_
        refine VC.seq ?_
        refine VC.block ?_
        refine VC.seq ?_
        refine VC.region ?_
        refine VL.q (Q.move rfl) ?_
        refine VL.eff (O.call0 ok20 rfl rfl (by decide) (space_1) (fun _ ho _ => hsl.only0 ho) ?_)
        intro x321_1 y321_1
        refine VL.q (Q.move rfl) ?_
        refine VL.q (Q.extract rfl rfl) ?_
        refine VL.q (Q.extract rfl rfl) ?_
        refine VL.q (Q.assign rfl) ?_
        refine VL.q (Q.assign rfl) ?_
        refine VL.nil ?_
        refine VE.seq ?_
        refine VC.seq ?_
        refine VC.region ?_
        refine VL.q (Q.loadA ty46 rfl zM zS) ?_
        refine VL.q (Q.move rfl) ?_
        refine VL.q (Q.move rfl) ?_
        have hcall4 := earliest_1 ((st : Int) + T) 0 hno ((st : Int) + ps + pa) (by omega)
        rw [until0] at hcall4
        refine VL.eff (O.call0 ok21 rfl rfl (by decide) (hcall4) (fun _ ho _ => hsl.only0 ho) ?_)
        intro x328_1 y328_1
        refine VL.q (Q.move rfl) ?_
        refine VL.q (Q.extract rfl rfl) ?_
        refine VL.q (Q.extract rfl rfl) ?_
        refine VL.q (Q.assign rfl) ?_
        refine VL.q (Q.assign rfl) ?_
        refine VL.nil ?_
        refine VE.seq ?_
        refine VC.seq ?_
        refine VC.region ?_
        refine VL.q (Q.move rfl) ?_
        refine VL.quietE (v' := .bool false) (by decide) (Q.ne rfl rfl) (by rfl) ?_
        refine VL.q (Q.move rfl) ?_
        refine VL.yes rfl rfl ?_
        refine VL.q (Q.move rfl) ?_
        refine VL.yes rfl rfl ?_
        refine VL.quietE (v' := .bool false) (by decide) (Q.ne rfl rfl) (by rfl) ?_
        refine VL.quietE (v' := .bool false) (by decide) (Q.pick_false rfl rfl) (by rfl) ?_
        refine VL.q (Q.move rfl) ?_
        refine VL.yes rfl rfl ?_
        refine VL.q (Q.move rfl) ?_
        refine VL.yes rfl rfl ?_
        refine VL.q (Q.move rfl) ?_
        refine VL.yes rfl rfl ?_
        refine VL.q (Q.move rfl) ?_
        refine VL.yes rfl rfl ?_
        refine VL.q ((by first | exact Q.addI rfl rfl (by omega) (by omega) | exact Q.add rfl rfl)) ?_
        refine VL.yes rfl rfl ?_
        refine VL.quietE (v' := .bool false) (by decide) (Q.ne rfl rfl) (neF (by split <;> omega)) ?_
        refine VL.quietE (v' := .bool false) (by decide) (Q.pick_false rfl rfl) (by rfl) ?_
        refine VL.nil ?_
        refine VE.seq ?_
        refine VC.condF rfl ?_
        refine VC.skip ?_
        refine VE.block_normal ?_
        refine VE.seq ?_
        refine VC.region ?_
        refine VL.q (Q.move rfl) ?_
        refine VL.quietE (v' := .int .u8 2) (by decide) ((by first | exact Q.addF rfl rfl (by simp only [klo]; omega) (by simp only [khi]; omega) | exact Q.addM (M := 256) rfl rfl rfl rfl)) (by rfl) ?_
        refine VL.q (Q.assign rfl) ?_
        refine VL.nil ?_
        refine VE.then_normal ?_
        refine VC.rnd (m := 37) ?_
        refine VC.seq ?_
        refine VC.seq ?_
        refine VC.region ?_
        refine VL.q (Q.move rfl) ?_
        refine VL.quietE (v' := .bool true) (by decide) (Q.lt rfl rfl) (by rfl) ?_
        refine VL.nil ?_
        refine VE.seq ?_
        refine VC.condT rfl ?_
        refine VC.skip ?_
        refine VE.seq ?_
        refine VC.seq ?_
        refine VC.block ?_
        refine VC.seq ?_
        refine VC.region ?_
        refine VL.q (Q.move rfl) ?_
        refine VL.eff (O.call0 ok20 rfl rfl (by decide) (space_2) (fun _ ho _ => hsl.only0 ho) ?_)
        intro x321_2 y321_2
        refine VL.q (Q.move rfl) ?_
        refine VL.q (Q.extract rfl rfl) ?_
        refine VL.q (Q.extract rfl rfl) ?_
        refine VL.q (Q.assign rfl) ?_
        refine VL.q (Q.assign rfl) ?_
        refine VL.nil ?_
        refine VE.seq ?_
        refine VC.seq ?_
        refine VC.region ?_
        refine VL.q (Q.loadA ty46 rfl zM zS) ?_
        refine VL.q (Q.move rfl) ?_
        refine VL.q (Q.move rfl) ?_
        have hcall4 := earliest_2 ((st : Int) + T) 0 hno ((st : Int) + ps + pa) (by omega)
        rw [until0] at hcall4
        refine VL.eff (O.call0 ok21 rfl rfl (by decide) (hcall4) (fun _ ho _ => hsl.only0 ho) ?_)
        intro x328_2 y328_2
        refine VL.q (Q.move rfl) ?_
        refine VL.q (Q.extract rfl rfl) ?_
        refine VL.q (Q.extract rfl rfl) ?_
        refine VL.q (Q.assign rfl) ?_
        refine VL.q (Q.assign rfl) ?_
        refine VL.nil ?_
        refine VE.seq ?_
        refine VC.seq ?_
        refine VC.region ?_
        refine VL.q (Q.move rfl) ?_
        refine VL.quietE (v' := .bool false) (by decide) (Q.ne rfl rfl) (by rfl) ?_
        refine VL.q (Q.move rfl) ?_
        refine VL.yes rfl rfl ?_
        refine VL.q (Q.move rfl) ?_
        refine VL.yes rfl rfl ?_
        refine VL.quietE (v' := .bool false) (by decide) (Q.ne rfl rfl) (by rfl) ?_
        refine VL.quietE (v' := .bool false) (by decide) (Q.pick_false rfl rfl) (by rfl) ?_
        refine VL.q (Q.move rfl) ?_
        refine VL.yes rfl rfl ?_
        refine VL.q (Q.move rfl) ?_
        refine VL.yes rfl rfl ?_
        refine VL.q (Q.move rfl) ?_
        refine VL.yes rfl rfl ?_
        refine VL.q (Q.move rfl) ?_
        refine VL.yes rfl rfl ?_
        refine VL.q ((by first | exact Q.addI rfl rfl (by omega) (by omega) | exact Q.add rfl rfl)) ?_
        refine VL.yes rfl rfl ?_
        refine VL.quietE (v' := .bool false) (by decide) (Q.ne rfl rfl) (neF (by split <;> omega)) ?_
        refine VL.quietE (v' := .bool false) (by decide) (Q.pick_false rfl rfl) (by rfl) ?_
        refine VL.nil ?_
        refine VE.seq ?_
        refine VC.condF rfl ?_
        refine VC.skip ?_
        refine VE.block_normal ?_
        refine VE.seq ?_
        refine VC.region ?_
        refine VL.q (Q.move rfl) ?_
        refine VL.quietE (v' := .int .u8 3) (by decide) ((by first | exact Q.addF rfl rfl (by simp only [klo]; omega) (by simp only [khi]; omega) | exact Q.addM (M := 256) rfl rfl rfl rfl)) (by rfl) ?_
        refine VL.q (Q.assign rfl) ?_
        refine VL.nil ?_
        refine VE.then_normal ?_
        refine VC.rnd (m := 36) ?_
        refine VC.seq ?_
        refine VC.seq ?_
        refine VC.region ?_
        refine VL.q (Q.move rfl) ?_
        refine VL.quietE (v' := .bool true) (by decide) (Q.lt rfl rfl) (by rfl) ?_
        refine VL.nil ?_
        refine VE.seq ?_
        refine VC.condT rfl ?_
        refine VC.skip ?_
        refine VE.seq ?_
        refine VC.seq ?_
        refine VC.block ?_
        refine VC.seq ?_
        refine VC.region ?_
        refine VL.q (Q.move rfl) ?_
        refine VL.eff (O.call0 ok20 rfl rfl (by decide) (space_3) (fun _ ho _ => hsl.only0 ho) ?_)
        intro x321_3 y321_3
        refine VL.q (Q.move rfl) ?_
        refine VL.q (Q.extract rfl rfl) ?_
        refine VL.q (Q.extract rfl rfl) ?_
        refine VL.q (Q.assign rfl) ?_
        refine VL.q (Q.assign rfl) ?_
        refine VL.nil ?_
        refine VE.seq ?_
        refine VC.seq ?_
        refine VC.region ?_
        refine VL.q (Q.loadA ty46 rfl zM zS) ?_
        refine VL.q (Q.move rfl) ?_
        refine VL.q (Q.move rfl) ?_
        have hcall4 := earliest_3 ((st : Int) + T) 0 hno ((st : Int) + ps + pa) (by omega)
        rw [until0] at hcall4
        refine VL.eff (O.call0 ok21 rfl rfl (by decide) (hcall4) (fun _ ho _ => hsl.only0 ho) ?_)
        intro x328_3 y328_3
        refine VL.q (Q.move rfl) ?_
        refine VL.q (Q.extract rfl rfl) ?_
        refine VL.q (Q.extract rfl rfl) ?_
        refine VL.q (Q.assign rfl) ?_
        refine VL.q (Q.assign rfl) ?_
        refine VL.nil ?_
        refine VE.seq ?_
        refine VC.seq ?_
        refine VC.region ?_
        refine VL.q (Q.move rfl) ?_
        refine VL.quietE (v' := .bool false) (by decide) (Q.ne rfl rfl) (by rfl) ?_
        refine VL.q (Q.move rfl) ?_
        refine VL.yes rfl rfl ?_
        refine VL.q (Q.move rfl) ?_
        refine VL.yes rfl rfl ?_
        refine VL.quietE (v' := .bool false) (by decide) (Q.ne rfl rfl) (by rfl) ?_
        refine VL.quietE (v' := .bool false) (by decide) (Q.pick_false rfl rfl) (by rfl) ?_
        refine VL.q (Q.move rfl) ?_
        refine VL.yes rfl rfl ?_
        refine VL.q (Q.move rfl) ?_
        refine VL.yes rfl rfl ?_
        refine VL.q (Q.move rfl) ?_
        refine VL.yes rfl rfl ?_
        refine VL.q (Q.move rfl) ?_
        refine VL.yes rfl rfl ?_
        refine VL.q ((by first | exact Q.addI rfl rfl (by omega) (by omega) | exact Q.add rfl rfl)) ?_
        refine VL.yes rfl rfl ?_
        refine VL.quietE (v' := .bool false) (by decide) (Q.ne rfl rfl) (neF (by split <;> omega)) ?_
        refine VL.quietE (v' := .bool false) (by decide) (Q.pick_false rfl rfl) (by rfl) ?_
        refine VL.nil ?_
        refine VE.seq ?_
        refine VC.condF rfl ?_
        refine VC.skip ?_
        refine VE.block_normal ?_
        refine VE.seq ?_
        refine VC.region ?_
        refine VL.q (Q.move rfl) ?_
        refine VL.quietE (v' := .int .u8 4) (by decide) ((by first | exact Q.addF rfl rfl (by simp only [klo]; omega) (by simp only [khi]; omega) | exact Q.addM (M := 256) rfl rfl rfl rfl)) (by rfl) ?_
        refine VL.q (Q.assign rfl) ?_
        refine VL.nil ?_
        refine VE.then_normal ?_
        refine VC.rnd (m := 35) ?_
        refine VC.seq ?_
        refine VC.seq ?_
        refine VC.region ?_
        refine VL.q (Q.move rfl) ?_
        refine VL.quietE (v' := .bool false) (by decide) (Q.lt rfl rfl) (by rfl) ?_
        refine VL.nil ?_
        refine VE.seq ?_
        refine VC.condF rfl ?_
        refine VC.exit ?_
        refine VE.then_exit ?_
        refine VE.then_exit ?_
        refine VE.block_here ?_
        refine VE.seq ?_
        refine VC.region ?_
        refine VL.q (Q.loadA ty46 rfl zM zS) ?_
        refine VL.eff (O.store ty46 rfl rfl rfl rfl zU zP ?_)
        refine VL.nil ?_
        exact VE.give zE zB hn

theorem round_7 (W0 : World) (hsub : Subs W0) (hsl : Rd W0 (some ⟨1, 0, none⟩) [.int .i64 7, .int .i64 3, .int .i64 2, .int .i64 2]) (hl : List Bool) (p2 : Option Addr) (c2 : Nat) (hrh : Rd W0 p2 (bls hl)) (x0 x1 x2 x3 x4 x5 v15 : Value) (R : Rs) (st : Nat) (T A : Int) (k : Nat) (u l : Int) (pi : Nat) (ps pa : Int) (D : Nat) (g1 g17 g19 g21 : Nat) (hst : st ≤ 4294967295) (hps : 0 ≤ ps) (hpa : 1 ≤ pa) (hsum : ps + pa + D = T) (hD : D ≤ 32767) (hT : T ≤ 2000000) (hA : 1 ≤ A ∧ A ≤ 32767) (hnv : navI ((st : Int) + T) k u l) (QQ : Exit → Act → World → Prop) (hS : Still QQ) (hn : VK W0 (List.flatMap Rs.ids []) 347 (fun a W => QQ .normal a W) [(1, .pointer (some ⟨g1, 0, none⟩)), (7, .int .i64 A), (15, v15), (16, .int .i64 (st : Int)), (17, .pointer (some ⟨g17, 0, none⟩)), (18, .int .i64 ((st : Int) + T)), (19, .pointer (some ⟨g19, 0, none⟩)), (20, .int .i64 (k : Int))] [.blk g19 [.int .i64 ((st : Int) + T), .int .i64 0] 46, .blk g17 [.int .u8 2, .int .u8 0, .int .u8 0, .int .u8 0, .int .u8 0, .int .u8 3] 43, R, .blk g1 [x0, x1, x2, x3, x4, x5, .slice p2 hl.length c2] 27]) (hc : VK W0 (List.flatMap Rs.ids []) 347 (fun a W => QQ (.exit 3) a W) [(1, .pointer (some ⟨g1, 0, none⟩)), (7, .int .i64 A), (15, v15), (16, .int .i64 (st : Int)), (17, .pointer (some ⟨g17, 0, none⟩)), (18, .int .i64 ((st : Int) + T)), (19, .pointer (some ⟨g19, 0, none⟩)), (20, .int .i64 (k : Int))] [.blk g19 [.int .i64 u, .int .i64 l] 46, .blk g17 [.int .u8 2, .int .u8 0, .int .u8 0, .int .u8 0, .int .u8 0, .int .u8 3] 43, R, .blk g1 [x0, x1, x2, x3, x4, x5, .slice p2 hl.length c2] 27]) :
    VK W0 (List.flatMap Rs.ids []) 347 ((bodyAt Tryd.f4 [1, 1, 1, 1, 1, 1, 1, 1, 1, 1, 1, 1, 1, 1, 0, 1, 0, 0, 1, 0, 0, 1]).wp Tryd.prog QQ) [(1, .pointer (some ⟨g1, 0, none⟩)), (7, .int .i64 A), (15, v15), (16, .int .i64 (st : Int)), (17, .pointer (some ⟨g17, 0, none⟩)), (18, .int .i64 ((st : Int) + T)), (19, .pointer (some ⟨g19, 0, none⟩)), (20, .int .i64 (k : Int)), (21, .pointer (some ⟨g21, 0, none⟩))] [.blk g21 [.int .u8 7, .bool true, .int .i64 (pi : Int), .int .i64 ps, .int .i64 pa, .int .i64 (D : Int)] 48, .blk g19 [.int .i64 u, .int .i64 l] 46, .blk g17 [.int .u8 2, .int .u8 0, .int .u8 0, .int .u8 0, .int .u8 0, .int .u8 3] 43, R, .blk g1 [x0, x1, x2, x3, x4, x5, .slice p2 hl.length c2] 27] := by
  have hnx := hear_law (ans := A) false hnv ((fun h => by cases h)) (show ((st : Int) + ps + pa) + (D : Int) = ((st : Int) + T) by omega) (by omega) (by omega) (by omega)
  obtain ⟨hnU, hnL⟩ := hnx
  rw [if_neg (by decide)] at hnL
  refine VC.seqJ (X := Nat) (fun z => [(1, .pointer (some ⟨g1, 0, none⟩)), (7, .int .i64 A), (15, v15), (16, .int .i64 (st : Int)), (17, .pointer (some ⟨g17, 0, none⟩)), (18, .int .i64 ((st : Int) + T)), (19, .pointer (some ⟨g19, 0, none⟩)), (20, .int .i64 (k : Int)), (21, .pointer (some ⟨g21, 0, none⟩)), (22, .pointer (some ⟨z, 0, none⟩)), (23, .int .i64 0)]) (fun z => [.blk z [.int .u8 1, .int .u8 9, .bool false, .bool false, .bool false, .bool false, .bool false, .bool false, .bool false, .int .i64 (D : Int), .int .u8 2, .int .u8 0, .int .u8 0, .int .u8 0, .int .u8 0, .int .u8 2, .int .u8 2, .int .u8 0, .int .u8 0, .int .u8 0, .int .u8 0, .int .u8 1, .int .u8 0, .int .u8 0, .int .u8 0, .int .u8 0, .int .u8 0, .int .u8 0, .int .u8 0, .int .u8 0, .int .u8 0, .int .u8 0, .int .u8 0, .int .u8 0, .int .i64 0, .int .i64 0, .int .i64 0, .int .u8 0, .bool false, .bool false] 50, .blk g21 [.int .u8 7, .bool true, .int .i64 (pi : Int), .int .i64 ps, .int .i64 pa, .int .i64 (D : Int)] 48, .blk g19 [.int .i64 u, .int .i64 l] 46, .blk g17 [.int .u8 2, .int .u8 0, .int .u8 0, .int .u8 0, .int .u8 0, .int .u8 3] 43, R, .blk g1 [x0, x1, x2, x3, x4, x5, .slice p2 hl.length c2] 27]) (fun z => True) ?_ ?_
  · skip
    refine VA.start (Ls := [.blk g21 [.int .u8 7, .bool true, .int .i64 (pi : Int), .int .i64 ps, .int .i64 pa, .int .i64 (D : Int)] 48]) (Cs := []) mixed ?_
    refine VA.take 0 rfl (by kernel_rfl) (by kernel_rfl) (by kernel_rfl) (Still.then hS) (List.singleton_sublist.2 zM) Cells.nil (by decide) (Quiet.c (Q.loadA ty48 rfl zM zS)) ?_
    refine VA.all (rs := [1, 7]) (by kernel_rfl) (by simp) ?_
    refine VA.forall2 ?_ ?_
    · skip
      refine VA.eff rfl ?_
      refine id (O.call0 ok13 rfl rfl (by decide) (station_c) (fun _ _ _ => trivial) ?_)
      intro x155 y155
      refine VA.next (List.singleton_sublist.2 zM) Cells.nil ?_
      refine VA.all (rs := [2, 7]) (by kernel_rfl) (by simp) ?_
      refine VA.forall2 ?_ ?_
      · skip
        refine VA.eff rfl ?_
        refine id (O.call0 ok14 rfl rfl (by decide) (point_c) (fun _ _ _ => trivial) ?_)
        intro x156 y156
        refine VA.next (List.singleton_sublist.2 zM) Cells.nil ?_
        refine VA.all (rs := [3, 7]) (by kernel_rfl) (by simp) ?_
        refine VA.forall2 ?_ ?_
        · skip
          refine VA.eff rfl ?_
          refine id (O.call0 ok12 rfl rfl (by decide) (xheader_7 pi ps pa D hD) (fun _ ho _ => hsub.only ho) ?_)
          intro x157 y157
          refine VA.next (List.singleton_sublist.2 zM) Cells.nil ?_
          refine VA.take 4 rfl (by kernel_rfl) (by kernel_rfl) (by kernel_rfl) (Still.then hS) (List.singleton_sublist.2 zM) Cells.nil (by decide) (Quiet.c (Q.move rfl)) ?_
          refine VA.take 5 rfl (by kernel_rfl) (by kernel_rfl) (by kernel_rfl) (Still.then hS) (List.singleton_sublist.2 zM) Cells.nil (by decide) (Quiet.c (Q.extract rfl rfl)) ?_
          refine VA.take 6 rfl (by kernel_rfl) (by kernel_rfl) (by kernel_rfl) (Still.then hS) (List.singleton_sublist.2 zM) Cells.nil (by decide) (Quiet.c (Q.extract rfl rfl)) ?_
          refine VA.all (rs := [7]) (by kernel_rfl) (by simp) ?_
          refine VA.forall1 ?_
          · skip
            refine VA.eff rfl ?_
            refine id (O.alloc zo50 (by decide) ?_)
            intro g22
            refine VA.next (List.singleton_sublist.2 zM) Cells.nil ?_
            refine VA.all (rs := [8]) (by kernel_rfl) (by simp) ?_
            refine VA.forall1 ?_
            · skip
              refine VA.eff rfl ?_
              refine id (O.store ty50 rfl rfl rfl rfl zU zP ?_)
              refine VA.next (List.singleton_sublist.2 zM) Cells.nil ?_
              refine VA.take 9 rfl (by kernel_rfl) (by kernel_rfl) (by kernel_rfl) (Still.then hS) (List.singleton_sublist.2 zM) Cells.nil (by decide) (Quiet.c (Q.assign rfl)) ?_
              refine VA.done (by kernel_rfl) ?_
              refine VE.then_normal ?_
              exact VE.meetP g22 trivial zE zKs
        · skip
          refine VA.eff rfl ?_
          refine id (O.alloc zo50 (by decide) ?_)
          intro g22_1
          refine VA.next (List.singleton_sublist.2 zM) Cells.nil ?_
          refine VA.all (rs := [3]) (by kernel_rfl) (by simp) ?_
          refine VA.forall1 ?_
          · skip
            refine VA.eff rfl ?_
            refine id (O.call0 ok12 rfl rfl (by decide) (xheader_7 pi ps pa D hD) (fun _ ho _ => hsub.only ho) ?_)
            intro x157_1 y157_1
            refine VA.next (List.singleton_sublist.2 zM) Cells.nil ?_
            refine VA.take 4 rfl (by kernel_rfl) (by kernel_rfl) (by kernel_rfl) (Still.then hS) (List.singleton_sublist.2 zM) Cells.nil (by decide) (Quiet.c (Q.move rfl)) ?_
            refine VA.take 5 rfl (by kernel_rfl) (by kernel_rfl) (by kernel_rfl) (Still.then hS) (List.singleton_sublist.2 zM) Cells.nil (by decide) (Quiet.c (Q.extract rfl rfl)) ?_
            refine VA.take 6 rfl (by kernel_rfl) (by kernel_rfl) (by kernel_rfl) (Still.then hS) (List.singleton_sublist.2 zM) Cells.nil (by decide) (Quiet.c (Q.extract rfl rfl)) ?_
            refine VA.all (rs := [8]) (by kernel_rfl) (by simp) ?_
            refine VA.forall1 ?_
            · skip
              refine VA.eff rfl ?_
              refine id (O.store ty50 rfl rfl rfl rfl zU zP ?_)
              refine VA.next (List.singleton_sublist.2 zM) Cells.nil ?_
              refine VA.take 9 rfl (by kernel_rfl) (by kernel_rfl) (by kernel_rfl) (Still.then hS) (List.singleton_sublist.2 zM) Cells.nil (by decide) (Quiet.c (Q.assign rfl)) ?_
              refine VA.done (by kernel_rfl) ?_
              refine VE.then_normal ?_
              exact VE.meetP g22_1 trivial zE zKs
      · skip
        refine VA.eff rfl ?_
        refine id (O.alloc zo50 (by decide) ?_)
        intro g22_2
        refine VA.next (List.singleton_sublist.2 zM) Cells.nil ?_
        refine VA.all (rs := [2]) (by kernel_rfl) (by simp) ?_
        refine VA.forall1 ?_
        · skip
          refine VA.eff rfl ?_
          refine id (O.call0 ok14 rfl rfl (by decide) (point_c) (fun _ _ _ => trivial) ?_)
          intro x156_1 y156_1
          refine VA.next (List.singleton_sublist.2 zM) Cells.nil ?_
          refine VA.all (rs := [3]) (by kernel_rfl) (by simp) ?_
          refine VA.forall1 ?_
          · skip
            refine VA.eff rfl ?_
            refine id (O.call0 ok12 rfl rfl (by decide) (xheader_7 pi ps pa D hD) (fun _ ho _ => hsub.only ho) ?_)
            intro x157_2 y157_2
            refine VA.next (List.singleton_sublist.2 zM) Cells.nil ?_
            refine VA.take 4 rfl (by kernel_rfl) (by kernel_rfl) (by kernel_rfl) (Still.then hS) (List.singleton_sublist.2 zM) Cells.nil (by decide) (Quiet.c (Q.move rfl)) ?_
            refine VA.take 5 rfl (by kernel_rfl) (by kernel_rfl) (by kernel_rfl) (Still.then hS) (List.singleton_sublist.2 zM) Cells.nil (by decide) (Quiet.c (Q.extract rfl rfl)) ?_
            refine VA.take 6 rfl (by kernel_rfl) (by kernel_rfl) (by kernel_rfl) (Still.then hS) (List.singleton_sublist.2 zM) Cells.nil (by decide) (Quiet.c (Q.extract rfl rfl)) ?_
            refine VA.all (rs := [8]) (by kernel_rfl) (by simp) ?_
            refine VA.forall1 ?_
            · skip
              refine VA.eff rfl ?_
              refine id (O.store ty50 rfl rfl rfl rfl zU zP ?_)
              refine VA.next (List.singleton_sublist.2 zM) Cells.nil ?_
              refine VA.take 9 rfl (by kernel_rfl) (by kernel_rfl) (by kernel_rfl) (Still.then hS) (List.singleton_sublist.2 zM) Cells.nil (by decide) (Quiet.c (Q.assign rfl)) ?_
              refine VA.done (by kernel_rfl) ?_
              refine VE.then_normal ?_
              exact VE.meetP g22_2 trivial zE zKs
    · skip
      refine VA.eff rfl ?_
      refine id (O.alloc zo50 (by decide) ?_)
      intro g22_3
      refine VA.next (List.singleton_sublist.2 zM) Cells.nil ?_
      refine VA.all (rs := [1]) (by kernel_rfl) (by simp) ?_
      refine VA.forall1 ?_
      · skip
        refine VA.eff rfl ?_
        refine id (O.call0 ok13 rfl rfl (by decide) (station_c) (fun _ _ _ => trivial) ?_)
        intro x155_1 y155_1
        refine VA.next (List.singleton_sublist.2 zM) Cells.nil ?_
        refine VA.all (rs := [2]) (by kernel_rfl) (by simp) ?_
        refine VA.forall1 ?_
        · skip
          refine VA.eff rfl ?_
          refine id (O.call0 ok14 rfl rfl (by decide) (point_c) (fun _ _ _ => trivial) ?_)
          intro x156_2 y156_2
          refine VA.next (List.singleton_sublist.2 zM) Cells.nil ?_
          refine VA.all (rs := [3]) (by kernel_rfl) (by simp) ?_
          refine VA.forall1 ?_
          · skip
            refine VA.eff rfl ?_
            refine id (O.call0 ok12 rfl rfl (by decide) (xheader_7 pi ps pa D hD) (fun _ ho _ => hsub.only ho) ?_)
            intro x157_3 y157_3
            refine VA.next (List.singleton_sublist.2 zM) Cells.nil ?_
            refine VA.take 4 rfl (by kernel_rfl) (by kernel_rfl) (by kernel_rfl) (Still.then hS) (List.singleton_sublist.2 zM) Cells.nil (by decide) (Quiet.c (Q.move rfl)) ?_
            refine VA.take 5 rfl (by kernel_rfl) (by kernel_rfl) (by kernel_rfl) (Still.then hS) (List.singleton_sublist.2 zM) Cells.nil (by decide) (Quiet.c (Q.extract rfl rfl)) ?_
            refine VA.take 6 rfl (by kernel_rfl) (by kernel_rfl) (by kernel_rfl) (Still.then hS) (List.singleton_sublist.2 zM) Cells.nil (by decide) (Quiet.c (Q.extract rfl rfl)) ?_
            refine VA.all (rs := [8]) (by kernel_rfl) (by simp) ?_
            refine VA.forall1 ?_
            · skip
              refine VA.eff rfl ?_
              refine id (O.store ty50 rfl rfl rfl rfl zU zP ?_)
              refine VA.next (List.singleton_sublist.2 zM) Cells.nil ?_
              refine VA.take 9 rfl (by kernel_rfl) (by kernel_rfl) (by kernel_rfl) (Still.then hS) (List.singleton_sublist.2 zM) Cells.nil (by decide) (Quiet.c (Q.assign rfl)) ?_
              refine VA.done (by kernel_rfl) ?_
              refine VE.then_normal ?_
              exact VE.meetP g22_3 trivial zE zKs
  · intro gz _
    refine VC.seq ?_
    refine VC.region ?_
    refine VL.q (Q.loadA ty50 rfl zM zS) ?_
    refine VL.q (Q.build lay58 zF) ?_
    refine VL.eff (O.call0 ok15 rfl rfl (by decide) (encode_back D hD) (fun _ _ _ => trivial) ?_)
    intro x163 y163
    refine VL.q (Q.move rfl) ?_
    refine VL.q (Q.extract rfl rfl) ?_
    refine VL.q (Q.extract rfl rfl) ?_
    refine VL.q (Q.assign rfl) ?_
    refine VL.q (Q.assign rfl) ?_
    refine VL.nil ?_
    refine VE.seq ?_
    refine VC.seq ?_
    refine VC.region ?_
    refine VL.q (Q.move rfl) ?_
    refine VL.eff (O.call0 ok16 rfl rfl (by decide) (decode_back D hD _ _ (by omega)) (fun _ _ hw => Rd.row hw zM) ?_)
    intro x168 y168
    refine VL.q (Q.move rfl) ?_
    refine VL.q (Q.extract rfl rfl) ?_
    refine VL.q (Q.extract rfl rfl) ?_
    refine VL.eff (O.alloc zo58 (by decide) ?_)
    intro g26
    refine VL.eff (O.store ty58 rfl rfl rfl rfl zU zP ?_)
    refine VL.q (Q.assign rfl) ?_
    refine VL.nil ?_
    refine VE.seq ?_
    refine VC.seq ?_
    refine VC.region ?_
    refine VL.q (Q.move rfl) ?_
    refine VL.q (Q.fieldAddr fa48_3 rfl) ?_
    refine VL.q (Q.load1 ty3 rfl zM rfl) ?_
    refine VL.q ((by first | exact Q.addI rfl rfl (by omega) (by omega) | exact Q.add rfl rfl)) ?_
    refine VL.q (Q.fieldAddr fa48_4 rfl) ?_
    refine VL.q (Q.load1 ty3 rfl zM rfl) ?_
    refine VL.q ((by first | exact Q.addI rfl rfl (by omega) (by omega) | exact Q.add rfl rfl)) ?_
    refine VL.q (Q.assign rfl) ?_
    refine VL.nil ?_
    refine VE.seq ?_
    refine VC.seq ?_
    refine VC.seq ?_
    refine VC.region ?_
    refine VL.q (Q.move rfl) ?_
    refine VL.quietE (v' := .bool false) (by decide) (Q.ne rfl rfl) (by rfl) ?_
    refine VL.q (Q.move rfl) ?_
    refine VL.yes rfl rfl ?_
    refine VL.q (Q.move rfl) ?_
    refine VL.yes rfl rfl ?_
    refine VL.quietE (v' := .bool false) (by decide) (Q.ne rfl rfl) (by rfl) ?_
    refine VL.quietE (v' := .bool false) (by decide) (Q.pick_false rfl rfl) (by rfl) ?_
    refine VL.q (Q.move rfl) ?_
    refine VL.yes rfl rfl ?_
    refine VL.q (Q.move rfl) ?_
    refine VL.yes rfl rfl ?_
    refine VL.quietE (v' := .bool false) (by decide) (Q.ne rfl rfl) (by rfl) ?_
    refine VL.quietE (v' := .bool false) (by decide) (Q.pick_false rfl rfl) (by rfl) ?_
    refine VL.q (Q.move rfl) ?_
    refine VL.yes rfl rfl ?_
    refine VL.q (Q.fieldAddr fa58_0 rfl) ?_
    refine VL.yes rfl rfl ?_
    refine VL.q (Q.loadA ty50 rfl zM zS) ?_
    refine VL.yes rfl rfl ?_
    refine VL.q (Q.loadA ty50 rfl zM zS) ?_
    refine VL.yes rfl rfl ?_
    refine VL.quietE (v' := .bool false) (by decide) (Q.neS flt50 (by decide) ty50 eg50 rfl rfl rfl rfl) (by simp [vsEq, vEq]) ?_
    refine VL.quietE (v' := .bool false) (by decide) (Q.pick_false rfl rfl) (by rfl) ?_
    refine VL.q (Q.move rfl) ?_
    refine VL.yes rfl rfl ?_
    refine VL.q (Q.fieldAddr fa58_1 rfl) ?_
    refine VL.yes rfl rfl ?_
    refine VL.q (Q.load1 ty54 rfl zM rfl) ?_
    refine VL.yes rfl rfl ?_
    refine VL.q (Q.len sl54 rfl) ?_
    refine VL.yes rfl rfl ?_
    refine VL.quietE (v' := .bool false) (by decide) (Q.gt rfl rfl) (by rfl) ?_
    refine VL.quietE (v' := .bool false) (by decide) (Q.pick_false rfl rfl) (by rfl) ?_
    refine VL.q (Q.move rfl) ?_
    refine VL.yes rfl rfl ?_
    refine VL.q (Q.move rfl) ?_
    refine VL.yes rfl rfl ?_
    refine VL.q (Q.fieldAddr fa50_9 rfl) ?_
    refine VL.yes rfl rfl ?_
    refine VL.q (Q.load1 ty3 rfl zM rfl) ?_
    refine VL.yes rfl rfl ?_
    refine VL.q ((by first | exact Q.addI rfl rfl (by omega) (by omega) | exact Q.add rfl rfl)) ?_
    refine VL.yes rfl rfl ?_
    refine VL.q (Q.move rfl) ?_
    refine VL.yes rfl rfl ?_
    refine VL.quietE (v' := .bool false) (by decide) (Q.ne rfl rfl) (neF (by omega)) ?_
    refine VL.quietE (v' := .bool false) (by decide) (Q.pick_false rfl rfl) (by rfl) ?_
    refine VL.nil ?_
    refine VE.seq ?_
    refine VC.condF rfl ?_
    refine VC.skip ?_
    refine VE.seq ?_
    refine VC.seq ?_
    refine VK.keep (by exact .cons (i := 1) rfl (.cons (i := 7) rfl (.cons (i := 15) rfl (.cons (i := 16) rfl (.cons (i := 17) rfl (.cons (i := 18) rfl (.cons (i := 19) rfl (.cons (i := 20) rfl (.cons (i := 21) rfl (.cons (i := 22) rfl (.cons (i := 23) rfl (.cons (i := 25) rfl (.cons (i := 26) rfl (.cons (i := 28) rfl ( .nil))))))))))))))) ?_
    refine VC.region ?_
    refine VL.q (Q.build lay46 zF) ?_
    refine VL.q (Q.fieldAddr fa50_10 rfl) ?_
    refine VL.q (Q.loadA ty43 rfl zM zS) ?_
    refine VL.q (Q.fieldAddr fa58_0 rfl) ?_
    refine VL.q (Q.loadA ty50 rfl zM zS) ?_
    refine VL.q (Q.move rfl) ?_
    refine VL.q (Q.move rfl) ?_
    refine VL.eff (O.call0 ok17 rfl rfl (by decide) (own_back D hD ((st : Int) + ps + pa) (A) (by omega) (by omega)) (fun _ _ _ => trivial) ?_)
    intro x216 y216
    refine VL.q (Q.move rfl) ?_
    refine VL.q (Q.extract rfl rfl) ?_
    refine VL.q (Q.extract rfl rfl) ?_
    refine VL.eff (O.alloc zo46 (by decide) ?_)
    intro g29
    refine VL.eff (O.store ty46 rfl rfl rfl rfl zU zP ?_)
    refine VL.q (Q.assign rfl) ?_
    refine VL.nil ?_
    refine VE.seq ?_
    refine VC.seq ?_
    refine VC.seq ?_
    refine VC.region ?_
    refine VL.q (Q.move rfl) ?_
    refine VL.quietE (v' := .bool false) (by decide) (Q.ne rfl rfl) (by rfl) ?_
    refine VL.q (Q.move rfl) ?_
    refine VL.yes rfl rfl ?_
    refine VL.q (Q.loadA ty46 rfl zM zS) ?_
    refine VL.yes rfl rfl ?_
    refine VL.q (Q.build lay46 zF) ?_
    refine VL.yes rfl rfl ?_
    refine VL.quietE (v' := .bool false) (by decide) (Q.neS flt46 (by decide) ty46 eg46 rfl rfl rfl rfl) (by rfl) ?_
    refine VL.quietE (v' := .bool false) (by decide) (Q.pick_false rfl rfl) (by rfl) ?_
    refine VL.nil ?_
    refine VE.seq ?_
    refine VC.condF rfl ?_
    refine VC.skip ?_
    refine VE.seq ?_
    refine VC.seq ?_
    refine VC.seqJ (X := Unit) (fun _z => [(238, .bool (heardP hl k)), (1, .pointer (some ⟨g1, 0, none⟩)), (7, .int .i64 A), (15, v15), (16, .int .i64 (st : Int)), (17, .pointer (some ⟨g17, 0, none⟩)), (18, .int .i64 ((st : Int) + T)), (19, .pointer (some ⟨g19, 0, none⟩)), (20, .int .i64 (k : Int)), (21, .pointer (some ⟨g21, 0, none⟩)), (26, .pointer (some ⟨g26, 0, none⟩)), (28, .int .i64 ((st : Int) + ps + pa))]) (fun _z => [.blk g26 [.int .u8 1, .int .u8 9, .bool false, .bool false, .bool false, .bool false, .bool false, .bool false, .bool false, .int .i64 (D : Int), .int .u8 2, .int .u8 0, .int .u8 0, .int .u8 0, .int .u8 0, .int .u8 2, .int .u8 2, .int .u8 0, .int .u8 0, .int .u8 0, .int .u8 0, .int .u8 1, .int .u8 0, .int .u8 0, .int .u8 0, .int .u8 0, .int .u8 0, .int .u8 0, .int .u8 0, .int .u8 0, .int .u8 0, .int .u8 0, .int .u8 0, .int .u8 0, .int .i64 0, .int .i64 0, .int .i64 0, .int .u8 0, .bool false, .bool false, .slice (some ⟨x168, 0, none⟩) 0 0] 58, .blk g21 [.int .u8 7, .bool true, .int .i64 (pi : Int), .int .i64 ps, .int .i64 pa, .int .i64 (D : Int)] 48, .blk g19 [.int .i64 u, .int .i64 l] 46, .blk g17 [.int .u8 2, .int .u8 0, .int .u8 0, .int .u8 0, .int .u8 0, .int .u8 3] 43, R, .blk g1 [x0, x1, x2, x3, x4, x5, .slice p2 hl.length c2] 27]) (fun _z => True) ?_ ?_
    · skip
      refine VC.region ?_
      refine VL.q (Q.move rfl) ?_
      refine VL.q (Q.fieldAddr fa27_6 rfl) ?_
      refine VL.q (Q.load1 ty25 rfl zM rfl) ?_
      refine VL.q (Q.len sl25 rfl) ?_
      refine VL.q (Q.lt rfl rfl) ?_
      refine VL.q (Q.move rfl) ?_
      refine VK.case 231 rfl ?_ ?_
      · intro h231
        have hlk : k < hl.length := by have := of_decide_eq_true h231; omega
        obtain ⟨b1, o1, rfl, hc1⟩ := hrh k _ (bls_get hl k hlk)
        refine VL.yes rfl rfl ?_
        refine VL.q (Q.fieldAddr fa27_6 rfl) ?_
        refine VL.yes rfl rfl ?_
        refine VL.q (Q.load1 ty25 rfl zM rfl) ?_
        refine VL.yes rfl rfl ?_
        refine VL.q (Q.move rfl) ?_
        refine VL.yes rfl rfl ?_
        refine VL.q (Q.indexAddr sl25 (j := k) rfl rfl rfl hlk) ?_
        refine VL.yes rfl rfl ?_
        refine VL.q (Q.load0 ty4 rfl (by simpa using hc1) (by simp)) ?_
        refine VL.yes rfl rfl ?_
        refine VL.q (Q.not rfl) ?_
        refine VL.q (Q.pick_true rfl rfl) ?_
        refine VL.nil ?_
        refine VE.then_normal ?_
        exact VE.meetP () trivial (.cons (eBool (by simp [heardP, hlk])) zE) zKs
      · intro h231
        have hlk : ¬ k < hl.length := by have := of_decide_eq_false h231; omega
        refine VL.no (by simp) rfl rfl (.inl rfl) ?_
        refine VL.no (by simp) rfl rfl (.inl rfl) ?_
        refine VL.no (by simp) rfl rfl (.inl rfl) ?_
        refine VL.no (by simp) rfl rfl (.inl rfl) ?_
        refine VL.no (by simp) rfl rfl (.inl rfl) ?_
        refine VL.no (by simp) rfl rfl (.inl rfl) ?_
        refine VL.quietE (v' := .bool false) (by decide) (Q.pick_false rfl rfl) (by rfl) ?_
        refine VL.nil ?_
        refine VE.then_normal ?_
        exact VE.meetP () trivial (.cons (eBool (by simp [heardP, hlk])) zE) zKs
    · intro _ _
      refine VC.cond rfl ?_ ?_
      · intro h238
        refine VC.exit ?_
        refine VE.then_exit ?_
        exact VE.give zE zB hc
      · intro h238
        refine VC.skip ?_
        refine VE.seq ?_
        refine VC.seq ?_
        refine VC.region ?_
        refine VL.q (Q.loadA ty46 rfl zM zS) ?_
        refine VL.q (Q.loadA ty43 rfl zM zS) ?_
        refine VL.q (Q.fieldAddr fa58_0 rfl) ?_
        refine VL.q (Q.loadA ty50 rfl zM zS) ?_
        refine VL.q (Q.move rfl) ?_
        refine VL.q (Q.move rfl) ?_
        have hcall := heard_back u l (navI_ok hnv (by omega)) D hD ((st : Int) + ps + pa) (A) (by omega) (by omega)
        rw [hnU, hnL] at hcall
        refine VL.eff (O.call0 ok17 rfl rfl (by decide) (hcall) (fun _ _ _ => trivial) ?_)
        intro x246 y246
        refine VL.q (Q.move rfl) ?_
        refine VL.q (Q.extract rfl rfl) ?_
        refine VL.q (Q.extract rfl rfl) ?_
        refine VL.eff (O.alloc zo46 (by decide) ?_)
        intro g30
        refine VL.eff (O.store ty46 rfl rfl rfl rfl zU zP ?_)
        refine VL.q (Q.assign rfl) ?_
        refine VL.nil ?_
        refine VE.seq ?_
        refine VC.seq ?_
        refine VC.region ?_
        refine VL.q (Q.loadA ty46 rfl zM zS) ?_
        have hno : navOk ((st : Int) + T) 0 := ⟨by omega, by omega⟩
        have hcall2 := until2_c ((st : Int) + T) 0 hno
        rw [until0] at hcall2
        refine VL.eff (O.call0 ok18 rfl rfl (by decide) (hcall2) (fun _ _ _ => trivial) ?_)
        intro x251 y251
        refine VL.q (Q.move rfl) ?_
        refine VL.q (Q.extract rfl rfl) ?_
        refine VL.q (Q.extract rfl rfl) ?_
        refine VL.q (Q.assign rfl) ?_
        refine VL.q (Q.assign rfl) ?_
        refine VL.nil ?_
        refine VE.seq ?_
        refine VC.seq ?_
        refine VC.region ?_
        refine VL.q (Q.move rfl) ?_
        refine VL.q (Q.assign rfl) ?_
        refine VL.q (Q.assign rfl) ?_
        refine VL.nil ?_
        refine VE.seq ?_
        refine VC.seq ?_
        refine VC.seq ?_
        refine VC.region ?_
        refine VL.q (Q.fieldAddr fa48_0 rfl) ?_
        refine VL.q (Q.load1 ty5 rfl zM rfl) ?_
        refine VL.quietE (v' := .bool false) (by decide) (Q.eq rfl rfl) (by rfl) ?_
        refine VL.nil ?_
        refine VE.seq ?_
        refine VC.condF rfl ?_
        refine VC.skip ?_
        refine VE.seq ?_
        refine VC.seq ?_
        refine VC.seq ?_
        refine VC.region ?_
        refine VL.q (Q.move rfl) ?_
        refine VL.quietE (v' := .bool false) (by decide) (Q.ne rfl rfl) (by rfl) ?_
        refine VL.q (Q.move rfl) ?_
        refine VL.yes rfl rfl ?_
        refine VL.q (Q.move rfl) ?_
        refine VL.yes rfl rfl ?_
        refine VL.quietE (v' := .bool false) (by decide) (Q.ne rfl rfl) (by rfl) ?_
        refine VL.quietE (v' := .bool false) (by decide) (Q.pick_false rfl rfl) (by rfl) ?_
        refine VL.q (Q.move rfl) ?_
        refine VL.yes rfl rfl ?_
        refine VL.q (Q.fieldAddr fa46_0 rfl) ?_
        refine VL.yes rfl rfl ?_
        refine VL.q (Q.load1 ty3 rfl zM rfl) ?_
        refine VL.yes rfl rfl ?_
        refine VL.q (Q.move rfl) ?_
        refine VL.yes rfl rfl ?_
        refine VL.quietE (v' := .bool false) (by decide) (Q.ne rfl rfl) (neF rfl) ?_
        refine VL.quietE (v' := .bool false) (by decide) (Q.pick_false rfl rfl) (by rfl) ?_
        refine VL.q (Q.move rfl) ?_
        refine VL.yes rfl rfl ?_
        refine VL.q (Q.fieldAddr fa46_1 rfl) ?_
        refine VL.yes rfl rfl ?_
        refine VL.q (Q.load1 ty3 rfl zM rfl) ?_
        refine VL.yes rfl rfl ?_
        refine VL.q (Q.move rfl) ?_
        refine VL.yes rfl rfl ?_
        refine VL.quietE (v' := .bool false) (by decide) (Q.ne rfl rfl) (neF rfl) ?_
        refine VL.quietE (v' := .bool false) (by decide) (Q.pick_false rfl rfl) (by rfl) ?_
        refine VL.q (Q.move rfl) ?_
        refine VL.yes rfl rfl ?_
        refine VL.q (Q.move rfl) ?_
        refine VL.yes rfl rfl ?_
        refine VL.q (Q.move rfl) ?_
        refine VL.yes rfl rfl ?_
        refine VL.quietE (v' := .bool false) (by decide) (Q.ne rfl rfl) (neF rfl) ?_
        refine VL.quietE (v' := .bool false) (by decide) (Q.pick_false rfl rfl) (by rfl) ?_
        refine VL.nil ?_
        refine VE.seq ?_
        refine VC.condF rfl ?_
        refine VC.skip ?_
        refine VE.seq ?_
        refine VC.seq ?_
        refine VK.keep (by exact .cons (i := 1) rfl (.cons (i := 7) rfl (.cons (i := 15) rfl (.cons (i := 16) rfl (.cons (i := 17) rfl (.cons (i := 18) rfl (.cons (i := 19) rfl (.cons (i := 20) rfl (.cons (i := 23) rfl (.cons (i := 25) rfl (.cons (i := 28) rfl (.cons (i := 30) rfl (.cons (i := 32) rfl ( .nil)))))))))))))) ?_
        refine VC.region ?_
        refine VL.q (Q.loadA ty46 rfl zM zS) ?_
        refine VL.q (Q.move rfl) ?_
        refine VL.q ((by first | exact Q.subI rfl rfl (by omega) (by omega) | exact Q.sub rfl rfl)) ?_
        have hcall3 := reserved_c ((st : Int) + T) 0 hno (((st : Int) + T) - 1) (by omega)
        rw [until0] at hcall3
        refine VL.eff (O.call0 ok19 rfl rfl (by decide) (hcall3) (fun _ _ _ => trivial) ?_)
        intro x293 y293
        refine VL.q (Q.move rfl) ?_
        refine VL.quietE (v' := .bool true) (by decide) (Q.extract rfl rfl) (congrArg Value.bool (decide_eq_true (by omega))) ?_
        refine VL.q (Q.extract rfl rfl) ?_
        refine VL.q (Q.assign rfl) ?_
        refine VL.q (Q.assign rfl) ?_
        refine VL.nil ?_
        refine VE.seq ?_
        refine VC.seq ?_
        refine VC.region ?_
        refine VL.q (Q.loadA ty46 rfl zM zS) ?_
        refine VL.q (Q.move rfl) ?_
        have hcall3 := reserved_c ((st : Int) + T) 0 hno (((st : Int) + T)) (by omega)
        rw [until0] at hcall3
        refine VL.eff (O.call0 ok19 rfl rfl (by decide) (hcall3) (fun _ _ _ => trivial) ?_)
        intro x299 y299
        refine VL.q (Q.move rfl) ?_
        refine VL.quietE (v' := .bool false) (by decide) (Q.extract rfl rfl) (congrArg Value.bool (decide_eq_false (by omega))) ?_
        refine VL.q (Q.extract rfl rfl) ?_
        refine VL.q (Q.assign rfl) ?_
        refine VL.q (Q.assign rfl) ?_
        refine VL.nil ?_
        refine VE.seq ?_
        refine VC.seq ?_
        refine VC.seq ?_
        refine VC.region ?_
        refine VL.q (Q.move rfl) ?_
        refine VL.quietE (v' := .bool false) (by decide) (Q.ne rfl rfl) (by rfl) ?_
        refine VL.q (Q.move rfl) ?_
        refine VL.yes rfl rfl ?_
        refine VL.q (Q.move rfl) ?_
        refine VL.yes rfl rfl ?_
        refine VL.quietE (v' := .bool false) (by decide) (Q.ne rfl rfl) (by rfl) ?_
        refine VL.quietE (v' := .bool false) (by decide) (Q.pick_false rfl rfl) (by rfl) ?_
        refine VL.q (Q.move rfl) ?_
        refine VL.yes rfl rfl ?_
        refine VL.q (Q.move rfl) ?_
        refine VL.yes rfl rfl ?_
        refine VL.quietE (v' := .bool false) (by decide) (Q.not rfl) (by rfl) ?_
        refine VL.quietE (v' := .bool false) (by decide) (Q.pick_false rfl rfl) (by rfl) ?_
        refine VL.q (Q.move rfl) ?_
        refine VL.yes rfl rfl ?_
        refine VL.q (Q.move rfl) ?_
        refine VL.quietE (v' := .bool false) (by decide) (Q.pick_false rfl rfl) (by rfl) ?_
        refine VL.nil ?_
        refine VE.seq ?_
        refine VC.condF rfl ?_
        refine VC.skip ?_
        refine VE.seq ?_
        refine VC.seq ?_
        refine VC.seq ?_
        refine VC.region ?_
        refine VL.q (Q.assign rfl) ?_
        refine VL.nil ?_
        refine VE.seq ?_
        refine VC.block ?_
        refine VC.rounds 40 ?_
        refine VC.rnd (m := 39) ?_
        refine VC.seq ?_
        refine VC.seq ?_
        refine VC.region ?_
        refine VL.q (Q.move rfl) ?_
        refine VL.quietE (v' := .bool true) (by decide) (Q.lt rfl rfl) (by rfl) ?_
        refine VL.nil ?_
        refine VE.seq ?_
        refine VC.condT rfl ?_
        refine VC.skip ?_
        refine VE.seq ?_
        refine VC.seq ?_
        refine VC.block ?_
        refine VC.seq ?_
        refine VC.region ?_
        refine VL.q (Q.move rfl) ?_
        refine VL.eff (O.call0 ok20 rfl rfl (by decide) (space_0) (fun _ ho _ => hsl.only0 ho) ?_)
        intro x321 y321
        refine VL.q (Q.move rfl) ?_
        refine VL.q (Q.extract rfl rfl) ?_
        refine VL.q (Q.extract rfl rfl) ?_
        refine VL.q (Q.assign rfl) ?_
        refine VL.q (Q.assign rfl) ?_
        refine VL.nil ?_
        refine VE.seq ?_
        refine VC.seq ?_
        refine VC.region ?_
        refine VL.q (Q.loadA ty46 rfl zM zS) ?_
        refine VL.q (Q.move rfl) ?_
        refine VL.q (Q.move rfl) ?_
        have hcall4 := earliest_0 ((st : Int) + T) 0 hno ((st : Int) + ps + pa) (by omega)
        rw [until0] at hcall4
        refine VL.eff (O.call0 ok21 rfl rfl (by decide) (hcall4) (fun _ ho _ => hsl.only0 ho) ?_)
        intro x328 y328
        refine VL.q (Q.move rfl) ?_
        refine VL.q (Q.extract rfl rfl) ?_
        refine VL.q (Q.extract rfl rfl) ?_
        refine VL.q (Q.assign rfl) ?_
        refine VL.q (Q.assign rfl) ?_
        refine VL.nil ?_
        refine VE.seq ?_
        refine VC.seq ?_
        refine VK.keep (by exact .cons (i := 1) rfl (.cons (i := 7) rfl (.cons (i := 15) rfl (.cons (i := 16) rfl (.cons (i := 17) rfl (.cons (i := 18) rfl (.cons (i := 19) rfl (.cons (i := 20) rfl (.cons (i := 28) rfl (.cons (i := 30) rfl (.cons (i := 32) rfl (.cons (i := 36) rfl (.cons (i := 37) rfl (.cons (i := 38) rfl (.cons (i := 39) rfl (.cons (i := 40) rfl (.cons (i := 315) rfl (.cons (i := 316) rfl (.cons (i := 319) rfl (.cons (i := 320) rfl (.cons (i := 321) rfl (.cons (i := 322) rfl (.cons (i := 323) rfl (.cons (i := 324) rfl (.cons (i := 325) rfl (.cons (i := 326) rfl (.cons (i := 327) rfl (.cons (i := 328) rfl (.cons (i := 329) rfl (.cons (i := 330) rfl ( .nil))))))))))))))))))))))))))))))) ?_
        refine VC.region ?_
        refine VL.q (Q.move rfl) ?_
        refine VL.quietE (v' := .bool false) (by decide) (Q.ne rfl rfl) (by rfl) ?_
        refine VL.q (Q.move rfl) ?_
        refine VL.yes rfl rfl ?_
        refine VL.q (Q.move rfl) ?_
        refine VL.yes rfl rfl ?_
        refine VL.quietE (v' := .bool false) (by decide) (Q.ne rfl rfl) (by rfl) ?_
        refine VL.quietE (v' := .bool false) (by decide) (Q.pick_false rfl rfl) (by rfl) ?_
        refine VL.q (Q.move rfl) ?_
        refine VL.yes rfl rfl ?_
        refine VL.q (Q.move rfl) ?_
        refine VL.yes rfl rfl ?_
        refine VL.q (Q.move rfl) ?_
        refine VL.yes rfl rfl ?_
        refine VL.q (Q.move rfl) ?_
        refine VL.yes rfl rfl ?_
        refine VL.q ((by first | exact Q.addI rfl rfl (by omega) (by omega) | exact Q.add rfl rfl)) ?_
        refine VL.yes rfl rfl ?_
        refine VL.quietE (v' := .bool false) (by decide) (Q.ne rfl rfl) (neF (by split <;> omega)) ?_
        refine VL.quietE (v' := .bool false) (by decide) (Q.pick_false rfl rfl) (by rfl) ?_
        refine VL.nil ?_
        refine VE.seq ?_
        refine VC.condF rfl ?_
        refine VC.skip ?_
        refine VE.block_normal ?_
        refine VE.seq ?_
        refine VC.region ?_
        refine VL.q (Q.move rfl) ?_
        refine VL.quietE (v' := .int .u8 1) (by decide) ((by first | exact Q.addF rfl rfl (by simp only [klo]; omega) (by simp only [khi]; omega) | exact Q.addM (M := 256) rfl rfl rfl rfl)) (by rfl) ?_
        refine VL.q (Q.assign rfl) ?_
        refine VL.nil ?_
        refine VE.then_normal ?_
        refine VC.rnd (m := 38) ?_
        refine VC.seq ?_
        refine VC.seq ?_
        refine VC.region ?_
        refine VL.q (Q.move rfl) ?_
        refine VL.quietE (v' := .bool true) (by decide) (Q.lt rfl rfl) (by rfl) ?_
        refine VL.nil ?_
        refine VE.seq ?_
        refine VC.condT rfl ?_
        refine VC.skip ?_
        refine VE.seq ?_
        refine VC.seq ?_
        refine VC.block ?_
        refine VC.seq ?_
        refine VC.region ?_
        refine VL.q (Q.move rfl) ?_
        refine VL.eff (O.call0 ok20 rfl rfl (by decide) (space_1) (fun _ ho _ => hsl.only0 ho) ?_)
        intro x321_1 y321_1
        refine VL.q (Q.move rfl) ?_
        refine VL.q (Q.extract rfl rfl) ?_
        refine VL.q (Q.extract rfl rfl) ?_
        refine VL.q (Q.assign rfl) ?_
        refine VL.q (Q.assign rfl) ?_
        refine VL.nil ?_
        refine VE.seq ?_
        refine VC.seq ?_
        refine VC.region ?_
        refine VL.q (Q.loadA ty46 rfl zM zS) ?_
        refine VL.q (Q.move rfl) ?_
        refine VL.q (Q.move rfl) ?_
        have hcall4 := earliest_1 ((st : Int) + T) 0 hno ((st : Int) + ps + pa) (by omega)
        rw [until0] at hcall4
        refine VL.eff (O.call0 ok21 rfl rfl (by decide) (hcall4) (fun _ ho _ => hsl.only0 ho) ?_)
        intro x328_1 y328_1
        refine VL.q (Q.move rfl) ?_
        refine VL.q (Q.extract rfl rfl) ?_
        refine VL.q (Q.extract rfl rfl) ?_
        refine VL.q (Q.assign rfl) ?_
        refine VL.q (Q.assign rfl) ?_
        refine VL.nil ?_
        refine VE.seq ?_
        refine VC.seq ?_
        refine VC.region ?_
        refine VL.q (Q.move rfl) ?_
        refine VL.quietE (v' := .bool false) (by decide) (Q.ne rfl rfl) (by rfl) ?_
        refine VL.q (Q.move rfl) ?_
        refine VL.yes rfl rfl ?_
        refine VL.q (Q.move rfl) ?_
        refine VL.yes rfl rfl ?_
        refine VL.quietE (v' := .bool false) (by decide) (Q.ne rfl rfl) (by rfl) ?_
        refine VL.quietE (v' := .bool false) (by decide) (Q.pick_false rfl rfl) (by rfl) ?_
        refine VL.q (Q.move rfl) ?_
        refine VL.yes rfl rfl ?_
        refine VL.q (Q.move rfl) ?_
        refine VL.yes rfl rfl ?_
        refine VL.q (Q.move rfl) ?_
        refine VL.yes rfl rfl ?_
        refine VL.q (Q.move rfl) ?_
        refine VL.yes rfl rfl ?_
        refine VL.q ((by first | exact Q.addI rfl rfl (by omega) (by omega) | exact Q.add rfl rfl)) ?_
        refine VL.yes rfl rfl ?_
        refine VL.quietE (v' := .bool false) (by decide) (Q.ne rfl rfl) (neF (by split <;> omega)) ?_
        refine VL.quietE (v' := .bool false) (by decide) (Q.pick_false rfl rfl) (by rfl) ?_
        refine VL.nil ?_
        refine VE.seq ?_
        refine VC.condF rfl ?_
        refine VC.skip ?_
        refine VE.block_normal ?_
        refine VE.seq ?_
        refine VC.region ?_
        refine VL.q (Q.move rfl) ?_
        refine VL.quietE (v' := .int .u8 2) (by decide) ((by first | exact Q.addF rfl rfl (by simp only [klo]; omega) (by simp only [khi]; omega) | exact Q.addM (M := 256) rfl rfl rfl rfl)) (by rfl) ?_
        refine VL.q (Q.assign rfl) ?_
        refine VL.nil ?_
        refine VE.then_normal ?_
        refine VC.rnd (m := 37) ?_
        refine VC.seq ?_
        refine VC.seq ?_
        refine VC.region ?_
        refine VL.q (Q.move rfl) ?_
        refine VL.quietE (v' := .bool true) (by decide) (Q.lt rfl rfl) (by rfl) ?_
        refine VL.nil ?_
        refine VE.seq ?_
        refine VC.condT rfl ?_
        refine VC.skip ?_
        refine VE.seq ?_
        refine VC.seq ?_
        refine VC.block ?_
        refine VC.seq ?_
        refine VC.region ?_
        refine VL.q (Q.move rfl) ?_
        refine VL.eff (O.call0 ok20 rfl rfl (by decide) (space_2) (fun _ ho _ => hsl.only0 ho) ?_)
        intro x321_2 y321_2
        refine VL.q (Q.move rfl) ?_
        refine VL.q (Q.extract rfl rfl) ?_
        refine VL.q (Q.extract rfl rfl) ?_
        refine VL.q (Q.assign rfl) ?_
        refine VL.q (Q.assign rfl) ?_
        refine VL.nil ?_
        refine VE.seq ?_
        refine VC.seq ?_
        refine VC.region ?_
        refine VL.q (Q.loadA ty46 rfl zM zS) ?_
        refine VL.q (Q.move rfl) ?_
        refine VL.q (Q.move rfl) ?_
        have hcall4 := earliest_2 ((st : Int) + T) 0 hno ((st : Int) + ps + pa) (by omega)
        rw [until0] at hcall4
        refine VL.eff (O.call0 ok21 rfl rfl (by decide) (hcall4) (fun _ ho _ => hsl.only0 ho) ?_)
        intro x328_2 y328_2
        refine VL.q (Q.move rfl) ?_
        refine VL.q (Q.extract rfl rfl) ?_
        refine VL.q (Q.extract rfl rfl) ?_
        refine VL.q (Q.assign rfl) ?_
        refine VL.q (Q.assign rfl) ?_
        refine VL.nil ?_
        refine VE.seq ?_
        refine VC.seq ?_
        refine VC.region ?_
        refine VL.q (Q.move rfl) ?_
        refine VL.quietE (v' := .bool false) (by decide) (Q.ne rfl rfl) (by rfl) ?_
        refine VL.q (Q.move rfl) ?_
        refine VL.yes rfl rfl ?_
        refine VL.q (Q.move rfl) ?_
        refine VL.yes rfl rfl ?_
        refine VL.quietE (v' := .bool false) (by decide) (Q.ne rfl rfl) (by rfl) ?_
        refine VL.quietE (v' := .bool false) (by decide) (Q.pick_false rfl rfl) (by rfl) ?_
        refine VL.q (Q.move rfl) ?_
        refine VL.yes rfl rfl ?_
        refine VL.q (Q.move rfl) ?_
        refine VL.yes rfl rfl ?_
        refine VL.q (Q.move rfl) ?_
        refine VL.yes rfl rfl ?_
        refine VL.q (Q.move rfl) ?_
        refine VL.yes rfl rfl ?_
        refine VL.q ((by first | exact Q.addI rfl rfl (by omega) (by omega) | exact Q.add rfl rfl)) ?_
        refine VL.yes rfl rfl ?_
        refine VL.quietE (v' := .bool false) (by decide) (Q.ne rfl rfl) (neF (by split <;> omega)) ?_
        refine VL.quietE (v' := .bool false) (by decide) (Q.pick_false rfl rfl) (by rfl) ?_
        refine VL.nil ?_
        refine VE.seq ?_
        refine VC.condF rfl ?_
        refine VC.skip ?_
        refine VE.block_normal ?_
        refine VE.seq ?_
        refine VC.region ?_
        refine VL.q (Q.move rfl) ?_
        refine VL.quietE (v' := .int .u8 3) (by decide) ((by first | exact Q.addF rfl rfl (by simp only [klo]; omega) (by simp only [khi]; omega) | exact Q.addM (M := 256) rfl rfl rfl rfl)) (by rfl) ?_
        refine VL.q (Q.assign rfl) ?_
        refine VL.nil ?_
        refine VE.then_normal ?_
        refine VC.rnd (m := 36) ?_
        refine VC.seq ?_
        refine VC.seq ?_
        refine VC.region ?_
        refine VL.q (Q.move rfl) ?_
        refine VL.quietE (v' := .bool true) (by decide) (Q.lt rfl rfl) (by rfl) ?_
        refine VL.nil ?_
        refine VE.seq ?_
        refine VC.condT rfl ?_
        refine VC.skip ?_
        refine VE.seq ?_
        refine VC.seq ?_
        refine VC.block ?_
        refine VC.seq ?_
        refine VC.region ?_
        refine VL.q (Q.move rfl) ?_
        refine VL.eff (O.call0 ok20 rfl rfl (by decide) (space_3) (fun _ ho _ => hsl.only0 ho) ?_)
        intro x321_3 y321_3
        refine VL.q (Q.move rfl) ?_
        refine VL.q (Q.extract rfl rfl) ?_
        refine VL.q (Q.extract rfl rfl) ?_
        refine VL.q (Q.assign rfl) ?_
        refine VL.q (Q.assign rfl) ?_
        refine VL.nil ?_
        refine VE.seq ?_
        refine VC.seq ?_
        refine VC.region ?_
        refine VL.q (Q.loadA ty46 rfl zM zS) ?_
        refine VL.q (Q.move rfl) ?_
        refine VL.q (Q.move rfl) ?_
        have hcall4 := earliest_3 ((st : Int) + T) 0 hno ((st : Int) + ps + pa) (by omega)
        rw [until0] at hcall4
        refine VL.eff (O.call0 ok21 rfl rfl (by decide) (hcall4) (fun _ ho _ => hsl.only0 ho) ?_)
        intro x328_3 y328_3
        refine VL.q (Q.move rfl) ?_
        refine VL.q (Q.extract rfl rfl) ?_
        refine VL.q (Q.extract rfl rfl) ?_
        refine VL.q (Q.assign rfl) ?_
        refine VL.q (Q.assign rfl) ?_
        refine VL.nil ?_
        refine VE.seq ?_
        refine VC.seq ?_
        refine VC.region ?_
        refine VL.q (Q.move rfl) ?_
        refine VL.quietE (v' := .bool false) (by decide) (Q.ne rfl rfl) (by rfl) ?_
        refine VL.q (Q.move rfl) ?_
        refine VL.yes rfl rfl ?_
        refine VL.q (Q.move rfl) ?_
        refine VL.yes rfl rfl ?_
        refine VL.quietE (v' := .bool false) (by decide) (Q.ne rfl rfl) (by rfl) ?_
        refine VL.quietE (v' := .bool false) (by decide) (Q.pick_false rfl rfl) (by rfl) ?_
        refine VL.q (Q.move rfl) ?_
        refine VL.yes rfl rfl ?_
        refine VL.q (Q.move rfl) ?_
        refine VL.yes rfl rfl ?_
        refine VL.q (Q.move rfl) ?_
        refine VL.yes rfl rfl ?_
        refine VL.q (Q.move rfl) ?_
        refine VL.yes rfl rfl ?_
        refine VL.q ((by first | exact Q.addI rfl rfl (by omega) (by omega) | exact Q.add rfl rfl)) ?_
        refine VL.yes rfl rfl ?_
        refine VL.quietE (v' := .bool false) (by decide) (Q.ne rfl rfl) (neF (by split <;> omega)) ?_
        refine VL.quietE (v' := .bool false) (by decide) (Q.pick_false rfl rfl) (by rfl) ?_
        refine VL.nil ?_
        refine VE.seq ?_
        refine VC.condF rfl ?_
        refine VC.skip ?_
        refine VE.block_normal ?_
        refine VE.seq ?_
        refine VC.region ?_
        refine VL.q (Q.move rfl) ?_
        refine VL.quietE (v' := .int .u8 4) (by decide) ((by first | exact Q.addF rfl rfl (by simp only [klo]; omega) (by simp only [khi]; omega) | exact Q.addM (M := 256) rfl rfl rfl rfl)) (by rfl) ?_
        refine VL.q (Q.assign rfl) ?_
        refine VL.nil ?_
        refine VE.then_normal ?_
        refine VC.rnd (m := 35) ?_
        refine VC.seq ?_
        refine VC.seq ?_
        refine VC.region ?_
        refine VL.q (Q.move rfl) ?_
        refine VL.quietE (v' := .bool false) (by decide) (Q.lt rfl rfl) (by rfl) ?_
        refine VL.nil ?_
        refine VE.seq ?_
        refine VC.condF rfl ?_
        refine VC.exit ?_
        refine VE.then_exit ?_
        refine VE.then_exit ?_
        refine VE.block_here ?_
        refine VE.seq ?_
        refine VC.region ?_
        refine VL.q (Q.loadA ty46 rfl zM zS) ?_
        refine VL.eff (O.store ty46 rfl rfl rfl rfl zU zP ?_)
        refine VL.nil ?_
        exact VE.give zE zB hn

end Go.Proofs.YtencghlmckbmlaaDoor
