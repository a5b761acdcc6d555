/- TopChoice: the beacons of a channel are laid on the air. Conditions: those that the theorem bears. -/
import Derived.Test.YtencghlmckbmlaaGreatRows
import Derived.Test.YtencghlmckbmlaaGreatLaw
namespace Go.Proofs.YtencghlmckbmlaaGreat
open Go Go.RowKit Go.Sx
set_option maxRecDepth 100000

theorem fa87_0 : tyField Tryz.prog 87 0 = some 0 := by kernel_rfl
theorem ok20 : okFunc Tryz.prog 20 = true := by kernel_rfl
theorem ok21 : okFunc Tryz.prog 21 = true := by kernel_rfl
theorem sl89 : tySlice Tryz.prog 89 = some (23, 1, 24) := by kernel_rfl
theorem ty34 : tySz Tryz.prog 34 = some (true, 7) := by kernel_rfl
theorem ze23 : (Tryz.prog.info? 23).bind (·.zero) = some (.slice none 0 0) := by kernel_rfl

theorem beacon_s (i : Nat) (hi : i ≤ 255) (s : Sp) (hs : SpOk s) (hnm : s.nm.data.toList.length ≤ 32) : Does Tryz.prog 20 [.int .i64 (i : Int), .agg #[.int .i16 s.x, .int .i16 s.y, .int .u8 (s.ch : Int), .int .u8 (s.ld : Int), .string s.nm, .int .u16 (s.iv : Int), .bool s.sec]] [] (fun _ => True) (X := Option Addr × Nat) (fun z => (txt i s).length ≤ z.2) (fun z => .tuple #[.slice z.1 (txt i s).length z.2, .bool true]) (fun z => [.row (.slice z.1 (txt i s).length z.2) 5 1 (txt i s).length (bs (txt i s))]) :=
  beacon_c i hi s.x s.y s.ch s.ld hs.ld s.nm hnm s.iv hs.iv s.sec
theorem rs_chan (power : Int) (self : Sp) (pts : List Sp) (q : Nat) (h1 : 1 ≤ q) (h2 : q ≤ pts.length) : ((rsOf power self pts).flatMap raC)[q * 4 + 3]? = some (.int .i64 (chanOf pts q)) :=
  fm_get raC_len (rsOf power self pts) q (by rw [rsOf_len]; omega) 3 (.int .i64 (chanOf pts q)) (by
    rw [raAt_get (by rw [rsOf_len]; omega), ← chan_at power self pts q h1 h2]
    rfl)
/-- the beacons of a channel so far -/
structure La where
  i : Nat
  lp : Option Addr
  lc : Nat
  ls : List Sd
  tp : Option Addr
  tc : Nat
  ts : List BRow
  now : Int
  ids : List Nat

theorem list_p (W0 : World) (gs : List Nat) (hgs : gs = []) (power : Int) (self : Sp) (pp : Option Addr) (cp : Nat) (pts : List Sp) (hn : pts.length ≤ 8) (hpts : ∀ q ∈ pts, SpOk q) (hnm : ∀ q ∈ pts, q.nm.data.toList.length ≤ 32) (hrd : Rd W0 pp (pts.flatMap spC)) (name : ByteArray) (sec : Bool) (g14 g15 gv cv g19 gl g24 : Nat) (b0 o0 cr : Nat) (ps : Option Addr) (cs : Nat) (sh : List Row) (idw : List Nat) (k best : Nat) (hk : k < 4) (R : List Rs) (QQ : Exit → Act → World → Prop) (hS : Still QQ) (hn0 : ∀ z : La, z.i = pts.length ∧ SdsI pts k pts.length z.ls z.now ∧ TxI pts z.ls z.ts → VK W0 gs 483 (fun a W => QQ .normal a W) [(26, .slice z.lp z.ls.length z.lc), (27, .slice z.tp z.ts.length z.tc), (21, .int .i64 z.now), (2, .slice pp pts.length cp), (4, .string name), (5, .bool sec), (14, .pointer (some ⟨g14, 0, none⟩)), (15, .pointer (some ⟨g15, 0, none⟩)), (17, .slice (some ⟨gv, 0, none⟩) 4 cv), (19, .pointer (some ⟨g19, 0, none⟩)), (20, .int .i64 (best : Int)), (22, .slice (some ⟨gl, 0, none⟩) (pts.length + 1) (pts.length + 1)), (23, .int .i64 (k : Int)), (24, .pointer (some ⟨g24, 0, none⟩))] ((.row (.slice z.lp z.ls.length z.lc) 97 4 z.ls.length (z.ls.flatMap sdC) :: .row (.slice z.tp z.ts.length z.tc) 23 1 z.ts.length (z.ts.flatMap brC) :: .frz z.ids (RdB z.ts) :: .blk g14 [.slice (some ⟨b0, o0, none⟩) (rsOf power self pts).length cr, .slice ps sh.length cs] 68 :: .blk g15 [.int .i64 24, .int .i64 (-820), .bool true] 71 :: .row (.slice (some ⟨gv, 0, none⟩) 4 cv) 87 4 4 visC :: .frz idw (fun W => RdW W (some ⟨b0, o0, none⟩) (rsOf power self pts) ps sh) :: R))) :
  VK W0 gs 483 ((bodyAt Tryz.f7 [1, 1, 1, 1, 1, 1, 1, 1, 0, 1, 0, 0, 1, 0, 0, 1, 1, 1, 1, 1, 0, 1]).wp Tryz.prog QQ) [(2, .slice pp pts.length cp), (4, .string name), (5, .bool sec), (14, .pointer (some ⟨g14, 0, none⟩)), (15, .pointer (some ⟨g15, 0, none⟩)), (17, .slice (some ⟨gv, 0, none⟩) 4 cv), (19, .pointer (some ⟨g19, 0, none⟩)), (20, .int .i64 (best : Int)), (22, .slice (some ⟨gl, 0, none⟩) (pts.length + 1) (pts.length + 1)), (23, .int .i64 (k : Int)), (24, .pointer (some ⟨g24, 0, none⟩)), (26, .slice none 0 0), (27, .slice none 0 0), (21, .int .i64 (100000 * (k : Int))), (28, .int .i64 0)] (.blk g14 [.slice (some ⟨b0, o0, none⟩) (rsOf power self pts).length cr, .slice ps sh.length cs] 68 :: .blk g15 [.int .i64 24, .int .i64 (-820), .bool true] 71 :: .row (.slice (some ⟨gv, 0, none⟩) 4 cv) 87 4 4 visC :: .frz idw (fun W => RdW W (some ⟨b0, o0, none⟩) (rsOf power self pts) ps sh) :: R) := by
 subst hgs
 refine VC.block ?_
 refine VK.addNil 97 4 ?_
 refine VK.addNil 23 1 ?_
 refine VK.frzNil (RdB []) (fun _ _ hr => by cases hr) ?_
 intro ids0
 refine VK.picks (Lin := (.row (.slice none ([] : List Sd).length 0) 97 4 ([] : List Sd).length (([] : List Sd).flatMap sdC) :: .row (.slice none ([] : List BRow).length 0) 23 1 ([] : List BRow).length (([] : List BRow).flatMap brC) :: .frz ids0 (RdB ([] : List BRow)) :: .blk g14 [.slice (some ⟨b0, o0, none⟩) (rsOf power self pts).length cr, .slice ps sh.length cs] 68 :: .blk g15 [.int .i64 24, .int .i64 (-820), .bool true] 71 :: .row (.slice (some ⟨gv, 0, none⟩) 4 cv) 87 4 4 visC :: .frz idw (fun W => RdW W (some ⟨b0, o0, none⟩) (rsOf power self pts) ps sh) :: R)) zM2 ?_
 refine VC.loop (X := La) (fun x => [(2, .slice pp pts.length cp), (4, .string name), (5, .bool sec), (14, .pointer (some ⟨g14, 0, none⟩)), (15, .pointer (some ⟨g15, 0, none⟩)), (17, .slice (some ⟨gv, 0, none⟩) 4 cv), (19, .pointer (some ⟨g19, 0, none⟩)), (20, .int .i64 (best : Int)), (22, .slice (some ⟨gl, 0, none⟩) (pts.length + 1) (pts.length + 1)), (23, .int .i64 (k : Int)), (24, .pointer (some ⟨g24, 0, none⟩)), (26, .slice x.lp x.ls.length x.lc), (27, .slice x.tp x.ts.length x.tc), (21, .int .i64 x.now), (28, .int .i64 (x.i : Int))]) (fun x => (.row (.slice x.lp x.ls.length x.lc) 97 4 x.ls.length (x.ls.flatMap sdC) :: .row (.slice x.tp x.ts.length x.tc) 23 1 x.ts.length (x.ts.flatMap brC) :: .frz x.ids (RdB x.ts) :: .blk g14 [.slice (some ⟨b0, o0, none⟩) (rsOf power self pts).length cr, .slice ps sh.length cs] 68 :: .blk g15 [.int .i64 24, .int .i64 (-820), .bool true] 71 :: .row (.slice (some ⟨gv, 0, none⟩) 4 cv) 87 4 4 visC :: .frz idw (fun W => RdW W (some ⟨b0, o0, none⟩) (rsOf power self pts) ps sh) :: R)) (fun x => x.i ≤ pts.length ∧ SdsI pts k x.i x.ls x.now ∧ TxI pts x.ls x.ts) (fun x => pts.length - x.i) ⟨0, none, 0, [], none, 0, [], 100000 * (k : Int), ids0⟩ ⟨Nat.zero_le _, SdsI.start pts k, TxI.start pts⟩ ?_ ?_
 ·
  exact VS.mk zE (List.Sublist.refl _)
 ·
  rintro x ⟨hi, hsd, htx⟩
  have hnow := hsd.now
  refine VC.seq ?_
  refine VC.seq ?_
  refine VC.region ?_
  refine VL.q (Q.move rfl) ?_
  refine VL.q (Q.move rfl) ?_
  refine VL.q (Q.len sl35 rfl) ?_
  refine VL.q (Q.lt rfl rfl) ?_
  refine VL.nil ?_
  refine VE.seq ?_
  refine VC.cond rfl ?_ ?_
  ·
   intro h120
   have hlt : x.i < pts.length := by have := of_decide_eq_true h120; omega
   have hchb := chan_bd pts (1 + x.i)
   have hlen := hsd.len
   have htl := htx.len
   obtain ⟨bp, op, rfl⟩ := hrd.pos (by rw [fm_length spC_len]; omega)
   refine VC.skip ?_
   refine VE.seq ?_
   refine VC.seq ?_
   refine VC.block ?_
   refine VC.seq ?_
   refine VC.seq ?_
   refine VA.start (Ls := [.blk g14 [.slice (some ⟨b0, o0, none⟩) (rsOf power self pts).length cr, .slice ps sh.length cs] 68, .row (.slice (some ⟨gv, 0, none⟩) 4 cv) 87 4 4 visC, .frz idw (fun W => RdW W (some ⟨b0, o0, none⟩) (rsOf power self pts) ps sh)]) (Cs := []) mixed ?_
   refine VA.tk 0 rfl (Still.then (Still.then (Still.block (Still.then (Still.then (Still.block hS)))))) zB Cells.nil (Quiet.c (Q.fieldAddr fa68_0 rfl)) ?_
   refine VA.tk 1 rfl (Still.then (Still.then (Still.block (Still.then (Still.then (Still.block hS)))))) zB Cells.nil (Quiet.c (Q.load1 ty65 rfl zM rfl)) ?_
   refine VA.tk 2 rfl (Still.then (Still.then (Still.block (Still.then (Still.then (Still.block hS)))))) zB Cells.nil (Quiet.c (Q.move rfl)) ?_
   refine VA.tk 3 rfl (Still.then (Still.then (Still.block (Still.then (Still.then (Still.block hS)))))) zB Cells.nil (Quiet.c (Quiet.to (v' := .int .i64 ((1 + x.i : Nat) : Int)) ((by first | exact Q.addI rfl rfl (by omega) (by omega) | exact Q.add rfl rfl)) (congrArg (Value.int .i64) (by omega)))) ?_
   refine VA.tk 4 rfl (Still.then (Still.then (Still.block (Still.then (Still.then (Still.block hS)))))) zB Cells.nil (Quiet.c (Q.indexAddr sl65 (j := (1 + x.i)) rfl rfl rfl (by rw [rsOf_len]; omega))) ?_
   refine VA.tk 5 rfl (Still.then (Still.then (Still.block (Still.then (Still.then (Still.block hS)))))) zB Cells.nil (Quiet.c (Q.fieldAddr fa91_3 rfl)) ?_
   refine VA.tk 6 rfl (Still.then (Still.then (Still.block (Still.then (Still.then (Still.block hS)))))) zB Cells.nil (Quiet.c (Q.load (v := .int .i64 (chanOf pts (1 + x.i))) rfl (fun _ _ hW => lies_one ty3 (Rd.cell (Rd.frz (H := (fun W => RdW W (some ⟨b0, o0, none⟩) (rsOf power self pts) ps sh)) hW zM).1 (rs_chan power self pts (1 + x.i) (by omega) (by omega)))))) ?_
   refine VA.tk 7 rfl (Still.then (Still.then (Still.block (Still.then (Still.then (Still.block hS)))))) zB Cells.nil (Quiet.c (Q.move rfl)) ?_
   refine VA.tk 8 rfl (Still.then (Still.then (Still.block (Still.then (Still.then (Still.block hS)))))) zB Cells.nil (Quiet.c (Q.move rfl)) ?_
   refine VA.tk 9 rfl (Still.then (Still.then (Still.block (Still.then (Still.then (Still.block hS)))))) zB Cells.nil (Quiet.c (Q.indexAddr sl75 (j := k) rfl rfl rfl hk)) ?_
   refine VA.tk 10 rfl (Still.then (Still.then (Still.block (Still.then (Still.then (Still.block hS)))))) zB Cells.nil (Quiet.c (Q.fieldAddr fa87_0 rfl)) ?_
   refine VA.tk 11 rfl (Still.then (Still.then (Still.block (Still.then (Still.then (Still.block hS)))))) zB Cells.nil (Quiet.c (Q.loadRow (v := .int .i64 ((k : Int) + 1)) ty3 rfl zM (by rw [Nat.zero_add]; exact (vis_at k hk).1))) ?_
   refine VA.tk 12 rfl (Still.then (Still.then (Still.block (Still.then (Still.then (Still.block hS)))))) zB Cells.nil (Quiet.c (Q.ne rfl rfl)) ?_
   refine VA.done (by kernel_rfl) ?_
   refine VE.seq ?_
   refine VC.cond rfl ?_ ?_
   ·
    intro h135
    refine VC.exit ?_
    refine VE.then_exit ?_
    refine VE.block_here ?_
    refine VE.seq ?_
    refine VC.region ?_
    refine VL.q (Q.move rfl) ?_
    refine VL.q ((by first | exact Q.addI rfl rfl (by omega) (by omega) | exact Q.add rfl rfl)) ?_
    refine VL.q (Q.assign rfl) ?_
    refine VL.nil ?_
    refine VE.then_normal ?_
    refine VE.round (⟨x.i + 1, x.lp, x.lc, x.ls, x.tp, x.tc, x.ts, x.now, x.ids⟩ : La) ?_ ?_ ?_ (List.Sublist.refl _)
    ·
     exact ⟨hlt, hsd.skip (by simpa using h135), htx⟩
    ·
     show pts.length - (x.i + 1) < pts.length - x.i
     omega
    ·
     exact zE
   ·
    intro h135
    have htl2 := txt_len (1 + x.i) pts[x.i] (hnm _ (List.getElem_mem hlt))
    have hair := air_small ((txt (1 + x.i) pts[x.i]).length : Int) (by omega) (by omega)
    refine VC.skip ?_
    refine VE.seq ?_
    refine VC.seq ?_
    refine VC.region ?_
    refine VL.q (Q.move rfl) ?_
    refine VL.quietE (v' := .int .i64 ((1 + x.i : Nat) : Int)) (by decide) ((by first | exact Q.addI rfl rfl (by omega) (by omega) | exact Q.add rfl rfl)) (congrArg (Value.int .i64) (by omega)) ?_
    refine VL.q (Q.move rfl) ?_
    refine VL.q (Q.move rfl) ?_
    refine VL.q (Q.indexAddr sl35 (j := x.i) rfl rfl rfl hlt) ?_
    refine VL.q (Q.load0A (xs := spC pts[x.i]) ty34 rfl (Rd.sg hrd (fm_seg spC_len pts x.i hlt)) (by simp)) ?_
    refine VL.eff (O.call0 ok20 rfl rfl (by decide) (beacon_s (1 + x.i) (by omega) pts[x.i] (hpts _ (List.getElem_mem hlt)) (hnm _ (List.getElem_mem hlt))) (fun _ _ _ => trivial) ?_)
    rintro ⟨q143, d143⟩ y143
    refine VL.q (Q.move rfl) ?_
    refine VL.q (Q.extract rfl rfl) ?_
    refine VL.q (Q.extract rfl rfl) ?_
    refine VL.q (Q.assign rfl) ?_
    refine VL.q (Q.assign rfl) ?_
    refine VL.nil ?_
    refine VE.seq ?_
    refine VC.seq ?_
    refine VC.region ?_
    refine VL.q (Q.move rfl) ?_
    refine VL.q (Q.len sl23 rfl) ?_
    refine VL.eff (O.call0 ok21 rfl rfl (by decide) (air_c 0 ((txt (1 + x.i) pts[x.i]).length : Int) (by decide) (by decide) (by omega) (by omega)) (fun _ _ _ => trivial) ?_)
    intro x149 y149
    refine VL.q (Q.move rfl) ?_
    refine VL.q (Q.extract rfl rfl) ?_
    refine VL.q (Q.extract rfl rfl) ?_
    refine VL.q (Q.assign rfl) ?_
    refine VL.q (Q.assign rfl) ?_
    refine VL.nil ?_
    refine VE.seq ?_
    refine VC.seq ?_
    refine VC.seq ?_
    refine VC.region ?_
    refine VL.q (Q.move rfl) ?_
    refine VL.quietE (v' := .bool false) (by decide) (Q.not rfl) (by rfl) ?_
    refine VL.q (Q.move rfl) ?_
    refine VL.yes rfl rfl ?_
    refine VL.q (Q.move rfl) ?_
    refine VL.yes rfl rfl ?_
    refine VL.quietE (v' := .bool false) (by decide) (Q.ne rfl rfl) (by rfl) ?_
    refine VL.quietE (v' := .bool false) (by decide) (Q.pick_false rfl rfl) (by rfl) ?_
    refine VL.nil ?_
    refine VE.seq ?_
    refine VC.condF rfl ?_
    refine VC.skip ?_
    refine VE.seq ?_
    refine VC.seq ?_
    refine VC.region ?_
    refine VL.q (Q.move rfl) ?_
    refine VL.q (Q.move rfl) ?_
    refine VL.quietE (v' := .int .i64 ((1 + x.i : Nat) : Int)) (by decide) ((by first | exact Q.addI rfl rfl (by omega) (by omega) | exact Q.add rfl rfl)) (congrArg (Value.int .i64) (by omega)) ?_
    refine VL.q (Q.move rfl) ?_
    refine VL.q (Q.move rfl) ?_
    refine VL.q (Q.move rfl) ?_
    refine VL.q ((by first | exact Q.addI rfl rfl (by omega) (by omega) | exact Q.add rfl rfl)) ?_
    refine VL.q (Q.fieldAddr fa71_1 rfl) ?_
    refine VL.q (Q.load1 ty3 rfl zM rfl) ?_
    refine VL.q (Q.build lay97 zF) ?_
    refine VL.eff (O.buildSlice sl88 ze97 (by decide) zF (by decide) ?_)
    intro g168
    refine VL.eff (O.appendS sl88 ze97 rfl (by decide) rfl rfl zM zS rfl (by decide) (by unfold maxLen; omega) (by omega) zA ?_)
    intro p169 c169 hc169
    rw [show x.ls.flatMap sdC ++ [.int .i64 ((1 + x.i : Nat) : Int), .int .i64 x.now, .int .i64 (x.now + (airOf 0 ((txt (1 + x.i) pts[x.i]).length : Int))), .int .i64 (-820)] = (x.ls ++ [(⟨1 + x.i, x.now, x.now + (airOf 0 ((txt (1 + x.i) pts[x.i]).length : Int)), -820⟩ : Sd)]).flatMap sdC from (fm_snoc (f := sdC) x.ls (⟨1 + x.i, x.now, x.now + (airOf 0 ((txt (1 + x.i) pts[x.i]).length : Int)), -820⟩ : Sd)).symm, show x.ls.length + 1 = (x.ls ++ [(⟨1 + x.i, x.now, x.now + (airOf 0 ((txt (1 + x.i) pts[x.i]).length : Int)), -820⟩ : Sd)]).length from by simp]
    refine VL.q (Q.move rfl) ?_
    refine VL.q (Q.move rfl) ?_
    refine VL.eff (O.buildSlice sl89 ze23 (by decide) zF (by decide) ?_)
    intro g172
    refine VL.eff (O.appendS sl89 ze23 rfl (by decide) rfl rfl zM zS rfl (by decide) (by unfold maxLen; omega) (by omega) zA ?_)
    intro p173 c173 hc173
    rw [show x.ts.flatMap brC ++ [.slice q143 (txt (1 + x.i) pts[x.i]).length d143] = (x.ts ++ [(⟨q143, d143, (txt (1 + x.i) pts[x.i])⟩ : BRow)]).flatMap brC from (fm_snoc (f := brC) x.ts (⟨q143, d143, (txt (1 + x.i) pts[x.i])⟩ : BRow)).symm, show x.ts.length + 1 = (x.ts ++ [(⟨q143, d143, (txt (1 + x.i) pts[x.i])⟩ : BRow)]).length from by simp]
    refine VL.q (Q.assign rfl) ?_
    refine VL.q (Q.assign rfl) ?_
    refine VL.nil ?_
    refine VE.seq ?_
    refine VC.region ?_
    refine VL.q (Q.move rfl) ?_
    refine VL.q (Q.move rfl) ?_
    refine VL.q ((by first | exact Q.addI rfl rfl (by omega) (by omega) | exact Q.add rfl rfl)) ?_
    refine VL.q (Q.assign rfl) ?_
    refine VL.nil ?_
    refine VE.block_normal ?_
    refine VE.seq ?_
    refine VC.region ?_
    refine VL.q (Q.move rfl) ?_
    refine VL.q ((by first | exact Q.addI rfl rfl (by omega) (by omega) | exact Q.add rfl rfl)) ?_
    refine VL.q (Q.assign rfl) ?_
    refine VL.nil ?_
    refine VE.then_normal ?_
    refine VK.freeze (A := [.frz x.ids (RdB x.ts), .row (.slice q143 (txt (1 + x.i) pts[x.i]).length d143) 5 1 (txt (1 + x.i) pts[x.i]).length (bs (txt (1 + x.i) pts[x.i]))]) (RdB (x.ts ++ [(⟨q143, d143, (txt (1 + x.i) pts[x.i])⟩ : BRow)])) zM2 (fun W hW => rdb_snoc (r := (⟨q143, d143, (txt (1 + x.i) pts[x.i])⟩ : BRow)) (e := 5) hW (.head _) (.tail _ (.head _))) ?_
    intro ids1
    refine VK.picks (Lin := (.row (.slice p169 (x.ls ++ [(⟨1 + x.i, x.now, x.now + (airOf 0 ((txt (1 + x.i) pts[x.i]).length : Int)), -820⟩ : Sd)]).length c169) 97 4 (x.ls ++ [(⟨1 + x.i, x.now, x.now + (airOf 0 ((txt (1 + x.i) pts[x.i]).length : Int)), -820⟩ : Sd)]).length ((x.ls ++ [(⟨1 + x.i, x.now, x.now + (airOf 0 ((txt (1 + x.i) pts[x.i]).length : Int)), -820⟩ : Sd)]).flatMap sdC) :: .row (.slice p173 (x.ts ++ [(⟨q143, d143, (txt (1 + x.i) pts[x.i])⟩ : BRow)]).length c173) 23 1 (x.ts ++ [(⟨q143, d143, (txt (1 + x.i) pts[x.i])⟩ : BRow)]).length ((x.ts ++ [(⟨q143, d143, (txt (1 + x.i) pts[x.i])⟩ : BRow)]).flatMap brC) :: .frz ids1 (RdB (x.ts ++ [(⟨q143, d143, (txt (1 + x.i) pts[x.i])⟩ : BRow)])) :: .blk g14 [.slice (some ⟨b0, o0, none⟩) (rsOf power self pts).length cr, .slice ps sh.length cs] 68 :: .blk g15 [.int .i64 24, .int .i64 (-820), .bool true] 71 :: .row (.slice (some ⟨gv, 0, none⟩) 4 cv) 87 4 4 visC :: .frz idw (fun W => RdW W (some ⟨b0, o0, none⟩) (rsOf power self pts) ps sh) :: R)) zM2 ?_
    refine VE.round (⟨x.i + 1, p169, c169, x.ls ++ [(⟨1 + x.i, x.now, x.now + (airOf 0 ((txt (1 + x.i) pts[x.i]).length : Int)), -820⟩ : Sd)], p173, c173, x.ts ++ [(⟨q143, d143, (txt (1 + x.i) pts[x.i])⟩ : BRow)], x.now + (airOf 0 ((txt (1 + x.i) pts[x.i]).length : Int)), ids1⟩ : La) ?_ ?_ ?_ (List.Sublist.refl _)
    ·
     exact ⟨hlt, hsd.add (by simpa using h135) hair, htx.add (by show (txt (1 + x.i) pts[x.i]) = txt (1 + x.i) (pAt pts (1 + x.i)); rw [pAt_get hlt]) y143⟩
    ·
     show pts.length - (x.i + 1) < pts.length - x.i
     omega
    ·
     exact zE
  ·
   intro h120
   have hie : x.i = pts.length := by have := of_decide_eq_false h120; omega
   refine VC.exit ?_
   refine VE.then_exit ?_
   refine VE.then_exit ?_
   refine VE.block_here ?_
   exact VK.fin hn0 x ⟨hie, hie ▸ hsd, htx⟩

end Go.Proofs.YtencghlmckbmlaaGreat
