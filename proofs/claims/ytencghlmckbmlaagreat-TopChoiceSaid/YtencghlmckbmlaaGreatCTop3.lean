/- TopChoice: what is heard of a channel is learned. Conditions: those that the theorem bears. -/
import Derived.Test.YtencghlmckbmlaaGreatRows
import Derived.Test.YtencghlmckbmlaaGreatCTop2
namespace Go.Proofs.YtencghlmckbmlaaGreat
open Go Go.RowKit Go.Sx
set_option maxRecDepth 100000

theorem ok25 : okFunc Tryz.prog 25 = true := by kernel_rfl
theorem ok26 : okFunc Tryz.prog 26 = true := by kernel_rfl
theorem ok27 : okFunc Tryz.prog 27 = true := by kernel_rfl
theorem zo34 : tyZero Tryz.prog 34 = some [.int .i16 0, .int .i16 0, .int .u8 0, .int .u8 0, .string ByteArray.empty, .int .u16 0, .bool false] := by kernel_rfl

theorem mt_f1 {pts : List Sp} {name : ByteArray} {sec : Bool} {q : Nat} (h : (!((pAt pts q).nm.toList == name.toList)) = true) : mt pts name sec q = false := by
  simp only [Bool.not_eq_true'] at h
  unfold mt
  rw [h, Bool.false_and]
theorem mt_f2 {pts : List Sp} {name : ByteArray} {sec : Bool} {q : Nat} (h : (!((pAt pts q).sec == sec)) = true) : mt pts name sec q = false := by
  simp only [Bool.not_eq_true'] at h
  unfold mt
  rw [h, Bool.and_false]
theorem mt_t {pts : List Sp} {name : ByteArray} {sec : Bool} {q : Nat} (h1 : (!((pAt pts q).nm.toList == name.toList)) = false) (h2 : (!((pAt pts q).sec == sec)) = false) : mt pts name sec q = true := by
  simp only [Bool.not_eq_false'] at h1 h2
  unfold mt
  rw [h1, h2]
  rfl
theorem got_next {hs : List Nat} {ls : List Sd} {m : Nat} (h : m < ls.length) : hs ++ (ls.take m).map Sd.n ++ [ls[m].n] = hs ++ (ls.take (m + 1)).map Sd.n := by
  rw [List.take_succ_eq_append_getElem h, List.map_append, List.append_assoc]
  rfl
theorem pAt_mem {pts : List Sp} {q : Nat} (h1 : 1 ≤ q) (h2 : q ≤ pts.length) : ∃ h : q - 1 < pts.length, pts[q - 1] = pAt pts q := by
  refine ⟨by omega, ?_⟩
  obtain ⟨k, rfl⟩ : ∃ k, q = 1 + k := ⟨q - 1, by omega⟩
  rw [pAt_get (by omega)]
  simp
theorem heard {ls : List Sd} {m : Nat} {pts : List Sp} {k : Nat} {now : Int} (h : SdsI pts k pts.length ls now) (hm : m < ls.length) {hs : List Nat} (hf : ∀ x ∈ ls, x.n ∉ hs) : ls[m].n ∉ hs ++ (ls.take m).map Sd.n := by
  intro hq
  rcases List.mem_append.1 hq with hq | hq
  · exact hf _ (List.getElem_mem hm) hq
  · obtain ⟨x, hx, he⟩ := List.mem_map.1 hq
    obtain ⟨i, hi, rfl⟩ := List.getElem_of_mem hx
    rw [List.length_take] at hi
    rw [List.getElem_take] at he
    have := (h.pw i m (by omega) hm (by omega)).1
    omega
/-- where the learning stands -/
structure Lb where
  m : Nat
  p : Option Addr
  c : Nat
  l : List Cd
  lv : List Int
  best : Nat

set_option maxHeartbeats 2000000 in
theorem learn_p (W0 : World) (gs : List Nat) (hgs : gs = []) (power : Int) (self : Sp) (pp : Option Addr) (cp : Nat) (pts : List Sp) (hn : pts.length ≤ 8) (hpts : ∀ q ∈ pts, SpOk q) (hnm : ∀ q ∈ pts, q.nm.data.toList.length ≤ 32) (hrd : Rd W0 pp (pts.flatMap spC)) (name : ByteArray) (sec : Bool) (g14 g15 gv cv g19 gl g24 : Nat) (b0 o0 cr : Nat) (ps : Option Addr) (cs : Nat) (sh : List Row) (idw : List Nat) (sw : List Nat) (hw : AirOk (rsOf power self pts) (sdOf sh)) (hsd : sdOf sh = wsd (pts.length + 1) sw) (pr2 : Option Addr) (cr2 : Nat) (ps2 : Option Addr) (cs2 : Nat) (sh2 : List Row) (idt : List Nat) (ht : sdOf sh2 = sdOf sh) (k : Nat) (hk : k < 4) (lp : Option Addr) (lc : Nat) (ls : List Sd) (tp : Option Addr) (tc : Nat) (ts : List BRow) (now : Int) (idb : List Nat) (hsI : SdsI pts k pts.length ls now) (htx : TxI pts ls ts) (q33 : Option Addr) (c33 : Nat) (rows : List Row) (idr : List Nat) (hrows : rows.map Row.d = ls.map (rcv (tuneR (rsOf power self pts) 0 ((k : Int) + 1)) (sdOf sh2))) (hs : List Nat) (hsl : hs.length ≤ 8 * k) (hf : ∀ x ∈ ls, x.n ∉ hs) (tpc : Option Addr) (tcc : Nat) (l : List Cd) (lv : List Int) (best : Nat) (hg : Got (lvAt power self pts sw) pts name sec hs l lv best (100000 * ((k : Int) + 1)))  (QQ : Exit → Act → World → Prop) (hS : Still QQ) (hn0 : ∀ z : Lb, z.m = ls.length ∧ Got (lvAt power self pts sw) pts name sec (hs ++ ls.map Sd.n) z.l z.lv z.best (100000 * ((k : Int) + 1)) → VK W0 gs 483 (fun a W => QQ .normal a W) [(20, .int .i64 (z.best : Int)), (2, .slice pp pts.length cp), (4, .string name), (5, .bool sec), (14, .pointer (some ⟨g14, 0, none⟩)), (15, .pointer (some ⟨g15, 0, none⟩)), (17, .slice (some ⟨gv, 0, none⟩) 4 cv), (19, .pointer (some ⟨g19, 0, none⟩)), (22, .slice (some ⟨gl, 0, none⟩) (pts.length + 1) (pts.length + 1)), (23, .int .i64 (k : Int))] ([.blk g19 [.slice z.p z.l.length z.c] 83, .row (.slice z.p z.l.length z.c) 117 13 z.l.length (z.l.flatMap cdC), .blk gl (z.lv.flatMap intC) 3, .blk g14 [.slice (some ⟨b0, o0, none⟩) (rsOf power self pts).length cr, .slice ps sh.length cs] 68, .blk g15 [.int .i64 24, .int .i64 (-820), .bool true] 71, .row (.slice (some ⟨gv, 0, none⟩) 4 cv) 87 4 4 visC, .frz idw (fun W => RdW W (some ⟨b0, o0, none⟩) (rsOf power self pts) ps sh)])) :
  VK W0 gs 483 ((bodyAt Tryz.f7 [1, 1, 1, 1, 1, 1, 1, 1, 0, 1, 0, 0, 1, 0, 0, 1, 1, 1, 1, 1, 1, 1, 1, 0, 1]).wp Tryz.prog QQ) [(2, .slice pp pts.length cp), (4, .string name), (5, .bool sec), (14, .pointer (some ⟨g14, 0, none⟩)), (15, .pointer (some ⟨g15, 0, none⟩)), (17, .slice (some ⟨gv, 0, none⟩) 4 cv), (19, .pointer (some ⟨g19, 0, none⟩)), (20, .int .i64 (best : Int)), (22, .slice (some ⟨gl, 0, none⟩) (pts.length + 1) (pts.length + 1)), (23, .int .i64 (k : Int)), (24, .pointer (some ⟨g24, 0, none⟩)), (26, .slice lp ls.length lc), (27, .slice tp ts.length tc), (33, .slice q33 rows.length c33), (21, .int .i64 now), (34, .int .i64 0)] ([.blk g19 [.slice tpc l.length tcc] 83, .row (.slice tpc l.length tcc) 117 13 l.length (l.flatMap cdC), .blk gl (lv.flatMap intC) 3, .blk g24 [.slice pr2 (tuneR (rsOf power self pts) 0 ((k : Int) + 1)).length cr2, .slice ps2 sh2.length cs2] 68, .frz idt (fun W => RdW W pr2 (tuneR (rsOf power self pts) 0 ((k : Int) + 1)) ps2 sh2), .frz idr (fun W => Rd W q33 (rows.flatMap rowC) ∧ RdRows rows W), .row (.slice lp ls.length lc) 97 4 ls.length (ls.flatMap sdC), .row (.slice tp ts.length tc) 23 1 ts.length (ts.flatMap brC), .frz idb (RdB ts), .blk g14 [.slice (some ⟨b0, o0, none⟩) (rsOf power self pts).length cr, .slice ps sh.length cs] 68, .blk g15 [.int .i64 24, .int .i64 (-820), .bool true] 71, .row (.slice (some ⟨gv, 0, none⟩) 4 cv) 87 4 4 visC, .frz idw (fun W => RdW W (some ⟨b0, o0, none⟩) (rsOf power self pts) ps sh)]) := by
 subst hgs
 refine VC.block ?_
 refine VC.loop (X := Lb) (fun x => [(2, .slice pp pts.length cp), (4, .string name), (5, .bool sec), (14, .pointer (some ⟨g14, 0, none⟩)), (15, .pointer (some ⟨g15, 0, none⟩)), (17, .slice (some ⟨gv, 0, none⟩) 4 cv), (19, .pointer (some ⟨g19, 0, none⟩)), (20, .int .i64 (x.best : Int)), (22, .slice (some ⟨gl, 0, none⟩) (pts.length + 1) (pts.length + 1)), (23, .int .i64 (k : Int)), (24, .pointer (some ⟨g24, 0, none⟩)), (26, .slice lp ls.length lc), (27, .slice tp ts.length tc), (33, .slice q33 rows.length c33), (21, .int .i64 now), (34, .int .i64 (x.m : Int))]) (fun x => [.blk g19 [.slice x.p x.l.length x.c] 83, .row (.slice x.p x.l.length x.c) 117 13 x.l.length (x.l.flatMap cdC), .blk gl (x.lv.flatMap intC) 3, .blk g24 [.slice pr2 (tuneR (rsOf power self pts) 0 ((k : Int) + 1)).length cr2, .slice ps2 sh2.length cs2] 68, .frz idt (fun W => RdW W pr2 (tuneR (rsOf power self pts) 0 ((k : Int) + 1)) ps2 sh2), .frz idr (fun W => Rd W q33 (rows.flatMap rowC) ∧ RdRows rows W), .row (.slice lp ls.length lc) 97 4 ls.length (ls.flatMap sdC), .row (.slice tp ts.length tc) 23 1 ts.length (ts.flatMap brC), .frz idb (RdB ts), .blk g14 [.slice (some ⟨b0, o0, none⟩) (rsOf power self pts).length cr, .slice ps sh.length cs] 68, .blk g15 [.int .i64 24, .int .i64 (-820), .bool true] 71, .row (.slice (some ⟨gv, 0, none⟩) 4 cv) 87 4 4 visC, .frz idw (fun W => RdW W (some ⟨b0, o0, none⟩) (rsOf power self pts) ps sh)]) (fun x => x.m ≤ ls.length ∧ Got (lvAt power self pts sw) pts name sec (hs ++ (ls.take x.m).map Sd.n) x.l x.lv x.best (100000 * ((k : Int) + 1))) (fun x => ls.length - x.m) ⟨0, tpc, tcc, l, lv, best⟩ ⟨Nat.zero_le _, by rw [List.take_zero, List.map_nil, List.append_nil]; exact hg⟩ ?_ ?_
 ·
  exact VS.mk zE (List.Sublist.refl _)
 ·
  rintro x ⟨hm, hx⟩
  refine VC.seq ?_
  refine VC.seq ?_
  refine VC.region ?_
  refine VL.q (Q.move rfl) ?_
  refine VL.q (Q.move rfl) ?_
  refine VL.q (Q.len sl88 rfl) ?_
  refine VL.q (Q.lt rfl rfl) ?_
  refine VL.nil ?_
  refine VE.seq ?_
  refine VC.cond rfl ?_ ?_
  ·
   intro h204
   have hlt : x.m < ls.length := by have := of_decide_eq_true h204; omega
   have el := hsI.el _ (List.getElem_mem hlt)
   have hnw := hsI.now
   have hsl2 := hsI.len
   have hrl : rows.length = ls.length := by have := congrArg List.length hrows; simpa using this
   have hrm : x.m < rows.length := by omega
   have htl := htx.len
   have htm : x.m < ts.length := by omega
   obtain ⟨htd, htc⟩ := htx.at_ x.m hlt
   obtain ⟨hpi, hpe⟩ := pAt_mem el.1 el.2.1
   have hsp : SpOk (pAt pts ls[x.m].n) := hpe ▸ hpts _ (List.getElem_mem hpi)
   have hsn : (pAt pts ls[x.m].n).nm.data.toList.length ≤ 32 := hpe ▸ hnm _ (List.getElem_mem hpi)
   have hlevT : lev (tuneR (rsOf power self pts) 0 ((k : Int) + 1)) (sdOf sh2) ls[x.m].n 0 = (lvAt power self pts sw ls[x.m].n) := by rw [lev_tune, ht, hsd]; rfl
   have hlb : -2000 ≤ (lvAt power self pts sw ls[x.m].n) ∧ (lvAt power self pts sw ls[x.m].n) ≤ 300 := by have := lev_bd hw (i := ls[x.m].n) (j := 0) (by rw [rsOf_len]; omega) (by rw [rsOf_len]; omega); rw [hsd] at this; exact this
   have hwt : AirOk (tuneR (rsOf power self pts) 0 ((k : Int) + 1)) (sdOf sh2) := by rw [ht]; exact hw.tune 0 (by rw [rsOf_len]; omega) _ (by omega)
   have hrd2 : rows[x.m].d = rcv (tuneR (rsOf power self pts) 0 ((k : Int) + 1)) (sdOf sh2) ls[x.m] := by
    have h1 := congrArg (fun l => l[x.m]?) hrows
    simpa [hrm, hlt] using h1
   have hcan : (rows[x.m].d.any fun z => decide (((0 : Nat) : Int) = z)) = decide (-820 ≤ (lvAt power self pts sw ls[x.m].n)) := by
    rw [hrd2, rcv_mem _ _ _ 0 (by rw [tuneR_len, rsOf_len]; omega), can_here power self pts (sdOf sh2) ls[x.m] el.1 el.2.1 _ el.2.2.1, el.2.2.2.2.2.2, ht, hsd]
    show (decide (-820 ≤ (lvAt power self pts sw ls[x.m].n)) && decide (-820 ≤ (lvAt power self pts sw ls[x.m].n))) = _
    rw [Bool.and_self]
   have hrlen : rows[x.m].d.length ≤ 1000 := by
    rw [hrd2]
    have h1 := rcv_len (tuneR (rsOf power self pts) 0 ((k : Int) + 1)) (sdOf sh2) ls[x.m] (tuneR (rsOf power self pts) 0 ((k : Int) + 1)).length
    have h2 : (tuneR (rsOf power self pts) 0 ((k : Int) + 1)).length = pts.length + 1 := by rw [tuneR_len, rsOf_len]
    show (rcvTo _ _ _ _).length ≤ 1000
    omega
   obtain ⟨bp, op, rfl⟩ := hrd.pos (by rw [fm_length spC_len]; omega)
   have hni := heard hsI hlt hf
   have hend : ls[x.m].e ≤ 100000 * ((k : Int) + 1) := by omega
   have hmo := hx.most
   rw [List.length_append, List.length_map, List.length_take] at hmo
   refine VK.rowHead (m := ls.length) (p := lp) (c := lc) zM (by omega) ?_
   intro gq hgq _ _
   subst hgq
   refine VK.rowHead (m := ts.length) (p := tp) (c := tc) zM (by omega) ?_
   intro gt hgt _ _
   subst hgt
   refine VK.know (∃ b o, q33 = some ⟨b, o, none⟩) (ids := idr) (H := (fun W => Rd W q33 (rows.flatMap rowC) ∧ RdRows rows W)) zM (fun W hW => hW.1.pos (by rw [fm_length rowC_len]; omega)) ?_
   rintro ⟨b9, o9, hq33⟩
   subst hq33
   refine VC.skip ?_
   refine VE.seq ?_
   refine VC.seq ?_
   refine VC.block ?_
   refine VC.seq ?_
   refine VC.region ?_
   refine VL.q (Q.move rfl) ?_
   refine VL.q (Q.move rfl) ?_
   refine VL.q (Q.indexAddr sl88 (j := x.m) rfl rfl rfl hlt) ?_
   refine VL.q (Q.fieldAddr fa97_0 rfl) ?_
   refine VL.q (Q.loadRow (v := .int .i64 (ls[x.m].n : Int)) ty3 rfl zM (by rw [Nat.zero_add]; exact fm_get sdC_len ls x.m hlt 0 _ rfl)) ?_
   refine VL.q (Q.assign rfl) ?_
   refine VL.nil ?_
   refine VE.seq ?_
   refine VC.seq ?_
   refine VC.region ?_
   refine VL.q (Q.loadA ty68 rfl zM zS) ?_
   refine VL.q (Q.move rfl) ?_
   refine VL.eff (O.call0 ok23 rfl rfl (by decide) (Level_c pr2 cr2 (tuneR (rsOf power self pts) 0 ((k : Int) + 1)) ps2 cs2 sh2 hwt ls[x.m].n 0 (by rw [tuneR_len, rsOf_len]; omega) (by rw [tuneR_len, rsOf_len]; omega)) (fun _ _ hW => Rd.frz (H := (fun W => RdW W pr2 (tuneR (rsOf power self pts) 0 ((k : Int) + 1)) ps2 sh2)) hW zM) ?_)
   intro x215 y215
   rw [hlevT]
   refine VL.q (Q.move rfl) ?_
   refine VL.q (Q.extract rfl rfl) ?_
   refine VL.q (Q.extract rfl rfl) ?_
   refine VL.q (Q.assign rfl) ?_
   refine VL.q (Q.assign rfl) ?_
   refine VL.nil ?_
   refine VE.seq ?_
   refine VC.seq ?_
   refine VC.seq ?_
   refine VA.start (Ls := [.frz idr (fun W => Rd W (some ⟨b9, o9, none⟩) (rows.flatMap rowC) ∧ RdRows rows W), .blk g15 [.int .i64 24, .int .i64 (-820), .bool true] 71]) (Cs := []) mixed ?_
   refine VA.tk 0 rfl (Still.then (Still.then (Still.block (Still.then (Still.then (Still.block hS)))))) zB Cells.nil (Quiet.c (Q.move rfl)) ?_
   refine VA.tk 1 rfl (Still.then (Still.then (Still.block (Still.then (Still.then (Still.block hS)))))) zB Cells.nil (Quiet.c (Q.ne rfl rfl)) ?_
   refine VA.tk 2 rfl (Still.then (Still.then (Still.block (Still.then (Still.then (Still.block hS)))))) zB Cells.nil (Quiet.c (Q.move rfl)) ?_
   refine VA.tkY 3 rfl (Still.then (Still.then (Still.block (Still.then (Still.then (Still.block hS)))))) zB Cells.nil (Quiet.c (Q.move rfl)) ?_
   refine VA.tkY 4 rfl (Still.then (Still.then (Still.block (Still.then (Still.then (Still.block hS)))))) zB Cells.nil (Quiet.c (Q.move rfl)) ?_
   refine VA.tkY 5 rfl (Still.then (Still.then (Still.block (Still.then (Still.then (Still.block hS)))))) zB Cells.nil (Quiet.c (Q.indexAddr sl66 (j := x.m) rfl rfl rfl hrm)) ?_
   refine VA.tkY 6 rfl (Still.then (Still.then (Still.block (Still.then (Still.then (Still.block hS)))))) zB Cells.nil (Quiet.c (Q.load (v := .slice rows[x.m].p rows[x.m].d.length rows[x.m].c) rfl (fun _ _ hW => lies_one ty78 (Rd.at (Rd.frz (H := (fun W => Rd W (some ⟨b9, o9, none⟩) (rows.flatMap rowC) ∧ RdRows rows W)) hW zM).1 (fm_at rowC_len rows x.m hrm _ rfl))))) ?_
   refine VA.tkY 8 rfl (Still.then (Still.then (Still.block (Still.then (Still.then (Still.block hS)))))) zB Cells.nil (Quiet.c (Q.move rfl)) ?_
   refine VA.tkY 9 rfl (Still.then (Still.then (Still.block (Still.then (Still.then (Still.block hS)))))) zB Cells.nil (Quiet.c (Q.fieldAddr fa71_1 rfl)) ?_
   refine VA.tkY 10 rfl (Still.then (Still.then (Still.block (Still.then (Still.then (Still.block hS)))))) zB Cells.nil (Quiet.c (Q.load1 ty3 rfl zM rfl)) ?_
   refine VA.tkY 11 rfl (Still.then (Still.then (Still.block (Still.then (Still.then (Still.block hS)))))) zB Cells.nil (Quiet.c (Q.ge rfl rfl)) ?_
   refine VA.all (rs := [7]) (by kernel_rfl) (by simp) ?_
   refine VA.forall1 ?_
   ·
    refine VA.effY rfl rfl rfl ?_
    refine id (O.call0 ok24 rfl rfl (by decide) (contains_int rows[x.m].p rows[x.m].d.length rows[x.m].c rows[x.m].d rfl hrlen ((0 : Nat) : Int)) (fun _ _ hW => (Rd.frz (H := (fun W => Rd W (some ⟨b9, o9, none⟩) (rows.flatMap rowC) ∧ RdRows rows W)) hW zM).2 _ (List.getElem_mem hrm)) ?_)
    intro x225 y225
    rw [hcan]
    refine VA.next zB Cells.nil ?_
    refine VA.tkY 12 rfl (Still.then (Still.then (Still.block (Still.then (Still.then (Still.block hS)))))) zB Cells.nil (Quiet.c (Quiet.to (v' := .bool false) (Q.bne ub4 rfl rfl) (congrArg Value.bool (by simp)))) ?_
    refine VA.tk 13 rfl (Still.then (Still.then (Still.block (Still.then (Still.then (Still.block hS)))))) zB Cells.nil (Quiet.c (Q.pick_false rfl rfl)) ?_
    refine VA.done (by kernel_rfl) ?_
    refine VE.seq ?_
    refine VC.condF rfl ?_
    refine VC.skip ?_
    refine VE.seq ?_
    refine VC.seq ?_
    refine VC.seq ?_
    refine VC.region ?_
    refine VL.q (Q.move rfl) ?_
    refine VL.q (Q.fieldAddr fa71_1 rfl) ?_
    refine VL.q (Q.load1 ty3 rfl zM rfl) ?_
    refine VL.q (Q.lt rfl rfl) ?_
    refine VL.nil ?_
    refine VE.seq ?_
    refine VC.cond rfl ?_ ?_
    ·
     intro h235
     refine VC.exit ?_
     refine VE.then_exit ?_
     refine VE.block_here ?_
     refine VE.seq ?_
     refine VC.region ?_
     refine VL.q (Q.move rfl) ?_
     refine VL.q ((by first | exact Q.addI rfl rfl (by omega) (by omega) | exact Q.add rfl rfl)) ?_
     refine VL.q (Q.assign rfl) ?_
     refine VL.nil ?_
     refine VE.then_normal ?_
     refine VK.picks (Lin := [.blk g19 [.slice x.p x.l.length x.c] 83, .row (.slice x.p x.l.length x.c) 117 13 x.l.length (x.l.flatMap cdC), .blk gl (x.lv.flatMap intC) 3, .blk g24 [.slice pr2 (tuneR (rsOf power self pts) 0 ((k : Int) + 1)).length cr2, .slice ps2 sh2.length cs2] 68, .frz idt (fun W => RdW W pr2 (tuneR (rsOf power self pts) 0 ((k : Int) + 1)) ps2 sh2), .frz idr (fun W => Rd W (some ⟨b9, o9, none⟩) (rows.flatMap rowC) ∧ RdRows rows W), .row (.slice (some ⟨gq, 0, none⟩) ls.length lc) 97 4 ls.length (ls.flatMap sdC), .row (.slice (some ⟨gt, 0, none⟩) ts.length tc) 23 1 ts.length (ts.flatMap brC), .frz idb (RdB ts), .blk g14 [.slice (some ⟨b0, o0, none⟩) (rsOf power self pts).length cr, .slice ps sh.length cs] 68, .blk g15 [.int .i64 24, .int .i64 (-820), .bool true] 71, .row (.slice (some ⟨gv, 0, none⟩) 4 cv) 87 4 4 visC, .frz idw (fun W => RdW W (some ⟨b0, o0, none⟩) (rsOf power self pts) ps sh)]) zM2 ?_
     refine VE.round (⟨x.m + 1, x.p, x.c, x.l, x.lv, x.best⟩ : Lb) ?_ ?_ ?_ (List.Sublist.refl _)
     ·
      refine ⟨hlt, ?_⟩
      have h9 := hx.skip ⟨el.1, el.2.1⟩ (of_decide_eq_true h235)
      rw [got_next hlt] at h9
      exact h9
     ·
      show ls.length - (x.m + 1) < ls.length - x.m
      omega
     ·
      exact zE
    ·
     intro h235
     have hLq : -820 ≤ (lvAt power self pts sw ls[x.m].n) := by have := of_decide_eq_false h235; omega
     have hbok := bcnE_ok (pAt pts ls[x.m].n) hsn
     have hbe := bcnE_enc (pAt pts ls[x.m].n) hsn
     have hbl3 := bodyOf_len (pAt pts ls[x.m].n)
     have hiv := hsp.iv
     refine VC.skip ?_
     refine VE.seq ?_
     refine VC.seq ?_
     refine VC.region ?_
     refine VL.q (Q.move rfl) ?_
     refine VL.q (Q.move rfl) ?_
     refine VL.q (Q.indexAddr sl89 (j := x.m) rfl rfl rfl htm) ?_
     refine VL.q (Q.loadRow (v := .slice ts[x.m].p (txt ls[x.m].n (pAt pts ls[x.m].n)).length ts[x.m].c) ty23 rfl zM (by rw [Nat.zero_add]; exact fm_at brC_len ts x.m htm _ (by rw [brC, htd]))) ?_
     refine VL.eff (O.call0 ok25 rfl rfl (by decide) (decode_bcn 0 (by decide) 0 ls[x.m].n (by decide) (by omega) ts[x.m].p (bodyOf (pAt pts ls[x.m].n)).length ts[x.m].c (bodyOf (pAt pts ls[x.m].n)) rfl (by omega) (by rw [htd] at htc; exact htc)) (fun _ _ hW => by have := Rd.frz (H := RdB ts) hW zM ts[x.m] (List.getElem_mem htm); rw [htd] at this; exact this) ?_)
     rintro ⟨q241, d241⟩ y241
     refine VL.q (Q.move rfl) ?_
     refine VL.q (Q.extract rfl rfl) ?_
     refine VL.q (Q.extract rfl rfl) ?_
     refine VL.eff (O.alloc zo105 (by decide) ?_)
     intro g38
     refine VL.eff (O.store ty105 rfl rfl rfl rfl zU zP ?_)
     refine VL.q (Q.assign rfl) ?_
     refine VL.nil ?_
     refine VE.seq ?_
     refine VC.seq ?_
     refine VC.region ?_
     refine VL.q (Q.fieldAddr fa105_1 rfl) ?_
     refine VL.q (Q.load1 ty23 rfl zM rfl) ?_
     refine VL.eff (O.call0 ok26 rfl rfl (by decide) (decbcn_c q241 d241 (max 1 (pAt pts ls[x.m].n).iv) (by omega) (bcnE (pAt pts ls[x.m].n)) hbok.1 hbok.2 hbe.2 (by omega) y241) (fun _ _ hW => Rd.row hW zM) ?_)
     rintro ⟨dk, dp, dc, dels, dids, dof, ddd⟩ ⟨hmap, hdl⟩
     dsimp only at hmap hdl
     dsimp only
     refine VL.q (Q.move rfl) ?_
     refine VL.q (Q.extract rfl rfl) ?_
     refine VL.q (Q.extract rfl rfl) ?_
     refine VL.eff (O.alloc zo111 (by decide) ?_)
     intro g39
     refine VL.eff (O.store ty111 rfl rfl rfl rfl zU zP ?_)
     refine VL.q (Q.assign rfl) ?_
     refine VL.nil ?_
     refine VE.seq ?_
     refine VC.seq ?_
     refine VC.seq ?_
     refine VC.region ?_
     refine VL.q (Q.move rfl) ?_
     refine VL.quietE (v' := .bool false) (by decide) (Q.ne rfl rfl) (by rfl) ?_
     refine VL.q (Q.move rfl) ?_
     refine VL.yes rfl rfl ?_
     refine VL.q (Q.move rfl) ?_
     refine VL.yes rfl rfl ?_
     refine VL.quietE (v' := .bool false) (by decide) (Q.ne rfl rfl) (by rfl) ?_
     refine VL.quietE (v' := .bool false) (by decide) (Q.pick_false rfl rfl) (by rfl) ?_
     refine VL.nil ?_
     refine VE.seq ?_
     refine VC.condF rfl ?_
     refine VC.skip ?_
     refine VE.seq ?_
     refine VC.seq ?_
     refine VC.seq ?_
     refine VA.start (Ls := [.blk g39 [.int .u64 7, .int .u16 ((max 1 (pAt pts ls[x.m].n).iv : Nat) : Int), .int .u16 0, .slice dp dels.length dc] 111, .blk g38 [.int .u8 0, .int .u8 8, .bool false, .bool false, .bool false, .bool false, .bool false, .bool false, .bool false, .int .i64 ((0 : Nat) : Int), .int .u8 255, .int .u8 255, .int .u8 255, .int .u8 255, .int .u8 255, .int .u8 255, .int .u8 2, .int .u8 0, .int .u8 0, .int .u8 0, .int .u8 1, .int .u8 (ls[x.m].n : Int), .int .u8 2, .int .u8 0, .int .u8 0, .int .u8 0, .int .u8 1, .int .u8 (ls[x.m].n : Int), .int .u8 0, .int .u8 0, .int .u8 0, .int .u8 0, .int .u8 0, .int .u8 0, .int .i64 0, .int .i64 0, .int .i64 0, .int .u8 0, .bool false, .bool false, .slice q241 (bodyOf (pAt pts ls[x.m].n)).length d241] 105, .row (.slice (some ⟨gq, 0, none⟩) ls.length lc) 97 4 ls.length (ls.flatMap sdC), .row (.slice (some ⟨gv, 0, none⟩) 4 cv) 87 4 4 visC]) (Cs := []) mixed ?_
     refine VA.tk 1 rfl (Still.then (Still.then (Still.block (Still.then (Still.then (Still.block hS)))))) zB Cells.nil (Quiet.c (Q.fieldAddr fa105_0 rfl)) ?_
     refine VA.tk 2 rfl (Still.then (Still.then (Still.block (Still.then (Still.then (Still.block hS)))))) zB Cells.nil (Quiet.c (Q.fieldAddr fa103_11 rfl)) ?_
     refine VA.tk 3 rfl (Still.then (Still.then (Still.block (Still.then (Still.then (Still.block hS)))))) zB Cells.nil (Quiet.c (Q.loadA ty44 rfl zM zS)) ?_
     refine VA.tk 4 rfl (Still.then (Still.then (Still.block (Still.then (Still.then (Still.block hS)))))) zB Cells.nil (Quiet.c (Q.loadA ty111 rfl zM zS)) ?_
     refine VA.tk 5 rfl (Still.then (Still.then (Still.block (Still.then (Still.then (Still.block hS)))))) zB Cells.nil (Quiet.c (Q.move rfl)) ?_
     refine VA.tk 6 rfl (Still.then (Still.then (Still.block (Still.then (Still.then (Still.block hS)))))) zB Cells.nil (Quiet.c (Q.move rfl)) ?_
     refine VA.tk 7 rfl (Still.then (Still.then (Still.block (Still.then (Still.then (Still.block hS)))))) zB Cells.nil (Quiet.c (Q.indexAddr sl75 (j := k) rfl rfl rfl hk)) ?_
     refine VA.tk 8 rfl (Still.then (Still.then (Still.block (Still.then (Still.then (Still.block hS)))))) zB Cells.nil (Quiet.c (Q.fieldAddr fa87_0 rfl)) ?_
     refine VA.tk 9 rfl (Still.then (Still.then (Still.block (Still.then (Still.then (Still.block hS)))))) zB Cells.nil (Quiet.c (Q.loadRow (v := .int .i64 ((k : Int) + 1)) ty3 rfl zM (by rw [Nat.zero_add]; exact (vis_at k hk).1))) ?_
     refine VA.tk 10 rfl (Still.then (Still.then (Still.block (Still.then (Still.then (Still.block hS)))))) zB Cells.nil (Quiet.c (Q.move rfl)) ?_
     refine VA.tk 11 rfl (Still.then (Still.then (Still.block (Still.then (Still.then (Still.block hS)))))) zB Cells.nil (Quiet.c (Q.move rfl)) ?_
     refine VA.tk 12 rfl (Still.then (Still.then (Still.block (Still.then (Still.then (Still.block hS)))))) zB Cells.nil (Quiet.c (Q.move rfl)) ?_
     refine VA.tk 13 rfl (Still.then (Still.then (Still.block (Still.then (Still.then (Still.block hS)))))) zB Cells.nil (Quiet.c (Q.indexAddr sl88 (j := x.m) rfl rfl rfl hlt)) ?_
     refine VA.tk 14 rfl (Still.then (Still.then (Still.block (Still.then (Still.then (Still.block hS)))))) zB Cells.nil (Quiet.c (Q.fieldAddr fa97_2 rfl)) ?_
     refine VA.tk 15 rfl (Still.then (Still.then (Still.block (Still.then (Still.then (Still.block hS)))))) zB Cells.nil (Quiet.c (Q.loadRow (v := .int .i64 ls[x.m].e) ty3 rfl zM (by rw [Nat.zero_add]; exact fm_get sdC_len ls x.m hlt 2 _ rfl))) ?_
     refine VA.all (rs := [0]) (by kernel_rfl) (by simp) ?_
     refine VA.forall1 ?_
     ·
      refine VA.eff rfl ?_
      refine O.quiet (by decide) (Q.loadA ty83 rfl zM zS) ?_
      refine VA.next zB Cells.nil ?_
      refine VA.all (rs := [16]) (by kernel_rfl) (by simp) ?_
      refine VA.forall1 ?_
      ·
       refine VA.eff rfl ?_
       refine id (O.call0 ok27 rfl rfl (by decide) (learn_c x.p x.l.length x.c x.l rfl (by omega) hx.tab ls[x.m].n (by omega) (max 1 (pAt pts ls[x.m].n).iv) (by omega) dp dc dels (pAt pts ls[x.m].n).nm.data.toList (UInt8.ofNat (pAt pts ls[x.m].n).ld) (pAt pts ls[x.m].n).sec (says_of hmap) hsn ((k : Int) + 1) (lvAt power self pts sw ls[x.m].n) ls[x.m].e (by omega) (by omega) (by omega) (fun q hq e => hni (e ▸ (hx.cd q hq).1))) (fun _ _ hW => ⟨Rd.row hW zM, Rd.frz (H := RdE dp dels) hW zM⟩) ?_)
       rintro ⟨q273, d273, l2⟩ ⟨hok2, hmem2, hlen2⟩
       dsimp only at hok2 hmem2 hlen2
       dsimp only
       refine VA.next zB Cells.nil ?_
       refine VA.tk 17 rfl (Still.then (Still.then (Still.block (Still.then (Still.then (Still.block hS)))))) zB Cells.nil (Quiet.c (Q.move rfl)) ?_
       refine VA.tk 18 rfl (Still.then (Still.then (Still.block (Still.then (Still.then (Still.block hS)))))) zB Cells.nil (Quiet.c (Q.extract rfl rfl)) ?_
       refine VA.tk 19 rfl (Still.then (Still.then (Still.block (Still.then (Still.then (Still.block hS)))))) zB Cells.nil (Quiet.c (Q.extract rfl rfl)) ?_
       refine VA.all (rs := [20]) (by kernel_rfl) (by simp) ?_
       refine VA.forall1 ?_
       ·
        refine VA.eff rfl ?_
        refine id (O.store ty83 rfl rfl rfl rfl zU zP ?_)
        refine VA.next zB Cells.nil ?_
        refine VA.tk 21 rfl (Still.then (Still.then (Still.block (Still.then (Still.then (Still.block hS)))))) zB Cells.nil (Quiet.c (Q.assign rfl)) ?_
        refine VA.done (by kernel_rfl) ?_
        refine VE.seq ?_
        refine VC.seq ?_
        refine VC.region ?_
        refine VL.q (Q.move rfl) ?_
        refine VL.quietE (v' := .bool false) (by decide) (Q.ne rfl rfl) (by rfl) ?_
        refine VL.nil ?_
        refine VE.seq ?_
        refine VC.condF rfl ?_
        refine VC.skip ?_
        refine VE.seq ?_
        refine VC.seq ?_
        refine VC.region ?_
        refine VL.q (Q.move rfl) ?_
        refine VL.q (Q.move rfl) ?_
        refine VL.q (Q.move rfl) ?_
        refine VL.q (Q.indexAddr sl78 (j := ls[x.m].n) rfl rfl rfl (by omega)) ?_
        refine VL.eff (O.store (xs := intC (lvAt power self pts sw ls[x.m].n)) ty3 rfl rfl rfl rfl zU (by rw [Nat.zero_add]; exact fm_put intC_len x.lv ls[x.m].n (by rw [hx.len]; omega) (lvAt power self pts sw ls[x.m].n)) ?_)
        refine VL.nil ?_
        refine VE.seq ?_
        refine VC.seq ?_
        refine VC.region ?_
        refine VL.q (Q.move rfl) ?_
        refine VL.q (Q.move rfl) ?_
        refine VL.quietE (v' := .int .i64 ((ls[x.m].n - 1 : Nat) : Int)) (by decide) ((by first | exact Q.subI rfl rfl (by omega) (by omega) | exact Q.sub rfl rfl)) (congrArg (Value.int .i64) (by omega)) ?_
        refine VL.q (Q.indexAddr sl35 (j := (ls[x.m].n - 1)) rfl rfl rfl hpi) ?_
        refine VL.q (Q.load0A (xs := spC (pAt pts ls[x.m].n)) ty34 rfl (by rw [← hpe]; exact Rd.sg hrd (fm_seg spC_len pts (ls[x.m].n - 1) hpi)) (by simp)) ?_
        refine VL.eff (O.alloc zo34 (by decide) ?_)
        intro g41
        refine VL.eff (O.store ty34 rfl rfl rfl rfl zU zP ?_)
        refine VL.nil ?_
        refine VE.seq ?_
        refine VC.seq ?_
        refine VC.seq ?_
        refine VC.region ?_
        refine VL.q (Q.fieldAddr fa34_4 rfl) ?_
        refine VL.q (Q.load1 ty9 rfl zM rfl) ?_
        refine VL.q (Q.move rfl) ?_
        refine VL.q (Q.neStrB rfl rfl) ?_
        refine VL.q (Q.move rfl) ?_
        refine VK.case 291 rfl ?_ ?_
        ·
         intro h291
         refine VL.no (by simp) rfl rfl (.inl rfl) ?_
         refine VL.no (by simp) rfl rfl (.inl rfl) ?_
         refine VL.no (by simp) rfl rfl (.inl rfl) ?_
         refine VL.no (by simp) rfl rfl (.inl rfl) ?_
         refine VL.quietE (v' := .bool true) (by decide) (Q.pick_true rfl rfl) (by rfl) ?_
         refine VL.nil ?_
         refine VE.seq ?_
         refine VC.condT rfl ?_
         refine VC.exit ?_
         refine VE.then_exit ?_
         refine VE.block_here ?_
         refine VE.seq ?_
         refine VC.region ?_
         refine VL.q (Q.move rfl) ?_
         refine VL.q ((by first | exact Q.addI rfl rfl (by omega) (by omega) | exact Q.add rfl rfl)) ?_
         refine VL.q (Q.assign rfl) ?_
         refine VL.nil ?_
         refine VE.then_normal ?_
         refine VK.picks (Lin := [.blk g19 [.slice q273 l2.length d273] 83, .row (.slice q273 l2.length d273) 117 13 l2.length (l2.flatMap cdC), .blk gl ((x.lv.set ls[x.m].n (lvAt power self pts sw ls[x.m].n)).flatMap intC) 3, .blk g24 [.slice pr2 (tuneR (rsOf power self pts) 0 ((k : Int) + 1)).length cr2, .slice ps2 sh2.length cs2] 68, .frz idt (fun W => RdW W pr2 (tuneR (rsOf power self pts) 0 ((k : Int) + 1)) ps2 sh2), .frz idr (fun W => Rd W (some ⟨b9, o9, none⟩) (rows.flatMap rowC) ∧ RdRows rows W), .row (.slice (some ⟨gq, 0, none⟩) ls.length lc) 97 4 ls.length (ls.flatMap sdC), .row (.slice (some ⟨gt, 0, none⟩) ts.length tc) 23 1 ts.length (ts.flatMap brC), .frz idb (RdB ts), .blk g14 [.slice (some ⟨b0, o0, none⟩) (rsOf power self pts).length cr, .slice ps sh.length cs] 68, .blk g15 [.int .i64 24, .int .i64 (-820), .bool true] 71, .row (.slice (some ⟨gv, 0, none⟩) 4 cv) 87 4 4 visC, .frz idw (fun W => RdW W (some ⟨b0, o0, none⟩) (rsOf power self pts) ps sh)]) zM2 ?_
         refine VE.round (⟨x.m + 1, q273, d273, l2, (x.lv.set ls[x.m].n (lvAt power self pts sw ls[x.m].n)), x.best⟩ : Lb) ?_ ?_ ?_ (List.Sublist.refl _)
         ·
          refine ⟨hlt, ?_⟩
          have h9 := hx.learn (best' := x.best) ⟨el.1, el.2.1⟩ hLq hni hok2 hmem2 hlen2 rfl el.2.2.1.symm rfl (congrArg Nat.cast (u8_id _ hsp.ld)) (strOf_back _) rfl hend (.inl ⟨mt_f1 h291, rfl⟩)
          rw [got_next hlt] at h9
          exact h9
         ·
          show ls.length - (x.m + 1) < ls.length - x.m
          omega
         ·
          exact zE
        ·
         intro h291
         refine VL.yes rfl rfl ?_
         refine VL.q (Q.fieldAddr fa34_6 rfl) ?_
         refine VL.yes rfl rfl ?_
         refine VL.q (Q.load1 ty4 rfl zM rfl) ?_
         refine VL.yes rfl rfl ?_
         refine VL.q (Q.move rfl) ?_
         refine VL.yes rfl rfl ?_
         refine VL.q (Q.bne ub4 rfl rfl) ?_
         refine VL.q (Q.pick_false rfl rfl) ?_
         refine VL.nil ?_
         refine VE.seq ?_
         refine VC.cond rfl ?_ ?_
         ·
          intro h296
          refine VC.exit ?_
          refine VE.then_exit ?_
          refine VE.block_here ?_
          refine VE.seq ?_
          refine VC.region ?_
          refine VL.q (Q.move rfl) ?_
          refine VL.q ((by first | exact Q.addI rfl rfl (by omega) (by omega) | exact Q.add rfl rfl)) ?_
          refine VL.q (Q.assign rfl) ?_
          refine VL.nil ?_
          refine VE.then_normal ?_
          refine VK.picks (Lin := [.blk g19 [.slice q273 l2.length d273] 83, .row (.slice q273 l2.length d273) 117 13 l2.length (l2.flatMap cdC), .blk gl ((x.lv.set ls[x.m].n (lvAt power self pts sw ls[x.m].n)).flatMap intC) 3, .blk g24 [.slice pr2 (tuneR (rsOf power self pts) 0 ((k : Int) + 1)).length cr2, .slice ps2 sh2.length cs2] 68, .frz idt (fun W => RdW W pr2 (tuneR (rsOf power self pts) 0 ((k : Int) + 1)) ps2 sh2), .frz idr (fun W => Rd W (some ⟨b9, o9, none⟩) (rows.flatMap rowC) ∧ RdRows rows W), .row (.slice (some ⟨gq, 0, none⟩) ls.length lc) 97 4 ls.length (ls.flatMap sdC), .row (.slice (some ⟨gt, 0, none⟩) ts.length tc) 23 1 ts.length (ts.flatMap brC), .frz idb (RdB ts), .blk g14 [.slice (some ⟨b0, o0, none⟩) (rsOf power self pts).length cr, .slice ps sh.length cs] 68, .blk g15 [.int .i64 24, .int .i64 (-820), .bool true] 71, .row (.slice (some ⟨gv, 0, none⟩) 4 cv) 87 4 4 visC, .frz idw (fun W => RdW W (some ⟨b0, o0, none⟩) (rsOf power self pts) ps sh)]) zM2 ?_
          refine VE.round (⟨x.m + 1, q273, d273, l2, (x.lv.set ls[x.m].n (lvAt power self pts sw ls[x.m].n)), x.best⟩ : Lb) ?_ ?_ ?_ (List.Sublist.refl _)
          ·
           refine ⟨hlt, ?_⟩
           have h9 := hx.learn (best' := x.best) ⟨el.1, el.2.1⟩ hLq hni hok2 hmem2 hlen2 rfl el.2.2.1.symm rfl (congrArg Nat.cast (u8_id _ hsp.ld)) (strOf_back _) rfl hend (.inl ⟨mt_f2 h296, rfl⟩)
           rw [got_next hlt] at h9
           exact h9
          ·
           show ls.length - (x.m + 1) < ls.length - x.m
           omega
          ·
           exact zE
         ·
          intro h296
          refine VC.skip ?_
          refine VE.seq ?_
          refine VC.seq ?_
          refine VC.seq ?_
          refine VC.region ?_
          refine VL.q (Q.move rfl) ?_
          refine VL.q (Q.gt rfl rfl) ?_
          refine VL.nil ?_
          refine VE.seq ?_
          refine VC.cond rfl ?_ ?_
          ·
           intro h298
           have hb0 : x.best ≠ 0 := by have := of_decide_eq_true h298; omega
           obtain ⟨hb1, hb2, hb3, _⟩ := hx.b1 hb0
           obtain ⟨hb4, hb5⟩ := hx.pos _ hb1
           have hbne : ls[x.m].n ≠ x.best := by intro e; rw [e] at hni; exact hni hb1
           have hlb2 : ((x.lv.set ls[x.m].n (lvAt power self pts sw ls[x.m].n))[x.best]'(by rw [List.length_set, hx.len]; omega)) = lvAt power self pts sw x.best := by
            rw [List.getElem_set_ne hbne]
            have h1 := hx.lvs _ hb1 hb2
            rw [List.getElem?_eq_getElem (by rw [hx.len]; omega)] at h1
            exact Option.some.inj h1
           obtain ⟨hpb, hpbe⟩ := pAt_mem hb4 hb5
           have hsb : SpOk (pAt pts x.best) := hpbe ▸ hpts _ (List.getElem_mem hpb)
           have hlbb : -2000 ≤ lvAt power self pts sw x.best ∧ lvAt power self pts sw x.best ≤ 300 := by have := lev_bd hw (i := x.best) (j := 0) (by rw [rsOf_len]; omega) (by rw [rsOf_len]; omega); rw [hsd] at this; exact this
           have hld1 := hsb.ld
           have hld2 := hsp.ld
           refine VC.seq ?_
           refine VA.start (Ls := [.blk g41 [.int .i16 (pAt pts ls[x.m].n).x, .int .i16 (pAt pts ls[x.m].n).y, .int .u8 ((pAt pts ls[x.m].n).ch : Int), .int .u8 ((pAt pts ls[x.m].n).ld : Int), .string (pAt pts ls[x.m].n).nm, .int .u16 ((pAt pts ls[x.m].n).iv : Int), .bool (pAt pts ls[x.m].n).sec] 34, .blk gl ((x.lv.set ls[x.m].n (lvAt power self pts sw ls[x.m].n)).flatMap intC) 3]) (Cs := []) mixed ?_
           refine VA.tk 0 rfl (Still.then (Still.then (Still.block (Still.then (Still.then (Still.block hS)))))) zB Cells.nil (Quiet.c (Q.move rfl)) ?_
           refine VA.tk 1 rfl (Still.then (Still.then (Still.block (Still.then (Still.then (Still.block hS)))))) zB Cells.nil (Quiet.c (Q.move rfl)) ?_
           refine VA.tk 2 rfl (Still.then (Still.then (Still.block (Still.then (Still.then (Still.block hS)))))) zB Cells.nil (Quiet.c (Q.indexAddr sl78 (j := x.best) rfl rfl rfl (by omega))) ?_
           refine VA.tk 3 rfl (Still.then (Still.then (Still.block (Still.then (Still.then (Still.block hS)))))) zB Cells.nil (Quiet.c (Q.load1 (v := .int .i64 (lvAt power self pts sw x.best)) ty3 rfl zM (by rw [Nat.zero_add]; exact fm_at intC_len _ x.best (by rw [List.length_set, hx.len]; omega) _ (by rw [hlb2]; rfl)))) ?_
           refine VA.tk 4 rfl (Still.then (Still.then (Still.block (Still.then (Still.then (Still.block hS)))))) zB Cells.nil (Quiet.c (Q.move rfl)) ?_
           refine VA.tk 5 rfl (Still.then (Still.then (Still.block (Still.then (Still.then (Still.block hS)))))) zB Cells.nil (Quiet.c (Q.move rfl)) ?_
           refine VA.tk 6 rfl (Still.then (Still.then (Still.block (Still.then (Still.then (Still.block hS)))))) zB Cells.nil (Quiet.c (Quiet.to (v' := .int .i64 ((x.best - 1 : Nat) : Int)) ((by first | exact Q.subI rfl rfl (by omega) (by omega) | exact Q.sub rfl rfl)) (congrArg (Value.int .i64) (by omega)))) ?_
           refine VA.tk 7 rfl (Still.then (Still.then (Still.block (Still.then (Still.then (Still.block hS)))))) zB Cells.nil (Quiet.c (Q.indexAddr sl35 (j := (x.best - 1)) rfl rfl rfl hpb)) ?_
           refine VA.tk 8 rfl (Still.then (Still.then (Still.block (Still.then (Still.then (Still.block hS)))))) zB Cells.nil (Quiet.c (Q.fieldAddr fa34_3 rfl)) ?_
           refine VA.tk 9 rfl (Still.then (Still.then (Still.block (Still.then (Still.then (Still.block hS)))))) zB Cells.nil (Quiet.c (Q.load0 (v := .int .u8 ((pAt pts x.best).ld : Int)) ty5 rfl (Rd.cell hrd (fm_get spC_len pts (x.best - 1) hpb 3 _ (by rw [hpbe]; rfl))) (by simp))) ?_
           refine VA.tk 10 rfl (Still.then (Still.then (Still.block (Still.then (Still.then (Still.block hS)))))) zB Cells.nil (Quiet.c ((by first | exact Q.convF ti5 ti3 rfl (by simp only [klo]; omega) (by simp only [khi]; omega) | exact Q.convM (M := 0) ti5 ti3 rfl rfl rfl | exact Q.conv ti5 ti3 rfl))) ?_
           refine VA.tk 11 rfl (Still.then (Still.then (Still.block (Still.then (Still.then (Still.block hS)))))) zB Cells.nil (Quiet.c ((by first | exact Q.subI rfl rfl (by omega) (by omega) | exact Q.sub rfl rfl))) ?_
           refine VA.tk 12 rfl (Still.then (Still.then (Still.block (Still.then (Still.then (Still.block hS)))))) zB Cells.nil (Quiet.c (Q.move rfl)) ?_
           refine VA.tk 13 rfl (Still.then (Still.then (Still.block (Still.then (Still.then (Still.block hS)))))) zB Cells.nil (Quiet.c (Q.fieldAddr fa34_3 rfl)) ?_
           refine VA.tk 14 rfl (Still.then (Still.then (Still.block (Still.then (Still.then (Still.block hS)))))) zB Cells.nil (Quiet.c (Q.load1 ty5 rfl zM rfl)) ?_
           refine VA.tk 15 rfl (Still.then (Still.then (Still.block (Still.then (Still.then (Still.block hS)))))) zB Cells.nil (Quiet.c ((by first | exact Q.convF ti5 ti3 rfl (by simp only [klo]; omega) (by simp only [khi]; omega) | exact Q.convM (M := 0) ti5 ti3 rfl rfl rfl | exact Q.conv ti5 ti3 rfl))) ?_
           refine VA.tk 16 rfl (Still.then (Still.then (Still.block (Still.then (Still.then (Still.block hS)))))) zB Cells.nil (Quiet.c ((by first | exact Q.subI rfl rfl (by omega) (by omega) | exact Q.sub rfl rfl))) ?_
           refine VA.tk 17 rfl (Still.then (Still.then (Still.block (Still.then (Still.then (Still.block hS)))))) zB Cells.nil (Quiet.c (Q.assign rfl)) ?_
           refine VA.tk 18 rfl (Still.then (Still.then (Still.block (Still.then (Still.then (Still.block hS)))))) zB Cells.nil (Quiet.c (Q.assign rfl)) ?_
           refine VA.done (by kernel_rfl) ?_
           refine VE.seq ?_
           refine VC.seq ?_
           refine VC.region ?_
           refine VL.q (Q.move rfl) ?_
           refine VL.q (Q.move rfl) ?_
           refine VL.q (Q.lt rfl rfl) ?_
           refine VL.q (Q.move rfl) ?_
           refine VK.case 319 rfl ?_ ?_
           ·
            intro h319
            refine VL.no (by simp) rfl rfl (.inl rfl) ?_
            refine VL.no (by simp) rfl rfl (.inl rfl) ?_
            refine VL.no (by simp) rfl rfl (.inl rfl) ?_
            refine VL.no (by simp) rfl rfl (.inl rfl) ?_
            refine VL.no (by simp) rfl rfl (.inr rfl) ?_
            refine VL.no (by simp) rfl rfl (.inr rfl) ?_
            refine VL.no (by simp) rfl rfl (.inr rfl) ?_
            refine VL.no (by simp) rfl rfl (.inr rfl) ?_
            refine VL.no (by simp) rfl rfl (.inr rfl) ?_
            refine VL.no (by simp) rfl rfl (.inr rfl) ?_
            refine VL.no (by simp) rfl rfl (.inr rfl) ?_
            refine VL.no (by simp) rfl rfl (.inr rfl) ?_
            refine VL.no (by simp) rfl rfl (.inr rfl) ?_
            refine VL.no (by simp) rfl rfl (.inr rfl) ?_
            refine VL.no (by simp) rfl rfl (.inr rfl) ?_
            refine VL.no (by simp) rfl rfl (.inr rfl) ?_
            refine VL.no (by simp) rfl rfl (.inr rfl) ?_
            refine VL.no (by simp) rfl rfl (.inr rfl) ?_
            refine VL.no (by simp) rfl rfl (.inr rfl) ?_
            refine VL.no (by simp) rfl rfl (.inr rfl) ?_
            refine VL.no (by simp) rfl rfl (.inr rfl) ?_
            refine VL.no (by simp) rfl rfl (.inr rfl) ?_
            refine VL.no (by simp) rfl rfl (.inr rfl) ?_
            refine VL.no (by simp) rfl rfl (.inl rfl) ?_
            refine VL.quietE (v' := .bool true) (by decide) (Q.pick_true rfl rfl) (by rfl) ?_
            refine VL.nil ?_
            refine VE.seq ?_
            refine VC.condT rfl ?_
            refine VC.exit ?_
            refine VE.then_exit ?_
            refine VE.block_here ?_
            refine VE.seq ?_
            refine VC.region ?_
            refine VL.q (Q.move rfl) ?_
            refine VL.q ((by first | exact Q.addI rfl rfl (by omega) (by omega) | exact Q.add rfl rfl)) ?_
            refine VL.q (Q.assign rfl) ?_
            refine VL.nil ?_
            refine VE.then_normal ?_
            have q319 := of_decide_eq_true h319
            refine VK.picks (Lin := [.blk g19 [.slice q273 l2.length d273] 83, .row (.slice q273 l2.length d273) 117 13 l2.length (l2.flatMap cdC), .blk gl ((x.lv.set ls[x.m].n (lvAt power self pts sw ls[x.m].n)).flatMap intC) 3, .blk g24 [.slice pr2 (tuneR (rsOf power self pts) 0 ((k : Int) + 1)).length cr2, .slice ps2 sh2.length cs2] 68, .frz idt (fun W => RdW W pr2 (tuneR (rsOf power self pts) 0 ((k : Int) + 1)) ps2 sh2), .frz idr (fun W => Rd W (some ⟨b9, o9, none⟩) (rows.flatMap rowC) ∧ RdRows rows W), .row (.slice (some ⟨gq, 0, none⟩) ls.length lc) 97 4 ls.length (ls.flatMap sdC), .row (.slice (some ⟨gt, 0, none⟩) ts.length tc) 23 1 ts.length (ts.flatMap brC), .frz idb (RdB ts), .blk g14 [.slice (some ⟨b0, o0, none⟩) (rsOf power self pts).length cr, .slice ps sh.length cs] 68, .blk g15 [.int .i64 24, .int .i64 (-820), .bool true] 71, .row (.slice (some ⟨gv, 0, none⟩) 4 cv) 87 4 4 visC, .frz idw (fun W => RdW W (some ⟨b0, o0, none⟩) (rsOf power self pts) ps sh)]) zM2 ?_
            refine VE.round (⟨x.m + 1, q273, d273, l2, (x.lv.set ls[x.m].n (lvAt power self pts sw ls[x.m].n)), x.best⟩ : Lb) ?_ ?_ ?_ (List.Sublist.refl _)
            ·
             refine ⟨hlt, ?_⟩
             have h9 := hx.learn (best' := x.best) ⟨el.1, el.2.1⟩ hLq hni hok2 hmem2 hlen2 rfl el.2.2.1.symm rfl (congrArg Nat.cast (u8_id _ hsp.ld)) (strOf_back _) rfl hend (.inr ⟨mt_t h291 h296, .inr (.inl ⟨by omega, by unfold bt val; omega, rfl⟩)⟩)
             rw [got_next hlt] at h9
             exact h9
            ·
             show ls.length - (x.m + 1) < ls.length - x.m
             omega
            ·
             exact zE
           ·
            intro h319
            refine VL.yes rfl rfl ?_
            refine VL.q (Q.move rfl) ?_
            refine VL.yes rfl rfl ?_
            refine VL.q (Q.move rfl) ?_
            refine VL.yes rfl rfl ?_
            refine VL.q (Q.eq rfl rfl) ?_
            refine VL.yes rfl rfl ?_
            refine VL.q (Q.move rfl) ?_
            refine VK.case 323 rfl ?_ ?_
            ·
             intro h323
             refine VL.yes rfl rfl ?_
             refine VL.q (Q.move rfl) ?_
             refine VL.yes rfl rfl ?_
             refine VL.q (Q.move rfl) ?_
             refine VL.yes rfl rfl ?_
             refine VL.q (Q.move rfl) ?_
             refine VL.yes rfl rfl ?_
             refine VL.q (Q.indexAddr sl78 (j := x.best) rfl rfl rfl (by omega)) ?_
             refine VL.yes rfl rfl ?_
             refine VL.q (Q.load1 (v := .int .i64 (lvAt power self pts sw x.best)) ty3 rfl zM (by rw [Nat.zero_add]; exact fm_at intC_len _ x.best (by rw [List.length_set, hx.len]; omega) _ (by rw [hlb2]; rfl))) ?_
             refine VL.yes rfl rfl ?_
             refine VL.q (Q.lt rfl rfl) ?_
             refine VL.yes rfl rfl ?_
             refine VL.q (Q.move rfl) ?_
             refine VK.case 330 rfl ?_ ?_
             ·
              intro h330
              refine VL.no (by simp) rfl rfl (.inl rfl) ?_
              refine VL.no (by simp) rfl rfl (.inl rfl) ?_
              refine VL.no (by simp) rfl rfl (.inl rfl) ?_
              refine VL.no (by simp) rfl rfl (.inl rfl) ?_
              refine VL.no (by simp) rfl rfl (.inl rfl) ?_
              refine VL.no (by simp) rfl rfl (.inl rfl) ?_
              refine VL.no (by simp) rfl rfl (.inl rfl) ?_
              refine VL.no (by simp) rfl rfl (.inr rfl) ?_
              refine VL.no (by simp) rfl rfl (.inr rfl) ?_
              refine VL.no (by simp) rfl rfl (.inr rfl) ?_
              refine VL.no (by simp) rfl rfl (.inl rfl) ?_
              refine VL.yes rfl rfl ?_
              refine VL.quietE (v' := .bool true) (by decide) (Q.pick_true rfl rfl) (by rfl) ?_
              refine VL.yes rfl rfl ?_
              refine VL.quietE (v' := .bool true) (by decide) (Q.pick_true rfl rfl) (by rfl) ?_
              refine VL.quietE (v' := .bool true) (by decide) (Q.pick_false rfl rfl) (by rfl) ?_
              refine VL.nil ?_
              refine VE.seq ?_
              refine VC.condT rfl ?_
              refine VC.exit ?_
              refine VE.then_exit ?_
              refine VE.block_here ?_
              refine VE.seq ?_
              refine VC.region ?_
              refine VL.q (Q.move rfl) ?_
              refine VL.q ((by first | exact Q.addI rfl rfl (by omega) (by omega) | exact Q.add rfl rfl)) ?_
              refine VL.q (Q.assign rfl) ?_
              refine VL.nil ?_
              refine VE.then_normal ?_
              have q319 := of_decide_eq_false h319
              have q330 := of_decide_eq_true h330
              have q323 := eq_of_beq h323
              refine VK.picks (Lin := [.blk g19 [.slice q273 l2.length d273] 83, .row (.slice q273 l2.length d273) 117 13 l2.length (l2.flatMap cdC), .blk gl ((x.lv.set ls[x.m].n (lvAt power self pts sw ls[x.m].n)).flatMap intC) 3, .blk g24 [.slice pr2 (tuneR (rsOf power self pts) 0 ((k : Int) + 1)).length cr2, .slice ps2 sh2.length cs2] 68, .frz idt (fun W => RdW W pr2 (tuneR (rsOf power self pts) 0 ((k : Int) + 1)) ps2 sh2), .frz idr (fun W => Rd W (some ⟨b9, o9, none⟩) (rows.flatMap rowC) ∧ RdRows rows W), .row (.slice (some ⟨gq, 0, none⟩) ls.length lc) 97 4 ls.length (ls.flatMap sdC), .row (.slice (some ⟨gt, 0, none⟩) ts.length tc) 23 1 ts.length (ts.flatMap brC), .frz idb (RdB ts), .blk g14 [.slice (some ⟨b0, o0, none⟩) (rsOf power self pts).length cr, .slice ps sh.length cs] 68, .blk g15 [.int .i64 24, .int .i64 (-820), .bool true] 71, .row (.slice (some ⟨gv, 0, none⟩) 4 cv) 87 4 4 visC, .frz idw (fun W => RdW W (some ⟨b0, o0, none⟩) (rsOf power self pts) ps sh)]) zM2 ?_
              refine VE.round (⟨x.m + 1, q273, d273, l2, (x.lv.set ls[x.m].n (lvAt power self pts sw ls[x.m].n)), x.best⟩ : Lb) ?_ ?_ ?_ (List.Sublist.refl _)
              ·
               refine ⟨hlt, ?_⟩
               have h9 := hx.learn (best' := x.best) ⟨el.1, el.2.1⟩ hLq hni hok2 hmem2 hlen2 rfl el.2.2.1.symm rfl (congrArg Nat.cast (u8_id _ hsp.ld)) (strOf_back _) rfl hend (.inr ⟨mt_t h291 h296, .inr (.inl ⟨by omega, by unfold bt val; omega, rfl⟩)⟩)
               rw [got_next hlt] at h9
               exact h9
              ·
               show ls.length - (x.m + 1) < ls.length - x.m
               omega
              ·
               exact zE
             ·
              intro h330
              refine VL.yes rfl rfl ?_
              refine VL.q (Q.move rfl) ?_
              refine VL.yes rfl rfl ?_
              refine VL.q (Q.move rfl) ?_
              refine VL.yes rfl rfl ?_
              refine VL.q (Q.move rfl) ?_
              refine VL.yes rfl rfl ?_
              refine VL.q (Q.indexAddr sl78 (j := x.best) rfl rfl rfl (by omega)) ?_
              refine VL.yes rfl rfl ?_
              refine VL.q (Q.load1 (v := .int .i64 (lvAt power self pts sw x.best)) ty3 rfl zM (by rw [Nat.zero_add]; exact fm_at intC_len _ x.best (by rw [List.length_set, hx.len]; omega) _ (by rw [hlb2]; rfl))) ?_
              refine VL.yes rfl rfl ?_
              refine VL.q (Q.eq rfl rfl) ?_
              refine VL.yes rfl rfl ?_
              refine VL.q (Q.move rfl) ?_
              refine VK.case 337 rfl ?_ ?_
              ·
               intro h337
               refine VL.yes rfl rfl ?_
               refine VL.q (Q.move rfl) ?_
               refine VL.yes rfl rfl ?_
               refine VL.q (Q.move rfl) ?_
               refine VL.yes rfl rfl ?_
               refine VL.q (Q.gt rfl rfl) ?_
               refine VL.yes rfl rfl ?_
               refine VL.q (Q.pick_true rfl rfl) ?_
               refine VL.yes rfl rfl ?_
               refine VL.q (Q.pick_false rfl rfl) ?_
               refine VL.yes rfl rfl ?_
               refine VL.q (Q.pick_true rfl rfl) ?_
               refine VL.q (Q.pick_false rfl rfl) ?_
               refine VL.nil ?_
               refine VE.seq ?_
               refine VC.cond rfl ?_ ?_
               ·
                intro h344
                refine VC.exit ?_
                refine VE.then_exit ?_
                refine VE.block_here ?_
                refine VE.seq ?_
                refine VC.region ?_
                refine VL.q (Q.move rfl) ?_
                refine VL.q ((by first | exact Q.addI rfl rfl (by omega) (by omega) | exact Q.add rfl rfl)) ?_
                refine VL.q (Q.assign rfl) ?_
                refine VL.nil ?_
                refine VE.then_normal ?_
                have q319 := of_decide_eq_false h319
                have q330 := of_decide_eq_false h330
                have q323 := eq_of_beq h323
                have q337 := eq_of_beq h337
                have q344 := of_decide_eq_true h344
                refine VK.picks (Lin := [.blk g19 [.slice q273 l2.length d273] 83, .row (.slice q273 l2.length d273) 117 13 l2.length (l2.flatMap cdC), .blk gl ((x.lv.set ls[x.m].n (lvAt power self pts sw ls[x.m].n)).flatMap intC) 3, .blk g24 [.slice pr2 (tuneR (rsOf power self pts) 0 ((k : Int) + 1)).length cr2, .slice ps2 sh2.length cs2] 68, .frz idt (fun W => RdW W pr2 (tuneR (rsOf power self pts) 0 ((k : Int) + 1)) ps2 sh2), .frz idr (fun W => Rd W (some ⟨b9, o9, none⟩) (rows.flatMap rowC) ∧ RdRows rows W), .row (.slice (some ⟨gq, 0, none⟩) ls.length lc) 97 4 ls.length (ls.flatMap sdC), .row (.slice (some ⟨gt, 0, none⟩) ts.length tc) 23 1 ts.length (ts.flatMap brC), .frz idb (RdB ts), .blk g14 [.slice (some ⟨b0, o0, none⟩) (rsOf power self pts).length cr, .slice ps sh.length cs] 68, .blk g15 [.int .i64 24, .int .i64 (-820), .bool true] 71, .row (.slice (some ⟨gv, 0, none⟩) 4 cv) 87 4 4 visC, .frz idw (fun W => RdW W (some ⟨b0, o0, none⟩) (rsOf power self pts) ps sh)]) zM2 ?_
                refine VE.round (⟨x.m + 1, q273, d273, l2, (x.lv.set ls[x.m].n (lvAt power self pts sw ls[x.m].n)), x.best⟩ : Lb) ?_ ?_ ?_ (List.Sublist.refl _)
                ·
                 refine ⟨hlt, ?_⟩
                 have h9 := hx.learn (best' := x.best) ⟨el.1, el.2.1⟩ hLq hni hok2 hmem2 hlen2 rfl el.2.2.1.symm rfl (congrArg Nat.cast (u8_id _ hsp.ld)) (strOf_back _) rfl hend (.inr ⟨mt_t h291 h296, .inr (.inl ⟨by omega, by unfold bt val; omega, rfl⟩)⟩)
                 rw [got_next hlt] at h9
                 exact h9
                ·
                 show ls.length - (x.m + 1) < ls.length - x.m
                 omega
                ·
                 exact zE
               ·
                intro h344
                refine VC.skip ?_
                refine VE.seq ?_
                refine VC.region ?_
                refine VL.q (Q.move rfl) ?_
                refine VL.q (Q.assign rfl) ?_
                refine VL.nil ?_
                refine VE.block_normal ?_
                refine VE.seq ?_
                refine VC.region ?_
                refine VL.q (Q.move rfl) ?_
                refine VL.q ((by first | exact Q.addI rfl rfl (by omega) (by omega) | exact Q.add rfl rfl)) ?_
                refine VL.q (Q.assign rfl) ?_
                refine VL.nil ?_
                refine VE.then_normal ?_
                have q319 := of_decide_eq_false h319
                have q330 := of_decide_eq_false h330
                have q323 := eq_of_beq h323
                have q337 := eq_of_beq h337
                have q344 := of_decide_eq_false h344
                refine VK.picks (Lin := [.blk g19 [.slice q273 l2.length d273] 83, .row (.slice q273 l2.length d273) 117 13 l2.length (l2.flatMap cdC), .blk gl ((x.lv.set ls[x.m].n (lvAt power self pts sw ls[x.m].n)).flatMap intC) 3, .blk g24 [.slice pr2 (tuneR (rsOf power self pts) 0 ((k : Int) + 1)).length cr2, .slice ps2 sh2.length cs2] 68, .frz idt (fun W => RdW W pr2 (tuneR (rsOf power self pts) 0 ((k : Int) + 1)) ps2 sh2), .frz idr (fun W => Rd W (some ⟨b9, o9, none⟩) (rows.flatMap rowC) ∧ RdRows rows W), .row (.slice (some ⟨gq, 0, none⟩) ls.length lc) 97 4 ls.length (ls.flatMap sdC), .row (.slice (some ⟨gt, 0, none⟩) ts.length tc) 23 1 ts.length (ts.flatMap brC), .frz idb (RdB ts), .blk g14 [.slice (some ⟨b0, o0, none⟩) (rsOf power self pts).length cr, .slice ps sh.length cs] 68, .blk g15 [.int .i64 24, .int .i64 (-820), .bool true] 71, .row (.slice (some ⟨gv, 0, none⟩) 4 cv) 87 4 4 visC, .frz idw (fun W => RdW W (some ⟨b0, o0, none⟩) (rsOf power self pts) ps sh)]) zM2 ?_
                refine VE.round (⟨x.m + 1, q273, d273, l2, (x.lv.set ls[x.m].n (lvAt power self pts sw ls[x.m].n)), ls[x.m].n⟩ : Lb) ?_ ?_ ?_ (List.Sublist.refl _)
                ·
                 refine ⟨hlt, ?_⟩
                 have h9 := hx.learn (best' := ls[x.m].n) ⟨el.1, el.2.1⟩ hLq hni hok2 hmem2 hlen2 rfl el.2.2.1.symm rfl (congrArg Nat.cast (u8_id _ hsp.ld)) (strOf_back _) rfl hend (.inr ⟨mt_t h291 h296, .inr (.inr ⟨by omega, by unfold bt val; omega, rfl⟩)⟩)
                 rw [got_next hlt] at h9
                 exact h9
                ·
                 show ls.length - (x.m + 1) < ls.length - x.m
                 omega
                ·
                 exact zE
              ·
               intro h337
               refine VL.no (by simp) rfl rfl (.inl rfl) ?_
               refine VL.no (by simp) rfl rfl (.inl rfl) ?_
               refine VL.no (by simp) rfl rfl (.inl rfl) ?_
               refine VL.yes rfl rfl ?_
               refine VL.quietE (v' := .bool false) (by decide) (Q.pick_false rfl rfl) (by rfl) ?_
               refine VL.yes rfl rfl ?_
               refine VL.quietE (v' := .bool false) (by decide) (Q.pick_false rfl rfl) (by rfl) ?_
               refine VL.yes rfl rfl ?_
               refine VL.quietE (v' := .bool false) (by decide) (Q.pick_true rfl rfl) (by rfl) ?_
               refine VL.quietE (v' := .bool false) (by decide) (Q.pick_false rfl rfl) (by rfl) ?_
               refine VL.nil ?_
               refine VE.seq ?_
               refine VC.condF rfl ?_
               refine VC.skip ?_
               refine VE.seq ?_
               refine VC.region ?_
               refine VL.q (Q.move rfl) ?_
               refine VL.q (Q.assign rfl) ?_
               refine VL.nil ?_
               refine VE.block_normal ?_
               refine VE.seq ?_
               refine VC.region ?_
               refine VL.q (Q.move rfl) ?_
               refine VL.q ((by first | exact Q.addI rfl rfl (by omega) (by omega) | exact Q.add rfl rfl)) ?_
               refine VL.q (Q.assign rfl) ?_
               refine VL.nil ?_
               refine VE.then_normal ?_
               have q319 := of_decide_eq_false h319
               have q330 := of_decide_eq_false h330
               have q323 := eq_of_beq h323
               have q337 : ¬ _ = _ := fun e => by rw [beq_iff_eq.2 e] at h337; cases h337
               refine VK.picks (Lin := [.blk g19 [.slice q273 l2.length d273] 83, .row (.slice q273 l2.length d273) 117 13 l2.length (l2.flatMap cdC), .blk gl ((x.lv.set ls[x.m].n (lvAt power self pts sw ls[x.m].n)).flatMap intC) 3, .blk g24 [.slice pr2 (tuneR (rsOf power self pts) 0 ((k : Int) + 1)).length cr2, .slice ps2 sh2.length cs2] 68, .frz idt (fun W => RdW W pr2 (tuneR (rsOf power self pts) 0 ((k : Int) + 1)) ps2 sh2), .frz idr (fun W => Rd W (some ⟨b9, o9, none⟩) (rows.flatMap rowC) ∧ RdRows rows W), .row (.slice (some ⟨gq, 0, none⟩) ls.length lc) 97 4 ls.length (ls.flatMap sdC), .row (.slice (some ⟨gt, 0, none⟩) ts.length tc) 23 1 ts.length (ts.flatMap brC), .frz idb (RdB ts), .blk g14 [.slice (some ⟨b0, o0, none⟩) (rsOf power self pts).length cr, .slice ps sh.length cs] 68, .blk g15 [.int .i64 24, .int .i64 (-820), .bool true] 71, .row (.slice (some ⟨gv, 0, none⟩) 4 cv) 87 4 4 visC, .frz idw (fun W => RdW W (some ⟨b0, o0, none⟩) (rsOf power self pts) ps sh)]) zM2 ?_
               refine VE.round (⟨x.m + 1, q273, d273, l2, (x.lv.set ls[x.m].n (lvAt power self pts sw ls[x.m].n)), ls[x.m].n⟩ : Lb) ?_ ?_ ?_ (List.Sublist.refl _)
               ·
                refine ⟨hlt, ?_⟩
                have h9 := hx.learn (best' := ls[x.m].n) ⟨el.1, el.2.1⟩ hLq hni hok2 hmem2 hlen2 rfl el.2.2.1.symm rfl (congrArg Nat.cast (u8_id _ hsp.ld)) (strOf_back _) rfl hend (.inr ⟨mt_t h291 h296, .inr (.inr ⟨by omega, by unfold bt val; omega, rfl⟩)⟩)
                rw [got_next hlt] at h9
                exact h9
               ·
                show ls.length - (x.m + 1) < ls.length - x.m
                omega
               ·
                exact zE
            ·
             intro h323
             refine VL.no (by simp) rfl rfl (.inl rfl) ?_
             refine VL.no (by simp) rfl rfl (.inl rfl) ?_
             refine VL.no (by simp) rfl rfl (.inl rfl) ?_
             refine VL.no (by simp) rfl rfl (.inl rfl) ?_
             refine VL.no (by simp) rfl rfl (.inl rfl) ?_
             refine VL.no (by simp) rfl rfl (.inl rfl) ?_
             refine VL.no (by simp) rfl rfl (.inl rfl) ?_
             refine VL.no (by simp) rfl rfl (.inr rfl) ?_
             refine VL.no (by simp) rfl rfl (.inr rfl) ?_
             refine VL.no (by simp) rfl rfl (.inr rfl) ?_
             refine VL.no (by simp) rfl rfl (.inr rfl) ?_
             refine VL.no (by simp) rfl rfl (.inr rfl) ?_
             refine VL.no (by simp) rfl rfl (.inr rfl) ?_
             refine VL.no (by simp) rfl rfl (.inr rfl) ?_
             refine VL.no (by simp) rfl rfl (.inr rfl) ?_
             refine VL.no (by simp) rfl rfl (.inr rfl) ?_
             refine VL.no (by simp) rfl rfl (.inr rfl) ?_
             refine VL.no (by simp) rfl rfl (.inr rfl) ?_
             refine VL.no (by simp) rfl rfl (.inl rfl) ?_
             refine VL.yes rfl rfl ?_
             refine VL.quietE (v' := .bool false) (by decide) (Q.pick_false rfl rfl) (by rfl) ?_
             refine VL.quietE (v' := .bool false) (by decide) (Q.pick_false rfl rfl) (by rfl) ?_
             refine VL.nil ?_
             refine VE.seq ?_
             refine VC.condF rfl ?_
             refine VC.skip ?_
             refine VE.seq ?_
             refine VC.region ?_
             refine VL.q (Q.move rfl) ?_
             refine VL.q (Q.assign rfl) ?_
             refine VL.nil ?_
             refine VE.block_normal ?_
             refine VE.seq ?_
             refine VC.region ?_
             refine VL.q (Q.move rfl) ?_
             refine VL.q ((by first | exact Q.addI rfl rfl (by omega) (by omega) | exact Q.add rfl rfl)) ?_
             refine VL.q (Q.assign rfl) ?_
             refine VL.nil ?_
             refine VE.then_normal ?_
             have q319 := of_decide_eq_false h319
             have q323 : ¬ _ = _ := fun e => by rw [beq_iff_eq.2 e] at h323; cases h323
             refine VK.picks (Lin := [.blk g19 [.slice q273 l2.length d273] 83, .row (.slice q273 l2.length d273) 117 13 l2.length (l2.flatMap cdC), .blk gl ((x.lv.set ls[x.m].n (lvAt power self pts sw ls[x.m].n)).flatMap intC) 3, .blk g24 [.slice pr2 (tuneR (rsOf power self pts) 0 ((k : Int) + 1)).length cr2, .slice ps2 sh2.length cs2] 68, .frz idt (fun W => RdW W pr2 (tuneR (rsOf power self pts) 0 ((k : Int) + 1)) ps2 sh2), .frz idr (fun W => Rd W (some ⟨b9, o9, none⟩) (rows.flatMap rowC) ∧ RdRows rows W), .row (.slice (some ⟨gq, 0, none⟩) ls.length lc) 97 4 ls.length (ls.flatMap sdC), .row (.slice (some ⟨gt, 0, none⟩) ts.length tc) 23 1 ts.length (ts.flatMap brC), .frz idb (RdB ts), .blk g14 [.slice (some ⟨b0, o0, none⟩) (rsOf power self pts).length cr, .slice ps sh.length cs] 68, .blk g15 [.int .i64 24, .int .i64 (-820), .bool true] 71, .row (.slice (some ⟨gv, 0, none⟩) 4 cv) 87 4 4 visC, .frz idw (fun W => RdW W (some ⟨b0, o0, none⟩) (rsOf power self pts) ps sh)]) zM2 ?_
             refine VE.round (⟨x.m + 1, q273, d273, l2, (x.lv.set ls[x.m].n (lvAt power self pts sw ls[x.m].n)), ls[x.m].n⟩ : Lb) ?_ ?_ ?_ (List.Sublist.refl _)
             ·
              refine ⟨hlt, ?_⟩
              have h9 := hx.learn (best' := ls[x.m].n) ⟨el.1, el.2.1⟩ hLq hni hok2 hmem2 hlen2 rfl el.2.2.1.symm rfl (congrArg Nat.cast (u8_id _ hsp.ld)) (strOf_back _) rfl hend (.inr ⟨mt_t h291 h296, .inr (.inr ⟨by omega, by unfold bt val; omega, rfl⟩)⟩)
              rw [got_next hlt] at h9
              exact h9
             ·
              show ls.length - (x.m + 1) < ls.length - x.m
              omega
             ·
              exact zE
          ·
           intro h298
           refine VC.skip ?_
           refine VE.seq ?_
           refine VC.region ?_
           refine VL.q (Q.move rfl) ?_
           refine VL.q (Q.assign rfl) ?_
           refine VL.nil ?_
           refine VE.block_normal ?_
           refine VE.seq ?_
           refine VC.region ?_
           refine VL.q (Q.move rfl) ?_
           refine VL.q ((by first | exact Q.addI rfl rfl (by omega) (by omega) | exact Q.add rfl rfl)) ?_
           refine VL.q (Q.assign rfl) ?_
           refine VL.nil ?_
           refine VE.then_normal ?_
           refine VK.picks (Lin := [.blk g19 [.slice q273 l2.length d273] 83, .row (.slice q273 l2.length d273) 117 13 l2.length (l2.flatMap cdC), .blk gl ((x.lv.set ls[x.m].n (lvAt power self pts sw ls[x.m].n)).flatMap intC) 3, .blk g24 [.slice pr2 (tuneR (rsOf power self pts) 0 ((k : Int) + 1)).length cr2, .slice ps2 sh2.length cs2] 68, .frz idt (fun W => RdW W pr2 (tuneR (rsOf power self pts) 0 ((k : Int) + 1)) ps2 sh2), .frz idr (fun W => Rd W (some ⟨b9, o9, none⟩) (rows.flatMap rowC) ∧ RdRows rows W), .row (.slice (some ⟨gq, 0, none⟩) ls.length lc) 97 4 ls.length (ls.flatMap sdC), .row (.slice (some ⟨gt, 0, none⟩) ts.length tc) 23 1 ts.length (ts.flatMap brC), .frz idb (RdB ts), .blk g14 [.slice (some ⟨b0, o0, none⟩) (rsOf power self pts).length cr, .slice ps sh.length cs] 68, .blk g15 [.int .i64 24, .int .i64 (-820), .bool true] 71, .row (.slice (some ⟨gv, 0, none⟩) 4 cv) 87 4 4 visC, .frz idw (fun W => RdW W (some ⟨b0, o0, none⟩) (rsOf power self pts) ps sh)]) zM2 ?_
           refine VE.round (⟨x.m + 1, q273, d273, l2, (x.lv.set ls[x.m].n (lvAt power self pts sw ls[x.m].n)), ls[x.m].n⟩ : Lb) ?_ ?_ ?_ (List.Sublist.refl _)
           ·
            refine ⟨hlt, ?_⟩
            have h9 := hx.learn (best' := ls[x.m].n) ⟨el.1, el.2.1⟩ hLq hni hok2 hmem2 hlen2 rfl el.2.2.1.symm rfl (congrArg Nat.cast (u8_id _ hsp.ld)) (strOf_back _) rfl hend (.inr ⟨mt_t h291 h296, .inl ⟨by have := of_decide_eq_false h298; omega, rfl⟩⟩)
            rw [got_next hlt] at h9
            exact h9
           ·
            show ls.length - (x.m + 1) < ls.length - x.m
            omega
           ·
            exact zE
  ·
   intro h204
   have hme : x.m = ls.length := by have := of_decide_eq_false h204; omega
   refine VC.exit ?_
   refine VE.then_exit ?_
   refine VE.then_exit ?_
   refine VE.block_here ?_
   rw [hme, List.take_length] at hx
   exact VK.fin hn0 x ⟨hme, hx⟩

end Go.Proofs.YtencghlmckbmlaaGreat
