/- TopChoice: the world, beacons, reach. Conditions: those that each contract bears. -/
import Derived.Test.YtencghlmckbmlaaGreatRows
import Derived.Test.YtencghlmckbmlaaGreatCMedium2
import Derived.Test.YtencghlmckbmlaaGreatCBody3
import Derived.Test.YtencghlmckbmlaaGreatCScan3
import Derived.Test.YtencghlmckbmlaaGreatRate
import Derived.Test.YtencghlmckbmlaaGreatZHead3
namespace Go.Proofs.YtencghlmckbmlaaGreat
open Go Go.RowKit Go.Sx
set_option maxRecDepth 100000

theorem fa34_0 : tyField Tryz.prog 34 0 = some 0 := by kernel_rfl
theorem fa34_1 : tyField Tryz.prog 34 1 = some 1 := by kernel_rfl
theorem fa34_2 : tyField Tryz.prog 34 2 = some 2 := by kernel_rfl
theorem lay91 : laysOf Tryz.prog 91 = some ([.int .i64 0, .int .i64 0, .int .i64 0, .int .i64 0], [(0, 1), (1, 1), (2, 1), (3, 1)]) := by kernel_rfl
theorem sl35 : tySlice Tryz.prog 35 = some (34, 7, 32) := by kernel_rfl
theorem ti32 : tyInt Tryz.prog 32 = some .i16 := by kernel_rfl
theorem ty32 : tySz Tryz.prog 32 = some (false, 1) := by kernel_rfl

/-- a spot, plain -/
structure Sp where
  x : Int
  y : Int
  ch : Nat
  ld : Nat
  nm : ByteArray
  iv : Nat
  sec : Bool
def spC (s : Sp) : List Value := [.int .i16 s.x, .int .i16 s.y, .int .u8 (s.ch : Int), .int .u8 (s.ld : Int), .string s.nm, .int .u16 (s.iv : Int), .bool s.sec]
theorem spC_len (s : Sp) : (spC s).length = 7 := rfl
structure SpOk (s : Sp) : Prop where
  x : -32768 ≤ s.x ∧ s.x ≤ 32767
  y : -32768 ≤ s.y ∧ s.y ≤ 32767
  ch : s.ch ≤ 255
  ld : s.ld ≤ 255
  iv : s.iv ≤ 65535
theorem tmod_bd (z : Int) : -10000 ≤ z.tmod 10001 ∧ z.tmod 10001 ≤ 10000 := by
  rcases Int.le_total 0 z with h | h
  · rw [Int.tmod_eq_emod_of_nonneg h]
    omega
  · have e : z.tmod 10001 = -((-z).tmod 10001) := by rw [Int.neg_tmod]; omega
    rw [e, Int.tmod_eq_emod_of_nonneg (by omega)]
    omega
def cx (z : Int) : Int := z.tmod 10001
def raSelf (power : Int) (s : Sp) : Ra := ⟨cx s.x, cx s.y, power, 1⟩
def raPt (power : Int) (s : Sp) : Ra := ⟨cx s.x, cx s.y, power, 1 + ((s.ch % 4 : Nat) : Int)⟩
def rsOf (power : Int) (self : Sp) (pts : List Sp) : List Ra := raSelf power self :: pts.map (raPt power)
theorem rsOf_len (power : Int) (self : Sp) (pts : List Sp) : (rsOf power self pts).length = pts.length + 1 := by simp [rsOf]
theorem rsOf_snoc (power : Int) (self : Sp) (pts : List Sp) (k : Nat) (h : k < pts.length) : rsOf power self (pts.take k) ++ [raPt power pts[k]] = rsOf power self (pts.take (k + 1)) := by
  unfold rsOf
  rw [List.cons_append, List.take_succ_eq_append_getElem h, List.map_append]
  rfl
def shv (N : Nat) (sw : List Nat) (i j : Nat) : Int := if i = j then 0 else ((sw.getD ((min i j * N + max i j) % sw.length) 0 % 601 : Nat) : Int)
def shRow (N : Nat) (sw : List Nat) (i : Nat) : List Int := (List.range N).map (shv N sw i)
def wsd (N : Nat) (sw : List Nat) : List (List Int) := if sw = [] then [] else (List.range N).map (shRow N sw)
theorem shv_bd (N : Nat) (sw : List Nat) (i j : Nat) : 0 ≤ shv N sw i j ∧ shv N sw i j ≤ 600 := by
  unfold shv
  split <;> omega
theorem shv_sym (N : Nat) (sw : List Nat) (i j : Nat) : shv N sw i j = shv N sw j i := by
  unfold shv
  by_cases h : i = j
  · subst h; rfl
  · rw [if_neg h, if_neg (Ne.symm h), Nat.min_comm, Nat.max_comm]
theorem wsd_at (N : Nat) (sw : List Nat) (i j : Nat) : shAt (wsd N sw) i j = if sw ≠ [] ∧ i < N ∧ j < N then shv N sw i j else 0 := by
  unfold wsd shAt
  by_cases h : sw = []
  · simp [h, List.getD]
  · rw [if_neg h]
    by_cases hi : i < N
    · by_cases hj : j < N
      · simp [List.getD, hi, hj, h, shRow]
      · simp [List.getD, hi, hj, shRow]
    · simp [List.getD, hi]
theorem air_ok (power : Int) (hp : 0 ≤ power ∧ power ≤ 300) (self : Sp) (pts : List Sp) (hn : pts.length ≤ 8) (sw : List Nat) : AirOk (rsOf power self pts) (wsd (pts.length + 1) sw) where
  n0 := by rw [rsOf_len]; omega
  n9 := by rw [rsOf_len]; omega
  ra := by
    intro r hr
    rcases List.mem_cons.1 hr with rfl | hr
    · exact ⟨tmod_bd _, tmod_bd _, hp, by show (1 : Int) ≤ 1 ∧ (1 : Int) ≤ 64; omega⟩
    · obtain ⟨s, _, rfl⟩ := List.mem_map.1 hr
      exact ⟨tmod_bd _, tmod_bd _, hp, by show (1 : Int) ≤ 1 + ((s.ch % 4 : Nat) : Int) ∧ 1 + ((s.ch % 4 : Nat) : Int) ≤ 64; omega⟩
  len := by
    rw [rsOf_len]
    unfold wsd
    split
    · exact .inl rfl
    · exact .inr (by simp)
  row := by
    rw [rsOf_len]
    unfold wsd
    intro d hd
    split at hd
    · cases hd
    · obtain ⟨i, _, rfl⟩ := List.mem_map.1 hd
      simp [shRow]
  bd := by
    unfold wsd
    intro d hd z hz
    split at hd
    · cases hd
    · obtain ⟨i, _, rfl⟩ := List.mem_map.1 hd
      obtain ⟨j, _, rfl⟩ := List.mem_map.1 hz
      exact shv_bd _ _ _ _
  dia := by
    intro i
    rw [wsd_at]
    split
    · simp [shv]
    · rfl
  sym := by
    intro i j
    rw [wsd_at, wsd_at, shv_sym]
    by_cases h : sw ≠ [] ∧ i < pts.length + 1 ∧ j < pts.length + 1
    · rw [if_pos h, if_pos ⟨h.1, h.2.2, h.2.1⟩]
    · rw [if_neg h, if_neg fun h2 => h ⟨h2.1, h2.2.2, h2.2.1⟩]
/-- a row that is being written -/
structure RowI (N : Nat) (sw : List Nat) (i j : Nat) (d : List Int) : Prop where
  len : d.length = N
  done : ∀ q (h : q < d.length), q < j → d[q] = shv N sw i q
  todo : ∀ q (h : q < d.length), j ≤ q → d[q] = 0
theorem RowI.start (N : Nat) (sw : List Nat) (i : Nat) : RowI N sw i 0 (List.replicate N 0) := ⟨by simp, fun q _ h => by omega, fun q h _ => by simp⟩
theorem RowI.skip {N : Nat} {sw : List Nat} {i j : Nat} {d : List Int} (h : RowI N sw i j d) (e : i = j) : RowI N sw i (j + 1) d := ⟨h.len, fun q hq hl => by
  by_cases h1 : q < j
  · exact h.done q hq h1
  · obtain rfl : q = j := by omega
    rw [h.todo q hq (by omega), shv, if_pos e], fun q hq hl => h.todo q hq (by omega)⟩
theorem RowI.next {N : Nat} {sw : List Nat} {i j : Nat} {d : List Int} (h : RowI N sw i j d) {z : Int} (hz : z = shv N sw i j) : RowI N sw i (j + 1) (d.set j z) := ⟨by rw [List.length_set]; exact h.len, fun q hq hl => by
  rw [List.length_set] at hq
  rw [List.getElem_set]
  by_cases h1 : j = q
  · subst h1
    rw [if_pos rfl, hz]
  · rw [if_neg h1]
    exact h.done q hq (by omega), fun q hq hl => by
  rw [List.length_set] at hq
  rw [List.getElem_set, if_neg (by omega)]
  exact h.todo q hq (by omega)⟩
theorem RowI.all {N : Nat} {sw : List Nat} {i : Nat} {d : List Int} (h : RowI N sw i N d) : d = shRow N sw i := by
  apply List.ext_getElem
  · rw [h.len]; simp [shRow]
  · intro q h1 h2
    rw [h.done q h1 (by have := h.len; omega)]
    simp [shRow]
theorem made_ints (n : Nat) : (madeCells (Value.int .i64 0).cells (n * 1)).toList.take (n * 1) = (List.replicate n (0 : Int)).flatMap intC := by
  have e : (Value.int .i64 0).cells = #[.int .i64 0] := rfl
  rw [e, toList_madeCells_one, Nat.mul_one, List.take_of_length_le (by simp)]
  induction n with
  | zero => rfl
  | succ n ih => rw [List.replicate_succ, List.replicate_succ, List.flatMap_cons, ← ih]; rfl
def u16C (z : Nat) : List Value := [.int .u16 (z : Int)]
theorem u16C_len (z : Nat) : (u16C z).length = 1 := rfl
/-- rows of shadows that have been written -/
structure Wl where
  k : Nat
  p : Option Addr
  c : Nat
  rows : List Row
  ids : List Nat
theorem map_snoc {rows : List Row} {k : Nat} {f : Nat → List Int} {r : Row} (h : rows.map Row.d = (List.range k).map f) (hr : r.d = f k) : (rows ++ [r]).map Row.d = (List.range (k + 1)).map f := by
  rw [List.range_succ, List.map_append, List.map_append, h]
  simp [hr]

theorem world_c (power : Int) (hp : 0 ≤ power ∧ power ≤ 300) (self : Sp) (hself : SpOk self) (pp : Option Addr) (n cp : Nat) (pts : List Sp) (hl : pts.length = n) (hn : n ≤ 8) (hpts : ∀ q ∈ pts, SpOk q) (pw : Option Addr) (m cw : Nat) (sw : List Nat) (hm : sw.length = m) (hm2 : m ≤ 100) (hsw : ∀ z ∈ sw, z ≤ 65535) :
  Does Tryz.prog 14 [.int .i64 power, .agg #[.int .i16 self.x, .int .i16 self.y, .int .u8 (self.ch : Int), .int .u8 (self.ld : Int), .string self.nm, .int .u16 (self.iv : Int), .bool self.sec], .slice pp n cp, .slice pw m cw] [] (fun W => Rd W pp (pts.flatMap spC) ∧ Rd W pw (sw.flatMap u16C)) (X := Wx) (fun x => sdOf x.sh = wsd (pts.length + 1) sw) (fun x => .agg #[.slice x.pr (rsOf power self pts).length x.cr, .slice x.ps x.sh.length x.cs]) (fun x => [.frz x.ids (fun W => RdW W x.pr (rsOf power self pts) x.ps x.sh)]) := by
 subst hl
 have sx := hself.x
 have sy := hself.y
 refine Does.enter Tryz.func14 rfl (m := 112) rfl (by simp) ?_
 intro W0 hro
 refine VC.seq ?_
 refine VC.region ?_
 refine VL.eff (O.box rfl rfl (by decide) ?_)
 intro g5
 refine VL.eff (O.alloc zo68 (by decide) ?_)
 intro g8
 refine VL.nil ?_
 refine VE.seq ?_
 refine VC.seq ?_
 refine VC.region ?_
 refine VL.q (Q.fieldAddr fa34_0 rfl) ?_
 refine VL.q (Q.load1 ty32 rfl zM rfl) ?_
 refine VL.q ((by first | exact Q.convF ti32 ti3 rfl (by simp only [klo]; omega) (by simp only [khi]; omega) | exact Q.convM (M := 0) ti32 ti3 rfl rfl rfl | exact Q.conv ti32 ti3 rfl)) ?_
 refine VL.q (Q.remT rfl rfl (by omega)) ?_
 refine VL.q (Q.fieldAddr fa34_1 rfl) ?_
 refine VL.q (Q.load1 ty32 rfl zM rfl) ?_
 refine VL.q ((by first | exact Q.convF ti32 ti3 rfl (by simp only [klo]; omega) (by simp only [khi]; omega) | exact Q.convM (M := 0) ti32 ti3 rfl rfl rfl | exact Q.conv ti32 ti3 rfl)) ?_
 refine VL.q (Q.remT rfl rfl (by omega)) ?_
 refine VL.q (Q.move rfl) ?_
 refine VL.q (Q.build lay91 zF) ?_
 refine VL.eff (O.buildSlice sl65 ze91 (by decide) zF (by decide) ?_)
 intro g25
 refine VL.q (Q.build lay68 zF) ?_
 refine VL.eff (O.alloc zo68 (by decide) ?_)
 intro g9
 refine VL.eff (O.store ty68 rfl rfl rfl rfl zU zP ?_)
 refine VL.nil ?_
 refine VE.seq ?_
 refine VC.seq ?_
 refine VC.seq ?_
 refine VC.region ?_
 refine VL.q (Q.assign rfl) ?_
 refine VL.nil ?_
 refine VE.seq ?_
 refine VC.block ?_
 refine VK.toRow (g := g25) (s := 4) (m := 1) (c := 1) zU rfl (by omega) (by unfold maxLen; omega) ?_
 refine VK.picks (Lin := [.blk g9 [.slice (some ⟨g25, 0, none⟩) 1 1, .slice none 0 0] 68, .row (.slice (some ⟨g25, 0, none⟩) 1 1) 91 4 1 ((rsOf power self (pts.take 0)).flatMap raC), .blk g8 [.slice none 0 0, .slice none 0 0] 68]) zM2 ?_
 refine VC.loop (X := Nat × (Option Addr × Nat)) (fun x => [(0, .int .i64 power), (2, .slice pp pts.length cp), (3, .slice pw m cw), (8, .pointer (some ⟨g8, 0, none⟩)), (9, .pointer (some ⟨g9, 0, none⟩)), (10, .int .i64 (x.1 : Int))]) (fun x => [.blk g9 [.slice x.2.1 (x.1 + 1) x.2.2, .slice none 0 0] 68, .row (.slice x.2.1 (x.1 + 1) x.2.2) 91 4 (x.1 + 1) ((rsOf power self (pts.take x.1)).flatMap raC), .blk g8 [.slice none 0 0, .slice none 0 0] 68]) (fun x => x.1 ≤ pts.length) (fun x => pts.length - x.1) (0, (some ⟨g25, 0, none⟩, 1)) (Nat.zero_le _) ?_ ?_
 ·
  exact VS.mk zE (List.Sublist.refl _)
 ·
  intro x hk
  refine VC.seq ?_
  refine VC.seq ?_
  refine VC.region ?_
  refine VL.q (Q.move rfl) ?_
  refine VL.q (Q.move rfl) ?_
  refine VL.q (Q.len sl35 rfl) ?_
  refine VL.q (Q.lt rfl rfl) ?_
  refine VL.nil ?_
  refine VE.seq ?_
  refine VC.cond rfl ?_ ?_
  ·
   intro h30
   have hlt : x.1 < pts.length := by have := of_decide_eq_true h30; omega
   obtain ⟨b0, o0, rfl⟩ := hro.1.pos (by rw [fm_length spC_len]; omega)
   have hsp := hpts _ (List.getElem_mem hlt)
   have hsx := hsp.x
   have hsy := hsp.y
   have hsc := hsp.ch
   have htx := tmod_bd pts[x.1].x
   have hty := tmod_bd pts[x.1].y
   refine VC.skip ?_
   refine VE.seq ?_
   refine VC.seq ?_
   refine VC.block ?_
   refine VA.start (Ls := []) (Cs := []) mixed ?_
   refine VA.tk 0 rfl (zb (zttb (zt ze))) (List.nil_sublist _) Cells.nil (Quiet.c (Q.fieldAddr fa68_0 rfl)) ?_
   refine VA.tk 2 rfl (zb (zttb (zt ze))) (List.nil_sublist _) Cells.nil (Quiet.c (Q.move rfl)) ?_
   refine VA.tk 3 rfl (zb (zttb (zt ze))) (List.nil_sublist _) Cells.nil (Quiet.c (Q.move rfl)) ?_
   refine VA.tk 4 rfl (zb (zttb (zt ze))) (List.nil_sublist _) Cells.nil (Quiet.c (Q.indexAddr sl35 (j := x.1) rfl rfl rfl hlt)) ?_
   refine VA.tk 5 rfl (zb (zttb (zt ze))) (List.nil_sublist _) Cells.nil (Quiet.c (Q.fieldAddr fa34_0 rfl)) ?_
   refine VA.tk 6 rfl (zb (zttb (zt ze))) (List.nil_sublist _) Cells.nil (Quiet.c (Q.load0 (v := .int .i16 pts[x.1].x) ty32 rfl (Rd.cell hro.1 (fm_get spC_len pts x.1 hlt 0 _ rfl)) (by simp))) ?_
   refine VA.tk 7 rfl (zb (zttb (zt ze))) (List.nil_sublist _) Cells.nil (Quiet.c ((by first | exact Q.convF ti32 ti3 rfl (by simp only [klo]; omega) (by simp only [khi]; omega) | exact Q.convM (M := 0) ti32 ti3 rfl rfl rfl | exact Q.conv ti32 ti3 rfl))) ?_
   refine VA.tk 8 rfl (zb (zttb (zt ze))) (List.nil_sublist _) Cells.nil (Quiet.c (Q.remT rfl rfl (by omega))) ?_
   refine VA.tk 9 rfl (zb (zttb (zt ze))) (List.nil_sublist _) Cells.nil (Quiet.c (Q.move rfl)) ?_
   refine VA.tk 10 rfl (zb (zttb (zt ze))) (List.nil_sublist _) Cells.nil (Quiet.c (Q.move rfl)) ?_
   refine VA.tk 11 rfl (zb (zttb (zt ze))) (List.nil_sublist _) Cells.nil (Quiet.c (Q.indexAddr sl35 (j := x.1) rfl rfl rfl hlt)) ?_
   refine VA.tk 12 rfl (zb (zttb (zt ze))) (List.nil_sublist _) Cells.nil (Quiet.c (Q.fieldAddr fa34_1 rfl)) ?_
   refine VA.tk 13 rfl (zb (zttb (zt ze))) (List.nil_sublist _) Cells.nil (Quiet.c (Q.load0 (v := .int .i16 pts[x.1].y) ty32 rfl (Rd.cell hro.1 (fm_get spC_len pts x.1 hlt 1 _ rfl)) (by simp))) ?_
   refine VA.tk 14 rfl (zb (zttb (zt ze))) (List.nil_sublist _) Cells.nil (Quiet.c ((by first | exact Q.convF ti32 ti3 rfl (by simp only [klo]; omega) (by simp only [khi]; omega) | exact Q.convM (M := 0) ti32 ti3 rfl rfl rfl | exact Q.conv ti32 ti3 rfl))) ?_
   refine VA.tk 15 rfl (zb (zttb (zt ze))) (List.nil_sublist _) Cells.nil (Quiet.c (Q.remT rfl rfl (by omega))) ?_
   refine VA.tk 16 rfl (zb (zttb (zt ze))) (List.nil_sublist _) Cells.nil (Quiet.c (Q.move rfl)) ?_
   refine VA.tk 17 rfl (zb (zttb (zt ze))) (List.nil_sublist _) Cells.nil (Quiet.c (Q.move rfl)) ?_
   refine VA.tk 18 rfl (zb (zttb (zt ze))) (List.nil_sublist _) Cells.nil (Quiet.c (Q.move rfl)) ?_
   refine VA.tk 19 rfl (zb (zttb (zt ze))) (List.nil_sublist _) Cells.nil (Quiet.c (Q.indexAddr sl35 (j := x.1) rfl rfl rfl hlt)) ?_
   refine VA.tk 20 rfl (zb (zttb (zt ze))) (List.nil_sublist _) Cells.nil (Quiet.c (Q.fieldAddr fa34_2 rfl)) ?_
   refine VA.tk 21 rfl (zb (zttb (zt ze))) (List.nil_sublist _) Cells.nil (Quiet.c (Q.load0 (v := .int .u8 (pts[x.1].ch : Int)) ty5 rfl (Rd.cell hro.1 (fm_get spC_len pts x.1 hlt 2 _ rfl)) (by simp))) ?_
   refine VA.tk 22 rfl (zb (zttb (zt ze))) (List.nil_sublist _) Cells.nil (Quiet.c ((by first | exact Q.convF ti5 ti3 rfl (by simp only [klo]; omega) (by simp only [khi]; omega) | exact Q.convM (M := 0) ti5 ti3 rfl rfl rfl | exact Q.conv ti5 ti3 rfl))) ?_
   refine VA.tk 23 rfl (zb (zttb (zt ze))) (List.nil_sublist _) Cells.nil (Quiet.c (Quiet.to (v' := .int .i64 ((pts[x.1].ch % 4 : Nat) : Int)) (Q.rem rfl rfl (by omega) (by omega)) (congrArg (Value.int .i64) (by omega)))) ?_
   refine VA.tk 24 rfl (zb (zttb (zt ze))) (List.nil_sublist _) Cells.nil (Quiet.c ((by first | exact Q.addI rfl rfl (by omega) (by omega) | exact Q.add rfl rfl))) ?_
   refine VA.tk 25 rfl (zb (zttb (zt ze))) (List.nil_sublist _) Cells.nil (Quiet.c (Q.build lay91 zF)) ?_
   refine VA.all (rs := [1, 26]) (by kernel_rfl) (by simp) ?_
   refine VA.forall2 ?_ ?_
   ·
    refine VA.eff rfl ?_
    refine O.quiet (by decide) (Q.load1 ty65 rfl zM rfl) ?_
    refine VA.next (List.nil_sublist _) Cells.nil ?_
    refine VA.all (rs := [26]) (by kernel_rfl) (by simp) ?_
    refine VA.forall1 ?_
    ·
     refine VA.eff rfl ?_
     refine id (O.buildSlice sl65 ze91 (by decide) zF (by decide) ?_)
     intro g59
     refine VA.next (List.nil_sublist _) Cells.nil ?_
     refine VA.all (rs := [27]) (by kernel_rfl) (by simp) ?_
     refine VA.forall1 ?_
     ·
      refine VA.eff rfl ?_
      refine id (O.appendS sl65 ze91 rfl (by decide) rfl rfl zM zS rfl (by decide) (by unfold maxLen; omega) (by omega) zA ?_)
      intro p60 c60 hc60
      rw [show (rsOf power self (pts.take x.1)).flatMap raC ++ [.int .i64 (pts[x.1].x.tmod 10001), .int .i64 (pts[x.1].y.tmod 10001), .int .i64 power, .int .i64 (1 + ((pts[x.1].ch % 4 : Nat) : Int))] = (rsOf power self (pts.take (x.1 + 1))).flatMap raC from by rw [← rsOf_snoc power self pts x.1 hlt, List.flatMap_append]; rfl]
      refine VA.next (List.nil_sublist _) Cells.nil ?_
      refine VA.tk 28 rfl (zb (zttb (zt ze))) (List.nil_sublist _) Cells.nil (Quiet.c (Q.fieldAddr fa68_0 rfl)) ?_
      refine VA.all (rs := [29]) (by kernel_rfl) (by simp) ?_
      refine VA.forall1 ?_
      ·
       refine VA.eff rfl ?_
       refine id (O.store ty65 rfl rfl rfl rfl zU zP ?_)
       refine VA.next (List.nil_sublist _) Cells.nil ?_
       refine VA.done (by kernel_rfl) ?_
       refine VE.block_normal ?_
       refine VE.seq ?_
       refine VC.region ?_
       refine VL.q (Q.move rfl) ?_
       refine VL.q ((by first | exact Q.addI rfl rfl (by omega) (by omega) | exact Q.add rfl rfl)) ?_
       refine VL.q (Q.assign rfl) ?_
       refine VL.nil ?_
       refine VE.then_normal ?_
       refine VK.picks (Lin := [.blk g9 [.slice p60 ((x.1 + 1) + 1) c60, .slice none 0 0] 68, .row (.slice p60 ((x.1 + 1) + 1) c60) 91 4 ((x.1 + 1) + 1) ((rsOf power self (pts.take (x.1 + 1))).flatMap raC), .blk g8 [.slice none 0 0, .slice none 0 0] 68]) zM2 ?_
       exact VE.round (x.1 + 1, (p60, c60)) hlt (by show pts.length - (x.1 + 1) < pts.length - x.1; omega) zE (List.Sublist.refl _)
   ·
    refine VA.eff rfl ?_
    refine id (O.buildSlice sl65 ze91 (by decide) zF (by decide) ?_)
    intro g59_1
    refine VA.next (List.nil_sublist _) Cells.nil ?_
    refine VA.all (rs := [1]) (by kernel_rfl) (by simp) ?_
    refine VA.forall1 ?_
    ·
     refine VA.eff rfl ?_
     refine O.quiet (by decide) (Q.load1 ty65 rfl zM rfl) ?_
     refine VA.next (List.nil_sublist _) Cells.nil ?_
     refine VA.all (rs := [27]) (by kernel_rfl) (by simp) ?_
     refine VA.forall1 ?_
     ·
      refine VA.eff rfl ?_
      refine id (O.appendS sl65 ze91 rfl (by decide) rfl rfl zM zS rfl (by decide) (by unfold maxLen; omega) (by omega) zA ?_)
      intro p60 c60 hc60
      rw [show (rsOf power self (pts.take x.1)).flatMap raC ++ [.int .i64 (pts[x.1].x.tmod 10001), .int .i64 (pts[x.1].y.tmod 10001), .int .i64 power, .int .i64 (1 + ((pts[x.1].ch % 4 : Nat) : Int))] = (rsOf power self (pts.take (x.1 + 1))).flatMap raC from by rw [← rsOf_snoc power self pts x.1 hlt, List.flatMap_append]; rfl]
      refine VA.next (List.nil_sublist _) Cells.nil ?_
      refine VA.tk 28 rfl (zb (zttb (zt ze))) (List.nil_sublist _) Cells.nil (Quiet.c (Q.fieldAddr fa68_0 rfl)) ?_
      refine VA.all (rs := [29]) (by kernel_rfl) (by simp) ?_
      refine VA.forall1 ?_
      ·
       refine VA.eff rfl ?_
       refine id (O.store ty65 rfl rfl rfl rfl zU zP ?_)
       refine VA.next (List.nil_sublist _) Cells.nil ?_
       refine VA.done (by kernel_rfl) ?_
       refine VE.block_normal ?_
       refine VE.seq ?_
       refine VC.region ?_
       refine VL.q (Q.move rfl) ?_
       refine VL.q ((by first | exact Q.addI rfl rfl (by omega) (by omega) | exact Q.add rfl rfl)) ?_
       refine VL.q (Q.assign rfl) ?_
       refine VL.nil ?_
       refine VE.then_normal ?_
       refine VK.picks (Lin := [.blk g9 [.slice p60 ((x.1 + 1) + 1) c60, .slice none 0 0] 68, .row (.slice p60 ((x.1 + 1) + 1) c60) 91 4 ((x.1 + 1) + 1) ((rsOf power self (pts.take (x.1 + 1))).flatMap raC), .blk g8 [.slice none 0 0, .slice none 0 0] 68]) zM2 ?_
       exact VE.round (x.1 + 1, (p60, c60)) hlt (by show pts.length - (x.1 + 1) < pts.length - x.1; omega) zE (List.Sublist.refl _)
  ·
   intro h30
   have hke : x.1 = pts.length := by have := of_decide_eq_false h30; omega
   obtain ⟨k1, qr, cr⟩ := x
   obtain rfl : k1 = pts.length := hke
   rw [List.take_length]
   refine VC.exit ?_
   refine VE.then_exit ?_
   refine VE.then_exit ?_
   refine VE.block_here ?_
   refine VE.seq ?_
   refine VC.seq ?_
   refine VC.region ?_
   refine VL.q (Q.fieldAddr fa68_0 rfl) ?_
   refine VL.q (Q.load1 ty65 rfl zM rfl) ?_
   refine VL.quietE (v' := .int .i64 ((pts.length + 1 : Nat) : Int)) (by decide) (Q.len sl65 rfl) (by rfl) ?_
   refine VL.q (Q.assign rfl) ?_
   refine VL.nil ?_
   refine VE.seq ?_
   refine VC.seq ?_
   refine VC.seq ?_
   refine VC.region ?_
   refine VL.q (Q.assign rfl) ?_
   refine VL.nil ?_
   refine VE.seq ?_
   refine VC.block ?_
   refine VK.addNil 78 1 ?_
   refine VK.frzNil (RdRows []) (fun _ _ hr => by cases hr) ?_
   intro ids0
   refine VK.picks (Lin := [.blk g9 [.slice qr (pts.length + 1) cr, .slice none 0 0] 68, .row (.slice none 0 0) 78 1 0 (([] : List Row).flatMap rowC), .frz ids0 (RdRows ([] : List Row)), .row (.slice qr (pts.length + 1) cr) 91 4 (pts.length + 1) ((rsOf power self pts).flatMap raC), .blk g8 [.slice none 0 0, .slice none 0 0] 68]) zM2 ?_
   refine VC.loop (X := Wl) (fun x => [(3, .slice pw m cw), (8, .pointer (some ⟨g8, 0, none⟩)), (9, .pointer (some ⟨g9, 0, none⟩)), (11, .int .i64 ((pts.length + 1 : Nat) : Int)), (12, .int .i64 (x.k : Int))]) (fun x => [.blk g9 [.slice qr (pts.length + 1) cr, .slice x.p x.k x.c] 68, .row (.slice x.p x.k x.c) 78 1 x.k (x.rows.flatMap rowC), .frz x.ids (RdRows x.rows), .row (.slice qr (pts.length + 1) cr) 91 4 (pts.length + 1) ((rsOf power self pts).flatMap raC), .blk g8 [.slice none 0 0, .slice none 0 0] 68]) (fun x => x.k ≤ pts.length + 1 ∧ x.rows.length = x.k ∧ x.rows.map Row.d = (List.range x.k).map (shRow (pts.length + 1) sw) ∧ (m = 0 → x.k = 0)) (fun x => pts.length + 1 - x.k) ⟨0, none, 0, [], ids0⟩ ⟨Nat.zero_le _, rfl, rfl, fun _ => rfl⟩ ?_ ?_
   ·
    exact VS.mk zE (List.Sublist.refl _)
   ·
    rintro x ⟨hk, hrl, hrm, hz⟩
    refine VC.seq ?_
    refine VC.seq ?_
    refine VC.region ?_
    refine VL.q (Q.move rfl) ?_
    refine VL.q (Q.move rfl) ?_
    refine VL.q (Q.lt rfl rfl) ?_
    refine VL.q (Q.move rfl) ?_
    refine VK.case 68 rfl ?_ ?_
    ·
     intro h68
     have hlt : x.k < pts.length + 1 := by have := of_decide_eq_true h68; omega
     refine VL.yes rfl rfl ?_
     refine VL.q (Q.move rfl) ?_
     refine VL.yes rfl rfl ?_
     refine VL.q (Q.len sl36 rfl) ?_
     refine VL.yes rfl rfl ?_
     refine VL.q (Q.gt rfl rfl) ?_
     refine VL.q (Q.pick_true rfl rfl) ?_
     refine VL.nil ?_
     refine VE.seq ?_
     refine VC.cond rfl ?_ ?_
     ·
      intro h72
      have hm0 : 0 < m := by have := of_decide_eq_true h72; omega
      refine VC.skip ?_
      refine VE.seq ?_
      refine VC.seq ?_
      refine VC.block ?_
      refine VC.seq ?_
      refine VC.region ?_
      refine VL.q (Q.move rfl) ?_
      refine VL.eff (O.make ((pts.length + 1)) ((pts.length + 1)) sl78 ze3 rfl rfl rfl rfl (by omega) (by omega) (by unfold maxLen; omega) (by decide) ?_)
      intro g76
      refine VL.q (Q.assign rfl) ?_
      refine VL.nil ?_
      refine VE.seq ?_
      refine VC.seq ?_
      refine VC.seq ?_
      refine VC.region ?_
      refine VL.q (Q.assign rfl) ?_
      refine VL.nil ?_
      refine VE.seq ?_
      refine VC.block ?_
      refine VK.openAt (g := g76) (m := pts.length + 1) (c := pts.length + 1) (s := 1) (xs := _) zA ?_
      intro D hD _ _ _
      have hD0 : D = [] := List.eq_nil_of_length_eq_zero (by omega)
      subst hD0
      rw [List.append_nil, made_ints]
      refine VK.picks (Lin := [.blk g76 ((List.replicate (pts.length + 1) (0 : Int)).flatMap intC) 3, .blk g9 [.slice qr (pts.length + 1) cr, .slice x.p x.k x.c] 68, .row (.slice x.p x.k x.c) 78 1 x.k (x.rows.flatMap rowC), .frz x.ids (RdRows x.rows), .row (.slice qr (pts.length + 1) cr) 91 4 (pts.length + 1) ((rsOf power self pts).flatMap raC), .blk g8 [.slice none 0 0, .slice none 0 0] 68]) zM2 ?_
      refine VC.loop (X := Nat × List Int) (fun y => [(3, .slice pw m cw), (8, .pointer (some ⟨g8, 0, none⟩)), (9, .pointer (some ⟨g9, 0, none⟩)), (11, .int .i64 ((pts.length + 1 : Nat) : Int)), (12, .int .i64 (x.k : Int)), (13, .slice (some ⟨g76, 0, none⟩) (pts.length + 1) (pts.length + 1)), (14, .int .i64 (y.1 : Int))]) (fun y => [.blk g76 (y.2.flatMap intC) 3, .blk g9 [.slice qr (pts.length + 1) cr, .slice x.p x.k x.c] 68, .row (.slice x.p x.k x.c) 78 1 x.k (x.rows.flatMap rowC), .frz x.ids (RdRows x.rows), .row (.slice qr (pts.length + 1) cr) 91 4 (pts.length + 1) ((rsOf power self pts).flatMap raC), .blk g8 [.slice none 0 0, .slice none 0 0] 68]) (fun y => y.1 ≤ pts.length + 1 ∧ RowI (pts.length + 1) sw x.k y.1 y.2) (fun y => pts.length + 1 - y.1) (0, List.replicate (pts.length + 1) 0) ⟨Nat.zero_le _, RowI.start _ _ _⟩ ?_ ?_
      ·
       exact VS.mk zE (List.Sublist.refl _)
      ·
       rintro y ⟨hj, hri⟩
       refine VC.seq ?_
       refine VC.seq ?_
       refine VC.region ?_
       refine VL.q (Q.move rfl) ?_
       refine VL.q (Q.move rfl) ?_
       refine VL.q (Q.lt rfl rfl) ?_
       refine VL.nil ?_
       refine VE.seq ?_
       refine VC.cond rfl ?_ ?_
       ·
        intro h79
        have hlj : y.1 < pts.length + 1 := by have := of_decide_eq_true h79; omega
        refine VC.skip ?_
        refine VE.seq ?_
        refine VC.seq ?_
        refine VC.block ?_
        refine VC.seq ?_
        refine VC.region ?_
        refine VL.q (Q.move rfl) ?_
        refine VL.q (Q.move rfl) ?_
        refine VL.q (Q.ne rfl rfl) ?_
        refine VL.nil ?_
        refine VE.seq ?_
        refine VC.cond rfl ?_ ?_
        ·
         intro h84
         have hne : x.k ≠ y.1 := by intro e; rw [e] at h84; exact absurd h84 (by simp)
         have hmb : min x.k y.1 * (pts.length + 1) ≤ 9 * 9 := Nat.mul_le_mul (by omega) (by omega)
         have hmod := Nat.mod_lt (min x.k y.1 * (pts.length + 1) + max x.k y.1) (show 0 < m by omega)
         have hix : ((min x.k y.1 * (pts.length + 1) + max x.k y.1) % m) < sw.length := by omega
         obtain ⟨b4, o4, rfl⟩ := hro.2.pos (by rw [fm_length u16C_len]; omega)
         have hsz : sw.getD ((min x.k y.1 * (pts.length + 1) + max x.k y.1) % m) 0 ≤ 65535 := by rw [show sw.getD ((min x.k y.1 * (pts.length + 1) + max x.k y.1) % m) 0 = sw[((min x.k y.1 * (pts.length + 1) + max x.k y.1) % m)] from by simp [List.getD, hix]]; exact hsw _ (List.getElem_mem hix)
         refine VC.region ?_
         refine VL.q (Q.move rfl) ?_
         refine VL.q (Q.move rfl) ?_
         refine VL.q (Q.move rfl) ?_
         refine VL.q (Q.move rfl) ?_
         refine VL.q (Q.move rfl) ?_
         refine VL.quietE (v' := .int .i64 ((min x.k y.1 : Nat) : Int)) (by decide) (Q.min2 rfl rfl) (congrArg (Value.int .i64) (by split <;> omega)) ?_
         refine VL.q (Q.move rfl) ?_
         refine VL.quietE (v' := .int .i64 ((min x.k y.1 * (pts.length + 1) : Nat) : Int)) (by decide) ((by first | exact Q.mulI rfl rfl (by omega) (by omega) | exact Q.mul rfl rfl)) (congrArg (Value.int .i64) (by push_cast; rfl)) ?_
         refine VL.q (Q.move rfl) ?_
         refine VL.q (Q.move rfl) ?_
         refine VL.quietE (v' := .int .i64 ((max x.k y.1 : Nat) : Int)) (by decide) (Q.max2 rfl rfl) (congrArg (Value.int .i64) (by split <;> omega)) ?_
         refine VL.quietE (v' := .int .i64 ((min x.k y.1 * (pts.length + 1) + max x.k y.1 : Nat) : Int)) (by decide) ((by first | exact Q.addI rfl rfl (by omega) (by omega) | exact Q.add rfl rfl)) (congrArg (Value.int .i64) (by push_cast; rfl)) ?_
         refine VL.q (Q.move rfl) ?_
         refine VL.q (Q.len sl36 rfl) ?_
         refine VL.quietE (v' := .int .i64 (((min x.k y.1 * (pts.length + 1) + max x.k y.1) % m) : Nat)) (by decide) (Q.rem rfl rfl (by omega) (by omega)) (congrArg (Value.int .i64) (by push_cast; rfl)) ?_
         refine VL.q (Q.indexAddr sl36 (j := ((min x.k y.1 * (pts.length + 1) + max x.k y.1) % m)) rfl rfl rfl (by have := Nat.mod_lt (min x.k y.1 * (pts.length + 1) + max x.k y.1) (show 0 < m by omega); omega)) ?_
         refine VL.q (Q.load0 (v := .int .u16 (sw.getD ((min x.k y.1 * (pts.length + 1) + max x.k y.1) % m) 0 : Int)) ty26 rfl (Rd.at hro.2 (fm_at u16C_len sw ((min x.k y.1 * (pts.length + 1) + max x.k y.1) % m) hix _ (by simp [u16C, List.getD, hix]))) (by simp)) ?_
         refine VL.q ((by first | exact Q.convF ti26 ti3 rfl (by simp only [klo]; omega) (by simp only [khi]; omega) | exact Q.convM (M := 0) ti26 ti3 rfl rfl rfl | exact Q.conv ti26 ti3 rfl)) ?_
         refine VL.quietE (v' := .int .i64 (shv (pts.length + 1) sw x.k y.1)) (by decide) (Q.rem rfl rfl (by omega) (by omega)) (congrArg (Value.int .i64) (by unfold shv; rw [if_neg hne, hm]; omega)) ?_
         refine VL.q (Q.indexAddr sl78 (j := y.1) rfl rfl rfl hlj) ?_
         refine VL.eff (O.store (xs := intC (shv (pts.length + 1) sw x.k y.1)) ty3 rfl rfl rfl rfl zU (by rw [Nat.zero_add]; exact fm_put intC_len y.2 y.1 (by rw [hri.len]; exact hlj) _) ?_)
         refine VL.nil ?_
         refine VE.block_normal ?_
         refine VE.seq ?_
         refine VC.region ?_
         refine VL.q (Q.move rfl) ?_
         refine VL.q ((by first | exact Q.addI rfl rfl (by omega) (by omega) | exact Q.add rfl rfl)) ?_
         refine VL.q (Q.assign rfl) ?_
         refine VL.nil ?_
         refine VE.then_normal ?_
         have hzz : intC (shv (pts.length + 1) sw x.k y.1) = [.int .i64 (shv (pts.length + 1) sw x.k y.1)] := rfl
         exact VE.round (y.1 + 1, y.2.set y.1 (shv (pts.length + 1) sw x.k y.1)) ⟨hlj, hri.next rfl⟩ (by show pts.length + 1 - (y.1 + 1) < pts.length + 1 - y.1; omega) zE (List.Sublist.refl _)
        ·
         intro h84
         have heq : x.k = y.1 := Int.ofNat.inj (by simpa using h84)
         refine VC.skip ?_
         refine VE.block_normal ?_
         refine VE.seq ?_
         refine VC.region ?_
         refine VL.q (Q.move rfl) ?_
         refine VL.q ((by first | exact Q.addI rfl rfl (by omega) (by omega) | exact Q.add rfl rfl)) ?_
         refine VL.q (Q.assign rfl) ?_
         refine VL.nil ?_
         refine VE.then_normal ?_
         exact VE.round (y.1 + 1, y.2) ⟨hlj, hri.skip heq⟩ (by show pts.length + 1 - (y.1 + 1) < pts.length + 1 - y.1; omega) zE (List.Sublist.refl _)
       ·
        intro h79
        have hje : y.1 = pts.length + 1 := by have := of_decide_eq_false h79; omega
        refine VC.exit ?_
        refine VE.then_exit ?_
        refine VE.then_exit ?_
        refine VE.block_here ?_
        refine VE.seq ?_
        refine VC.region ?_
        refine VL.q (Q.fieldAddr fa68_1 rfl) ?_
        refine VL.q (Q.load1 ty66 rfl zM rfl) ?_
        refine VL.q (Q.move rfl) ?_
        refine VL.eff (O.buildSlice sl66 ze78 (by decide) zF (by decide) ?_)
        intro g108
        refine VL.eff (O.appendS sl66 ze78 rfl (by decide) rfl rfl zM zS rfl (by decide) (by unfold maxLen; omega) (by omega) zA ?_)
        intro p109 c109 hc109
        rw [show x.rows.flatMap rowC ++ [.slice (some ⟨g76, 0, none⟩) (pts.length + 1) (pts.length + 1)] = (x.rows ++ [(⟨some ⟨g76, 0, none⟩, pts.length + 1, y.2⟩ : Row)]).flatMap rowC from by rw [fm_snoc, rowC, hri.len]]
        refine VL.q (Q.fieldAddr fa68_1 rfl) ?_
        refine VL.eff (O.store ty66 rfl rfl rfl rfl zU zP ?_)
        refine VL.nil ?_
        refine VE.block_normal ?_
        refine VE.seq ?_
        refine VC.region ?_
        refine VL.q (Q.move rfl) ?_
        refine VL.q ((by first | exact Q.addI rfl rfl (by omega) (by omega) | exact Q.add rfl rfl)) ?_
        refine VL.q (Q.assign rfl) ?_
        refine VL.nil ?_
        refine VE.then_normal ?_
        refine VK.freeze (A := [.frz x.ids (RdRows x.rows), .blk g76 (y.2.flatMap intC) 3]) (RdRows (x.rows ++ [(⟨some ⟨g76, 0, none⟩, pts.length + 1, y.2⟩ : Row)])) zM2 (fun W hW r hr => ?_) ?_
        ·
         rcases List.mem_append.1 hr with hr | hr
         ·
          exact Rd.frz hW (.head _) r hr
         ·
          rw [List.mem_singleton] at hr
          subst hr
          exact Rd.own hW (.tail _ (.head _)) (fun j u hj => by rw [Nat.zero_add]; exact hj)
        intro ids1
        refine VK.picks (Lin := [.blk g9 [.slice qr (pts.length + 1) cr, .slice p109 (x.k + 1) c109] 68, .row (.slice p109 (x.k + 1) c109) 78 1 (x.k + 1) ((x.rows ++ [(⟨some ⟨g76, 0, none⟩, pts.length + 1, y.2⟩ : Row)]).flatMap rowC), .frz ids1 (RdRows (x.rows ++ [(⟨some ⟨g76, 0, none⟩, pts.length + 1, y.2⟩ : Row)])), .row (.slice qr (pts.length + 1) cr) 91 4 (pts.length + 1) ((rsOf power self pts).flatMap raC), .blk g8 [.slice none 0 0, .slice none 0 0] 68]) zM2 ?_
        refine VE.round (⟨x.k + 1, p109, c109, x.rows ++ [(⟨some ⟨g76, 0, none⟩, pts.length + 1, y.2⟩ : Row)], ids1⟩ : Wl) ?_ ?_ ?_ (List.Sublist.refl _)
        ·
         exact ⟨hlt, by show (x.rows ++ [_]).length = x.k + 1; rw [List.length_append, hrl]; rfl, map_snoc hrm (RowI.all (hje ▸ hri)), fun h => by omega⟩
        ·
         show pts.length + 1 - (x.k + 1) < pts.length + 1 - x.k
         omega
        ·
         exact zE
     ·
      intro h72
      have hm0 : m = 0 := by have := of_decide_eq_false h72; omega
      refine VC.exit ?_
      refine VE.then_exit ?_
      refine VE.then_exit ?_
      refine VE.block_here ?_
      refine VE.seq ?_
      refine VC.seq ?_
      refine VC.region ?_
      refine VL.q (Q.loadA ty68 rfl zM zS) ?_
      refine VL.eff (O.store ty68 rfl rfl rfl rfl zU zP ?_)
      refine VL.nil ?_
      refine VE.seq ?_
      refine VC.ret ?_
      have hfin : sdOf x.rows = wsd (pts.length + 1) sw := by
       unfold wsd
       by_cases h0 : sw = []
       ·
        rw [if_pos h0]
        have hx0 : x.k = 0 := hz (by rw [← hm, h0]; rfl)
        show x.rows.map Row.d = []
        rw [hrm, hx0]
        rfl
       ·
        rw [if_neg h0]
        exact absurd (List.eq_nil_of_length_eq_zero (by omega)) h0
      refine VK.freeze (A := [.row (.slice qr (pts.length + 1) cr) 91 4 (pts.length + 1) ((rsOf power self pts).flatMap raC), .row (.slice x.p x.k x.c) 78 1 x.k (x.rows.flatMap rowC), .frz x.ids (RdRows x.rows)]) (fun W => RdW W qr (rsOf power self pts) x.p x.rows) zM2 (fun W hW => ⟨Rd.row hW (.head _), Rd.row hW (.tail _ (.head _)), Rd.frz hW (.tail _ (.tail _ (.head _)))⟩) ?_
      intro ids2
      exact VE.ret rfl (.cell ty68 rfl zM rfl .nil) ⟨qr, cr, x.p, x.c, x.rows, ids2⟩ hfin (by show _ = Value.agg _; rw [rsOf_len, hrl]; rfl) zB
    ·
     intro h68
     have hke : x.k = pts.length + 1 := by have := of_decide_eq_false h68; omega
     refine VL.no (by simp) rfl rfl (.inl rfl) ?_
     refine VL.no (by simp) rfl rfl (.inl rfl) ?_
     refine VL.no (by simp) rfl rfl (.inl rfl) ?_
     refine VL.quietE (v' := .bool false) (by decide) (Q.pick_false rfl rfl) (by rfl) ?_
     refine VL.nil ?_
     refine VE.seq ?_
     refine VC.condF rfl ?_
     refine VC.exit ?_
     refine VE.then_exit ?_
     refine VE.then_exit ?_
     refine VE.block_here ?_
     refine VE.seq ?_
     refine VC.seq ?_
     refine VC.region ?_
     refine VL.q (Q.loadA ty68 rfl zM zS) ?_
     refine VL.eff (O.store ty68 rfl rfl rfl rfl zU zP ?_)
     refine VL.nil ?_
     refine VE.seq ?_
     refine VC.ret ?_
     have hfin : sdOf x.rows = wsd (pts.length + 1) sw := by
      unfold wsd
      by_cases h0 : sw = []
      ·
       rw [if_pos h0]
       have hx0 : x.k = 0 := hz (by rw [← hm, h0]; rfl)
       show x.rows.map Row.d = []
       rw [hrm, hx0]
       rfl
      ·
       rw [if_neg h0]
       show x.rows.map Row.d = _
       rw [hrm, hke]
     refine VK.freeze (A := [.row (.slice qr (pts.length + 1) cr) 91 4 (pts.length + 1) ((rsOf power self pts).flatMap raC), .row (.slice x.p x.k x.c) 78 1 x.k (x.rows.flatMap rowC), .frz x.ids (RdRows x.rows)]) (fun W => RdW W qr (rsOf power self pts) x.p x.rows) zM2 (fun W hW => ⟨Rd.row hW (.head _), Rd.row hW (.tail _ (.head _)), Rd.frz hW (.tail _ (.tail _ (.head _)))⟩) ?_
     intro ids2
     exact VE.ret rfl (.cell ty68 rfl zM rfl .nil) ⟨qr, cr, x.p, x.c, x.rows, ids2⟩ hfin (by show _ = Value.agg _; rw [rsOf_len, hrl]; rfl) zB

end Go.Proofs.YtencghlmckbmlaaGreat
