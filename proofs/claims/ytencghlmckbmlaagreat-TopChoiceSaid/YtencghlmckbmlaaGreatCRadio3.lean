/- The contracts of package radio: hearing, symmetry, a changed world. Conditions: those that each bears. -/
import Derived.Test.YtencghlmckbmlaaGreatRows
import Derived.Test.YtencghlmckbmlaaGreatCRadio2
namespace Go.Proofs.YtencghlmckbmlaaGreat
open Go Go.RowKit Go.Sx
set_option maxRecDepth 100000

theorem lay68 : laysOf Tryz.prog 68 = some ([.slice none 0 0, .slice none 0 0], [(0, 1), (1, 1)]) := by kernel_rfl
theorem ok138 : okFunc Tryz.prog 138 = true := by kernel_rfl
theorem ok139 : okFunc Tryz.prog 139 = true := by kernel_rfl
theorem ok198 : okFunc Tryz.prog 198 = true := by kernel_rfl
theorem ok61 : okFunc Tryz.prog 61 = true := by kernel_rfl
theorem ok62 : okFunc Tryz.prog 62 = true := by kernel_rfl
theorem ze78 : (Tryz.prog.info? 78).bind (·.zero) = some (.slice none 0 0) := by kernel_rfl
theorem zo68 : tyZero Tryz.prog 68 = some [.slice none 0 0, .slice none 0 0] := by kernel_rfl

theorem cell_lt {W : World} {p : Addr} {v : Value} (h : W.cell? p = some v) : p.block < W.heap.size := World.block_lt_of_cell? W p h
/-- rows that have been copied -/
structure Cx where
  k : Nat
  p : Option Addr
  c : Nat
  rows : List Row
  ids : List Nat
def RdRows (rows : List Row) (W : World) : Prop := ∀ r ∈ rows, Rd W r.p (r.d.flatMap intC)
theorem rows_snoc {L : List Rs} {W : World} {ids : List Nat} {rows : List Row} {r : Row} {e : TypeId} (hw : Go.Sx.Own W L) (h1 : Rs.frz ids (RdRows rows) ∈ L) (h2 : Rs.row (.slice r.p r.d.length r.c) e 1 r.d.length (r.d.flatMap intC) ∈ L) : RdRows (rows ++ [r]) W := by
  intro q hq
  rcases List.mem_append.1 hq with hq | hq
  · exact Rd.frz hw h1 q hq
  · rw [List.mem_singleton] at hq
    subst hq
    exact Rd.row hw h2
theorem sd_snoc {rows sh : List Row} {k : Nat} {r : Row} (h : sdOf rows = (sdOf sh).take k) (hk : k < sh.length) (hr : r.d = sh[k].d) : sdOf (rows ++ [r]) = (sdOf sh).take (k + 1) := by
  rw [List.take_add_one, ← h]
  simp [sdOf, hk, hr]
theorem ints_one (l : List Int) : (l.flatMap intC).all one = true := fm_one (fun _ => rfl) l
theorem hears_t {rs : List Ra} {sd : List (List Int)} {j i : Nat} (h1 : ((i : Int) != (j : Int)) = true) (h2 : ((raAt rs i).c == (raAt rs j).c) = true) : decide (-820 ≤ lev rs sd i j) = hearsB rs sd j i := by
  have e1 : i ≠ j := by
    intro e
    subst e
    simp at h1
  have e2 : (raAt rs i).c = (raAt rs j).c := eq_of_beq h2
  simp [hearsB, e1, e2]
theorem hears_f1 {rs : List Ra} {sd : List (List Int)} {j i : Nat} (h1 : ((i : Int) != (j : Int)) = false) : false = hearsB rs sd j i := by
  have e1 : i = j := by
    have : (i : Int) = j := by simpa using h1
    omega
  simp [hearsB, e1]
theorem hears_f2 {rs : List Ra} {sd : List (List Int)} {j i : Nat} (h2 : ((raAt rs i).c == (raAt rs j).c) = false) : false = hearsB rs sd j i := by
  have e2 : ¬ (raAt rs i).c = (raAt rs j).c := by simpa using h2
  simp [hearsB, e2]

theorem hears_c (pr : Option Addr) (cr : Nat) (rs : List Ra) (ps : Option Addr) (cs : Nat) (sh : List Row) (hw : AirOk rs (sdOf sh)) (i j : Nat) (hi : i < rs.length) (hj : j < rs.length) :
  Does Tryz.prog 198 [.agg #[.slice pr rs.length cr, .slice ps sh.length cs], .int .i64 (j : Int), .int .i64 (i : Int)] [] (fun W => RdW W pr rs ps sh) (X := Unit) (fun _ => True) (fun _ => .bool (hearsB rs (sdOf sh) j i)) (fun _ => []) := by
 have hn0 := hw.n0
 refine Does.enter Tryz.func198 rfl (m := 32) rfl (by simp) ?_
 intro W0 hro
 obtain ⟨b0, o0, rfl⟩ := hro.1.pos (by rw [fm_length raC_len]; have := hw.n0; omega)
 refine VC.seq ?_
 refine VC.region ?_
 refine VL.eff (O.box rfl rfl (by decide) ?_)
 intro g3
 refine VL.q (Q.assign rfl) ?_
 refine VL.nil ?_
 refine VE.seq ?_
 refine VC.seq ?_
 refine VA.start (Ls := [.blk g3 [.slice (some ⟨b0, o0, none⟩) rs.length cr, .slice ps sh.length cs] 68]) (Cs := []) mixed ?_
 refine VA.tk 0 rfl (zt ze) (List.singleton_sublist.2 zM) Cells.nil (Quiet.c (Q.move rfl)) ?_
 refine VA.tk 1 rfl (zt ze) (List.singleton_sublist.2 zM) Cells.nil (Quiet.c (Q.move rfl)) ?_
 refine VA.tk 2 rfl (zt ze) (List.singleton_sublist.2 zM) Cells.nil (Quiet.c (Q.ne rfl rfl)) ?_
 refine VA.tk 3 rfl (zt ze) (List.singleton_sublist.2 zM) Cells.nil (Quiet.c (Q.move rfl)) ?_
 refine VK.case 10 rfl ?_ ?_
 ·
  intro h10
  refine VA.tkY 4 rfl (zt ze) (List.singleton_sublist.2 zM) Cells.nil (Quiet.c (Q.fieldAddr fa68_0 rfl)) ?_
  refine VA.tkY 5 rfl (zt ze) (List.singleton_sublist.2 zM) Cells.nil (Quiet.c (Q.load1 ty65 rfl zM rfl)) ?_
  refine VA.tkY 6 rfl (zt ze) (List.singleton_sublist.2 zM) Cells.nil (Quiet.c (Q.move rfl)) ?_
  refine VA.tkY 7 rfl (zt ze) (List.singleton_sublist.2 zM) Cells.nil (Quiet.c (Q.indexAddr sl65 (j := i) rfl rfl rfl hi)) ?_
  refine VA.tkY 8 rfl (zt ze) (List.singleton_sublist.2 zM) Cells.nil (Quiet.c (Q.fieldAddr fa91_3 rfl)) ?_
  refine VA.tkY 9 rfl (zt ze) (List.singleton_sublist.2 zM) Cells.nil (Quiet.c (Q.load0 (v := .int .i64 (raAt rs i).c) ty3 rfl (Rd.at (j := i * 4 + 3) hro.1 (by have := fm_get raC_len rs i hi 3 (.int .i64 (raAt rs i).c) (by rw [raAt_get hi]; rfl); exact this)) (by simp))) ?_
  refine VA.tkY 10 rfl (zt ze) (List.singleton_sublist.2 zM) Cells.nil (Quiet.c (Q.fieldAddr fa68_0 rfl)) ?_
  refine VA.tkY 11 rfl (zt ze) (List.singleton_sublist.2 zM) Cells.nil (Quiet.c (Q.load1 ty65 rfl zM rfl)) ?_
  refine VA.tkY 12 rfl (zt ze) (List.singleton_sublist.2 zM) Cells.nil (Quiet.c (Q.move rfl)) ?_
  refine VA.tkY 13 rfl (zt ze) (List.singleton_sublist.2 zM) Cells.nil (Quiet.c (Q.indexAddr sl65 (j := j) rfl rfl rfl hj)) ?_
  refine VA.tkY 14 rfl (zt ze) (List.singleton_sublist.2 zM) Cells.nil (Quiet.c (Q.fieldAddr fa91_3 rfl)) ?_
  refine VA.tkY 15 rfl (zt ze) (List.singleton_sublist.2 zM) Cells.nil (Quiet.c (Q.load0 (v := .int .i64 (raAt rs j).c) ty3 rfl (Rd.at (j := j * 4 + 3) hro.1 (by have := fm_get raC_len rs j hj 3 (.int .i64 (raAt rs j).c) (by rw [raAt_get hj]; rfl); exact this)) (by simp))) ?_
  refine VA.tkY 16 rfl (zt ze) (List.singleton_sublist.2 zM) Cells.nil (Quiet.c (Q.eq rfl rfl)) ?_
  refine VA.tk 17 rfl (zt ze) (List.singleton_sublist.2 zM) Cells.nil (Quiet.c (Q.pick_true rfl rfl)) ?_
  refine VA.tk 18 rfl (zt ze) (List.singleton_sublist.2 zM) Cells.nil (Quiet.c (Q.move rfl)) ?_
  refine VK.case 25 rfl ?_ ?_
  ·
   intro h25
   refine VA.tkY 19 rfl (zt ze) (List.singleton_sublist.2 zM) Cells.nil (Quiet.c (Q.loadA ty68 rfl zM zS)) ?_
   refine VA.tkY 20 rfl (zt ze) (List.singleton_sublist.2 zM) Cells.nil (Quiet.c (Q.move rfl)) ?_
   refine VA.tkY 21 rfl (zt ze) (List.singleton_sublist.2 zM) Cells.nil (Quiet.c (Q.move rfl)) ?_
   refine VA.all (rs := [22]) (by kernel_rfl) (by simp) ?_
   refine VA.forall1 ?_
   ·
    refine VA.effY rfl rfl rfl ?_
    refine id (O.call0 ok69 rfl rfl (by decide) (level_c (some ⟨b0, o0, none⟩) cr rs ps cs sh hw i j hi hj) (fun _ ho _ => hro.only0 ho) ?_)
    intro x29 y29
    refine VA.next (List.singleton_sublist.2 zM) Cells.nil ?_
    refine VA.tkY 23 rfl (zt ze) (List.singleton_sublist.2 zM) Cells.nil (Quiet.c (Q.ge rfl rfl)) ?_
    refine VA.tk 24 rfl (zt ze) (List.singleton_sublist.2 zM) Cells.nil (Quiet.c (Q.pick_true rfl rfl)) ?_
    refine VA.tk 25 rfl (zt ze) (List.singleton_sublist.2 zM) Cells.nil (Quiet.c (Q.assign rfl)) ?_
    refine VA.done (by kernel_rfl) ?_
    refine VE.seq ?_
    refine VC.ret ?_
    refine VE.ret rfl (.tmp rfl .nil) () ?_ ?_ (List.nil_sublist _)
    ·
     trivial
    ·
     first | exact congrArg Value.bool (hears_t h10 h25) | exact congrArg Value.bool (hears_f1 h10) | exact congrArg Value.bool (hears_f2 h25)
  ·
   intro h25
   refine VA.tkN 19 (.inl rfl) (zt ze) (List.singleton_sublist.2 zM) Cells.nil ?_
   refine VA.tkN 20 (.inl rfl) (zt ze) (List.singleton_sublist.2 zM) Cells.nil ?_
   refine VA.tkN 21 (.inl rfl) (zt ze) (List.singleton_sublist.2 zM) Cells.nil ?_
   refine VA.tkN 22 (.inl rfl) (zt ze) (List.singleton_sublist.2 zM) Cells.nil ?_
   refine VA.tkN 23 (.inl rfl) (zt ze) (List.singleton_sublist.2 zM) Cells.nil ?_
   refine VA.tk 24 rfl (zt ze) (List.singleton_sublist.2 zM) Cells.nil (Quiet.c (Q.pick_false rfl rfl)) ?_
   refine VA.tk 25 rfl (zt ze) (List.singleton_sublist.2 zM) Cells.nil (Quiet.c (Q.assign rfl)) ?_
   refine VA.done (by kernel_rfl) ?_
   refine VE.seq ?_
   refine VC.ret ?_
   refine VE.ret rfl (.tmp rfl .nil) () ?_ ?_ (List.nil_sublist _)
   ·
    trivial
   ·
    first | exact congrArg Value.bool (hears_t h10 h25) | exact congrArg Value.bool (hears_f1 h10) | exact congrArg Value.bool (hears_f2 h25)
 ·
  intro h10
  refine VA.tkN 4 (.inl rfl) (zt ze) (List.singleton_sublist.2 zM) Cells.nil ?_
  refine VA.tkN 5 (.inl rfl) (zt ze) (List.singleton_sublist.2 zM) Cells.nil ?_
  refine VA.tkN 6 (.inl rfl) (zt ze) (List.singleton_sublist.2 zM) Cells.nil ?_
  refine VA.tkN 7 (.inl rfl) (zt ze) (List.singleton_sublist.2 zM) Cells.nil ?_
  refine VA.tkN 8 (.inl rfl) (zt ze) (List.singleton_sublist.2 zM) Cells.nil ?_
  refine VA.tkN 9 (.inl rfl) (zt ze) (List.singleton_sublist.2 zM) Cells.nil ?_
  refine VA.tkN 10 (.inl rfl) (zt ze) (List.singleton_sublist.2 zM) Cells.nil ?_
  refine VA.tkN 11 (.inl rfl) (zt ze) (List.singleton_sublist.2 zM) Cells.nil ?_
  refine VA.tkN 12 (.inl rfl) (zt ze) (List.singleton_sublist.2 zM) Cells.nil ?_
  refine VA.tkN 13 (.inl rfl) (zt ze) (List.singleton_sublist.2 zM) Cells.nil ?_
  refine VA.tkN 14 (.inl rfl) (zt ze) (List.singleton_sublist.2 zM) Cells.nil ?_
  refine VA.tkN 15 (.inl rfl) (zt ze) (List.singleton_sublist.2 zM) Cells.nil ?_
  refine VA.tkN 16 (.inl rfl) (zt ze) (List.singleton_sublist.2 zM) Cells.nil ?_
  refine VA.tk 17 rfl (zt ze) (List.singleton_sublist.2 zM) Cells.nil (Quiet.c (Q.pick_false rfl rfl)) ?_
  refine VA.tk 18 rfl (zt ze) (List.singleton_sublist.2 zM) Cells.nil (Quiet.c (Q.move rfl)) ?_
  refine VA.tkN 19 (.inl rfl) (zt ze) (List.singleton_sublist.2 zM) Cells.nil ?_
  refine VA.tkN 20 (.inl rfl) (zt ze) (List.singleton_sublist.2 zM) Cells.nil ?_
  refine VA.tkN 21 (.inl rfl) (zt ze) (List.singleton_sublist.2 zM) Cells.nil ?_
  refine VA.tkN 22 (.inl rfl) (zt ze) (List.singleton_sublist.2 zM) Cells.nil ?_
  refine VA.tkN 23 (.inl rfl) (zt ze) (List.singleton_sublist.2 zM) Cells.nil ?_
  refine VA.tk 24 rfl (zt ze) (List.singleton_sublist.2 zM) Cells.nil (Quiet.c (Q.pick_false rfl rfl)) ?_
  refine VA.tk 25 rfl (zt ze) (List.singleton_sublist.2 zM) Cells.nil (Quiet.c (Q.assign rfl)) ?_
  refine VA.done (by kernel_rfl) ?_
  refine VE.seq ?_
  refine VC.ret ?_
  refine VE.ret rfl (.tmp rfl .nil) () ?_ ?_ (List.nil_sublist _)
  ·
   trivial
  ·
   first | exact congrArg Value.bool (hears_t h10 h25) | exact congrArg Value.bool (hears_f1 h10) | exact congrArg Value.bool (hears_f2 h25)

theorem Hears_c (pr : Option Addr) (cr : Nat) (rs : List Ra) (ps : Option Addr) (cs : Nat) (sh : List Row) (hw : AirOk rs (sdOf sh)) (i j : Nat) (hi : i < rs.length) (hj : j < rs.length) :
  Does Tryz.prog 148 [.agg #[.slice pr rs.length cr, .slice ps sh.length cs], .int .i64 (j : Int), .int .i64 (i : Int)] [] (fun W => RdW W pr rs ps sh) (X := Unit) (fun _ => True) (fun _ => .tuple #[.bool (hearsB rs (sdOf sh) j i), .int .i64 0]) (fun _ => []) := by
 refine Does.enter Tryz.func148 rfl (m := 21) rfl (by simp) ?_
 intro W0 hro
 refine VC.seq ?_
 refine VC.region ?_
 refine VL.eff (O.box rfl rfl (by decide) ?_)
 intro g3
 refine VL.q (Q.assign rfl) ?_
 refine VL.q (Q.assign rfl) ?_
 refine VL.nil ?_
 refine VE.seq ?_
 refine VC.seq ?_
 refine VC.seq ?_
 refine VC.region ?_
 refine VL.q (Q.loadA ty68 rfl zM zS) ?_
 refine VL.q (Q.move rfl) ?_
 refine VL.q (Q.move rfl) ?_
 refine VL.eff (O.buildSlice sl78 ze3 (by decide) zF (by decide) ?_)
 intro g12
 refine VL.eff (O.call0 ok68 rfl rfl (by decide) (rasked_c pr cr rs ps cs sh hw (some ⟨g12, 0, none⟩) 2 2 [(i : Int), (j : Int)] rfl (by decide) (by intro z hz; simp only [List.mem_cons, List.not_mem_nil, or_false] at hz; rcases hz with rfl | rfl <;> omega)) (fun _ ho hW => ⟨hro.only0 ho, Rd.own hW zM (fun j u hj => by rw [Nat.zero_add]; exact hj)⟩) ?_)
 intro x13 y13
 refine VL.q (Q.assign rfl) ?_
 refine VL.nil ?_
 refine VE.seq ?_
 refine VC.seq ?_
 refine VC.region ?_
 refine VL.q (Q.move rfl) ?_
 refine VL.quietE (v' := .bool false) (by decide) (Q.ne rfl rfl) (by rfl) ?_
 refine VL.nil ?_
 refine VE.seq ?_
 refine VC.condF rfl ?_
 refine VC.skip ?_
 refine VE.seq ?_
 refine VC.seq ?_
 refine VC.region ?_
 refine VL.q (Q.loadA ty68 rfl zM zS) ?_
 refine VL.q (Q.move rfl) ?_
 refine VL.q (Q.move rfl) ?_
 refine VL.eff (O.call0 ok198 rfl rfl (by decide) (hears_c pr cr rs ps cs sh hw i j hi hj) (fun _ ho _ => hro.only0 ho) ?_)
 intro x20 y20
 refine VL.q (Q.assign rfl) ?_
 refine VL.q (Q.assign rfl) ?_
 refine VL.nil ?_
 refine VE.seq ?_
 refine VC.ret ?_
 refine VE.ret rfl (.tmp rfl (.tmp rfl .nil)) () ?_ ?_ (List.nil_sublist _)
 ·
  trivial
 ·
  first | rfl | (exfalso; simp at *; omega)

theorem symm_c (pr : Option Addr) (cr : Nat) (rs : List Ra) (ps : Option Addr) (cs : Nat) (sh : List Row) (hw : AirOk rs (sdOf sh)) :
  Does Tryz.prog 18 [.agg #[.slice pr rs.length cr, .slice ps sh.length cs]] [] (fun W => RdW W pr rs ps sh) (X := Unit) (fun _ => True) (fun _ => .bool true) (fun _ => []) := by
 have hn0 := hw.n0
 have hn9 := hw.n9
 have hlen := hw.len'
 refine Does.enter Tryz.func18 rfl (m := 37) rfl (by simp) ?_
 intro W0 hro
 refine VC.seq ?_
 refine VC.region ?_
 refine VL.eff (O.box rfl rfl (by decide) ?_)
 intro g1
 refine VL.q (Q.assign rfl) ?_
 refine VL.nil ?_
 refine VE.seq ?_
 refine VC.seq ?_
 refine VC.seq ?_
 refine VC.region ?_
 refine VL.q (Q.loadA ty68 rfl zM zS) ?_
 refine VL.eff (O.call0 ok17 rfl rfl (by decide) (rcheck_c pr cr rs ps cs sh hw) (fun _ ho _ => hro.only0 ho) ?_)
 intro x7 y7
 refine VL.quietE (v' := .bool false) (by decide) (Q.ne rfl rfl) (by rfl) ?_
 refine VL.nil ?_
 refine VE.seq ?_
 refine VC.condF rfl ?_
 refine VC.skip ?_
 refine VE.seq ?_
 refine VC.seq ?_
 refine VC.seq ?_
 refine VC.region ?_
 refine VL.q (Q.fieldAddr fa68_1 rfl) ?_
 refine VL.q (Q.load1 ty66 rfl zM rfl) ?_
 refine VL.q (Q.len sl66 rfl) ?_
 refine VL.q (Q.move rfl) ?_
 refine VL.nil ?_
 refine VE.seq ?_
 refine VC.block ?_
 refine VC.loop (X := Nat) (fun k => [(1, .pointer (some ⟨g1, 0, none⟩)), (10, .slice ps sh.length cs), (11, .int .i64 (sh.length : Int)), (12, .int .i64 (k : Int))]) (fun k => [.blk g1 [.slice pr rs.length cr, .slice ps sh.length cs] 68]) (fun k => k ≤ sh.length) (fun k => sh.length - k) 0 (Nat.zero_le _) ?_ ?_
 ·
  exact VS.mk zE (List.Sublist.refl _)
 ·
  intro k hk
  refine VC.seq ?_
  refine VC.region ?_
  refine VL.q (Q.lt rfl rfl) ?_
  refine VL.nil ?_
  refine VE.seq ?_
  refine VC.seq ?_
  refine VC.cond rfl ?_ ?_
  ·
   intro h13
   have hlt : k < sh.length := by have := of_decide_eq_true h13; omega
   have hrl := hw.row' hlt
   have hrr := hro.2.2 _ (List.getElem_mem hlt)
   obtain ⟨b1, o1, rfl⟩ := hro.2.1.pos (by rw [fm_length rowC_len]; omega)
   obtain ⟨b2, o2, hrp⟩ := hrr.pos (by rw [fm_length intC_len]; omega)
   rw [hrp] at hrr
   refine VC.skip ?_
   refine VE.seq ?_
   refine VC.seq ?_
   refine VC.block ?_
   refine VC.seq ?_
   refine VC.region ?_
   refine VL.q (Q.move rfl) ?_
   refine VL.q (Q.indexAddr sl66 (j := k) rfl rfl rfl hlt) ?_
   refine VL.q (Q.load0 (v := .slice (some ⟨b2, o2, none⟩) sh[k].d.length sh[k].c) ty78 rfl (Rd.at hro.2.1 (fm_at rowC_len sh k hlt _ (by rw [rowC, hrp]))) (by simp)) ?_
   refine VL.q (Q.assign rfl) ?_
   refine VL.q (Q.assign rfl) ?_
   refine VL.nil ?_
   refine VE.seq ?_
   refine VC.seq ?_
   refine VC.region ?_
   refine VL.q (Q.move rfl) ?_
   refine VL.q (Q.len sl78 rfl) ?_
   refine VL.q (Q.move rfl) ?_
   refine VL.nil ?_
   refine VE.seq ?_
   refine VC.block ?_
   refine VC.loop (X := Nat) (fun j => [(1, .pointer (some ⟨g1, 0, none⟩)), (10, .slice (some ⟨b1, o1, none⟩) sh.length cs), (11, .int .i64 (sh.length : Int)), (12, .int .i64 (k : Int)), (3, .int .i64 (k : Int)), (4, .slice (some ⟨b2, o2, none⟩) sh[k].d.length sh[k].c), (18, .int .i64 (sh[k].d.length : Int)), (19, .int .i64 (j : Int))]) (fun j => [.blk g1 [.slice pr rs.length cr, .slice (some ⟨b1, o1, none⟩) sh.length cs] 68]) (fun j => j ≤ sh[k].d.length) (fun j => sh[k].d.length - j) 0 (Nat.zero_le _) ?_ ?_
   ·
    exact VS.mk zE (List.Sublist.refl _)
   ·
    intro j hj
    refine VC.seq ?_
    refine VC.region ?_
    refine VL.q (Q.lt rfl rfl) ?_
    refine VL.nil ?_
    refine VE.seq ?_
    refine VC.seq ?_
    refine VC.cond rfl ?_ ?_
    ·
     intro h20
     have hlj : j < sh[k].d.length := by have := of_decide_eq_true h20; omega
     have hjs : j < sh.length := by omega
     have hrlj := hw.row' hjs
     have hrr2 := hro.2.2 _ (List.getElem_mem hjs)
     obtain ⟨b3, o3, hrp2⟩ := hrr2.pos (by rw [fm_length intC_len]; omega)
     rw [hrp2] at hrr2
     refine VC.skip ?_
     refine VE.seq ?_
     refine VC.seq ?_
     refine VC.block ?_
     refine VC.seq ?_
     refine VC.region ?_
     refine VL.q (Q.move rfl) ?_
     refine VL.q (Q.assign rfl) ?_
     refine VL.nil ?_
     refine VE.seq ?_
     refine VC.seq ?_
     refine VA.start (Ls := [.blk g1 [.slice pr rs.length cr, .slice (some ⟨b1, o1, none⟩) sh.length cs] 68]) (Cs := []) mixed ?_
     refine VA.tk 0 rfl (zt (zb (zttbb (zttb (zt ze))))) (List.singleton_sublist.2 zM) Cells.nil (Quiet.c (Q.move rfl)) ?_
     refine VA.tk 1 rfl (zt (zb (zttbb (zttb (zt ze))))) (List.singleton_sublist.2 zM) Cells.nil (Quiet.c (Q.move rfl)) ?_
     refine VA.tk 2 rfl (zt (zb (zttbb (zttb (zt ze))))) (List.singleton_sublist.2 zM) Cells.nil (Quiet.c (Q.indexAddr sl78 (j := j) rfl rfl rfl hlj)) ?_
     refine VA.tk 3 rfl (zt (zb (zttbb (zttb (zt ze))))) (List.singleton_sublist.2 zM) Cells.nil (Quiet.c (Q.load0 (v := .int .i64 (shAt (sdOf sh) k j)) ty3 rfl (Rd.at hrr (fm_at intC_len sh[k].d j (by omega) _ (by rw [shAt_get hlt (by omega)]; rfl))) (by simp))) ?_
     refine VA.tk 4 rfl (zt (zb (zttbb (zttb (zt ze))))) (List.singleton_sublist.2 zM) Cells.nil (Quiet.c (Q.fieldAddr fa68_1 rfl)) ?_
     refine VA.tk 5 rfl (zt (zb (zttbb (zttb (zt ze))))) (List.singleton_sublist.2 zM) Cells.nil (Quiet.c (Q.load1 ty66 rfl zM rfl)) ?_
     refine VA.tk 6 rfl (zt (zb (zttbb (zttb (zt ze))))) (List.singleton_sublist.2 zM) Cells.nil (Quiet.c (Q.move rfl)) ?_
     refine VA.tk 7 rfl (zt (zb (zttbb (zttb (zt ze))))) (List.singleton_sublist.2 zM) Cells.nil (Quiet.c (Q.indexAddr sl66 (j := j) rfl rfl rfl hjs)) ?_
     refine VA.tk 8 rfl (zt (zb (zttbb (zttb (zt ze))))) (List.singleton_sublist.2 zM) Cells.nil (Quiet.c (Q.load0 (v := .slice (some ⟨b3, o3, none⟩) sh[j].d.length sh[j].c) ty78 rfl (Rd.at hro.2.1 (fm_at rowC_len sh j hjs _ (by rw [rowC, hrp2]))) (by simp))) ?_
     refine VA.tk 9 rfl (zt (zb (zttbb (zttb (zt ze))))) (List.singleton_sublist.2 zM) Cells.nil (Quiet.c (Q.move rfl)) ?_
     refine VA.tk 10 rfl (zt (zb (zttbb (zttb (zt ze))))) (List.singleton_sublist.2 zM) Cells.nil (Quiet.c (Q.indexAddr sl78 (j := k) rfl rfl rfl (by omega))) ?_
     refine VA.tk 11 rfl (zt (zb (zttbb (zttb (zt ze))))) (List.singleton_sublist.2 zM) Cells.nil (Quiet.c (Q.load0 (v := .int .i64 (shAt (sdOf sh) j k)) ty3 rfl (Rd.at hrr2 (fm_at intC_len sh[j].d k (by omega) _ (by rw [shAt_get hjs (by omega)]; rfl))) (by simp))) ?_
     refine VA.tk 12 rfl (zt (zb (zttbb (zttb (zt ze))))) (List.singleton_sublist.2 zM) Cells.nil (Quiet.c (Quiet.to (v' := .bool false) (Q.ne rfl rfl) (congrArg Value.bool (by rw [hw.sym j k]; simp)))) ?_
     refine VA.done (by kernel_rfl) ?_
     refine VE.seq ?_
     refine VC.condF rfl ?_
     refine VC.skip ?_
     refine VE.block_normal ?_
     refine VE.seq ?_
     refine VC.region ?_
     refine VL.q ((by first | exact Q.addI rfl rfl (by omega) (by omega) | exact Q.add rfl rfl)) ?_
     refine VL.q (Q.move rfl) ?_
     refine VL.nil ?_
     refine VE.then_normal ?_
     exact VE.round (j + 1) (by omega) (by omega) zE (List.Sublist.refl _)
    ·
     intro h20
     refine VC.exit ?_
     refine VE.then_exit ?_
     refine VE.then_exit ?_
     refine VE.block_here ?_
     refine VE.block_normal ?_
     refine VE.seq ?_
     refine VC.region ?_
     refine VL.q ((by first | exact Q.addI rfl rfl (by omega) (by omega) | exact Q.add rfl rfl)) ?_
     refine VL.q (Q.move rfl) ?_
     refine VL.nil ?_
     refine VE.then_normal ?_
     exact VE.round (k + 1) (by omega) (by omega) zE (List.Sublist.refl _)
  ·
   intro h13
   refine VC.exit ?_
   refine VE.then_exit ?_
   refine VE.then_exit ?_
   refine VE.block_here ?_
   refine VE.seq ?_
   refine VC.seq ?_
   refine VC.region ?_
   refine VL.q (Q.assign rfl) ?_
   refine VL.nil ?_
   refine VE.seq ?_
   refine VC.ret ?_
   refine VE.ret rfl (.tmp rfl .nil) () ?_ ?_ (List.nil_sublist _)
   ·
    trivial
   ·
    first | rfl | (exfalso; simp at *; omega)

theorem tune1_c (g o gc : Nat) (C C' : List Value) (ch : Int) (hp : Put C (o + 3) [.int .i64 ch] C') (hne : gc ≠ g) :
  Does Tryz.prog 62 [.pointer (some ⟨g, o, none⟩), .pointer (some ⟨gc, 0, none⟩)] [.blk g C 91] (fun W => W.cell? ⟨gc, 0, none⟩ = some (.int .i64 ch)) (X := Unit) (fun _ => True) (fun _ => .tuple #[]) (fun _ => [.blk g C' 91]) := by
 refine Does.enter Tryz.func62 rfl (m := 7) rfl (by simp) ?_
 intro W0 hro
 refine VC.region ?_
 refine VL.q (Q.move rfl) ?_
 refine VL.q (Q.load0 (v := .int .i64 ch) ty3 rfl hro (by simpa [Rs.ids] using hne)) ?_
 refine VL.q (Q.nilCheck rfl) ?_
 refine VL.q (Q.fieldAddr fa91_3 rfl) ?_
 refine VL.eff (O.store ty3 rfl rfl rfl rfl zU hp ?_)
 refine VL.nil ?_
 exact VE.end rfl (.nil) () trivial rfl zB

theorem changed_c (pr : Option Addr) (cr : Nat) (rs : List Ra) (ps : Option Addr) (cs : Nat) (sh : List Row) (hw : AirOk rs (sdOf sh)) (i : Nat) (hi : i < rs.length) (ch : Int) (hch : 1 ≤ ch ∧ ch ≤ 64) (gc : Nat) :
  Does Tryz.prog 61 [.agg #[.slice pr rs.length cr, .slice ps sh.length cs], .int .i64 (i : Int), .func (.func 62) #[] #[.pointer (some ⟨gc, 0, none⟩)]] [] (fun W => RdW W pr rs ps sh ∧ W.cell? ⟨gc, 0, none⟩ = some (.int .i64 ch)) (X := Wx) (fun x => sdOf x.sh = sdOf sh) (fun x => .tuple #[.agg #[.slice x.pr (tuneR rs i ch).length x.cr, .slice x.ps x.sh.length x.cs], .int .i64 0]) (fun x => [.frz x.ids (fun W => RdW W x.pr (tuneR rs i ch) x.ps x.sh)]) := by
 have hn0 := hw.n0
 have hn9 := hw.n9
 have hlen := hw.len'
 have hwt := hw.tune i hi ch hch
 refine Does.enter Tryz.func61 rfl (m := 54) rfl (by simp) ?_
 intro W0 hro
 refine VC.seq ?_
 refine VC.region ?_
 refine VL.eff (O.box rfl rfl (by decide) ?_)
 intro g3
 refine VL.eff (O.alloc zo68 (by decide) ?_)
 intro g6
 refine VL.q (Q.assign rfl) ?_
 refine VL.nil ?_
 refine VE.seq ?_
 refine VC.seq ?_
 refine VC.seq ?_
 refine VC.region ?_
 refine VL.q (Q.loadA ty68 rfl zM zS) ?_
 refine VL.q (Q.move rfl) ?_
 refine VL.eff (O.buildSlice sl78 ze3 (by decide) zF (by decide) ?_)
 intro g14
 refine VL.eff (O.call0 ok68 rfl rfl (by decide) (rasked_c pr cr rs ps cs sh hw (some ⟨g14, 0, none⟩) 1 1 [(i : Int)] rfl (by decide) (by intro z hz; simp only [List.mem_cons, List.not_mem_nil, or_false] at hz; subst hz; omega)) (fun _ ho hW => ⟨hro.1.only0 ho, Rd.own hW zM (fun j u hj => by rw [Nat.zero_add]; exact hj)⟩) ?_)
 intro x15 y15
 refine VL.q (Q.assign rfl) ?_
 refine VL.nil ?_
 refine VE.seq ?_
 refine VC.seq ?_
 refine VC.region ?_
 refine VL.q (Q.move rfl) ?_
 refine VL.quietE (v' := .bool false) (by decide) (Q.ne rfl rfl) (by rfl) ?_
 refine VL.nil ?_
 refine VE.seq ?_
 refine VC.condF rfl ?_
 refine VC.skip ?_
 refine VE.seq ?_
 refine VC.seq ?_
 refine VC.region ?_
 refine VL.q (Q.fieldAddr fa68_0 rfl) ?_
 refine VL.q (Q.load1 ty65 rfl zM rfl) ?_
 refine VL.eff (O.call0 ok138 rfl rfl (by decide) (clone_radio pr rs.length cr (rs.flatMap raC) (fm_length raC_len rs) (fm_one (fun _ => rfl) rs) (by omega)) (fun _ ho _ => hro.1.1.only0 ho) ?_)
 rintro ⟨p22, c22⟩ y22
 refine VK.rowHead (m := rs.length) zM (by omega) ?_
 intro gr hgr _ _
 dsimp only at hgr
 subst hgr
 refine VL.q (Q.build lay68 zF) ?_
 refine VL.eff (O.alloc zo68 (by decide) ?_)
 intro g9
 refine VL.eff (O.store ty68 rfl rfl rfl rfl zU zP ?_)
 refine VL.nil ?_
 refine VE.seq ?_
 refine VC.seq ?_
 refine VC.seq ?_
 refine VC.region ?_
 refine VL.q (Q.fieldAddr fa68_1 rfl) ?_
 refine VL.q (Q.load1 ty66 rfl zM rfl) ?_
 refine VL.q (Q.len sl66 rfl) ?_
 refine VL.q (Q.move rfl) ?_
 refine VL.nil ?_
 refine VE.seq ?_
 refine VC.block ?_
 refine VK.addNil 78 1 ?_
 refine VK.frzNil (RdRows []) (fun _ _ hr => by cases hr) ?_
 intro ids0
 refine VK.picks (Lin := [.blk g9 [.slice (some ⟨gr, 0, none⟩) rs.length c22, .slice none 0 0] 68, .row (.slice none 0 0) 78 1 0 (([] : List Row).flatMap rowC), .frz ids0 (RdRows ([] : List Row)), .row (.slice (some ⟨gr, 0, none⟩) rs.length c22) 91 4 rs.length (rs.flatMap raC), .blk g6 [.slice none 0 0, .slice none 0 0] 68]) zM2 ?_
 refine VC.loop (X := Cx) (fun x => [(1, .int .i64 (i : Int)), (2, .func (.func 62) #[] #[.pointer (some ⟨gc, 0, none⟩)]), (6, .pointer (some ⟨g6, 0, none⟩)), (9, .pointer (some ⟨g9, 0, none⟩)), (25, .slice ps sh.length cs), (26, .int .i64 (sh.length : Int)), (27, .int .i64 (x.k : Int))]) (fun x => [.blk g9 [.slice (some ⟨gr, 0, none⟩) rs.length c22, .slice x.p x.k x.c] 68, .row (.slice x.p x.k x.c) 78 1 x.k (x.rows.flatMap rowC), .frz x.ids (RdRows x.rows), .row (.slice (some ⟨gr, 0, none⟩) rs.length c22) 91 4 rs.length (rs.flatMap raC), .blk g6 [.slice none 0 0, .slice none 0 0] 68]) (fun x => x.k ≤ sh.length ∧ x.rows.length = x.k ∧ sdOf x.rows = (sdOf sh).take x.k) (fun x => sh.length - x.k) ⟨0, none, 0, [], ids0⟩ ⟨Nat.zero_le _, rfl, rfl⟩ ?_ ?_
 ·
  exact VS.mk zE (List.Sublist.refl _)
 ·
  rintro x ⟨hk, hrl, hsd⟩
  refine VC.seq ?_
  refine VC.region ?_
  refine VL.q (Q.lt rfl rfl) ?_
  refine VL.nil ?_
  refine VE.seq ?_
  refine VC.seq ?_
  refine VC.cond rfl ?_ ?_
  ·
   intro h28
   have hlt : x.k < sh.length := by have := of_decide_eq_true h28; omega
   have hrl2 := hw.row' hlt
   have hrr := hro.1.2.2 _ (List.getElem_mem hlt)
   obtain ⟨b1, o1, rfl⟩ := hro.1.2.1.pos (by rw [fm_length rowC_len]; omega)
   obtain ⟨b2, o2, hrp⟩ := hrr.pos (by rw [fm_length intC_len]; omega)
   rw [hrp] at hrr
   refine VC.skip ?_
   refine VE.seq ?_
   refine VC.seq ?_
   refine VC.block ?_
   refine VC.seq ?_
   refine VC.region ?_
   refine VL.q (Q.indexAddr sl66 (j := x.k) rfl rfl rfl hlt) ?_
   refine VL.q (Q.load0 (v := .slice (some ⟨b2, o2, none⟩) sh[x.k].d.length sh[x.k].c) ty78 rfl (Rd.at hro.1.2.1 (fm_at rowC_len sh x.k hlt _ (by rw [rowC, hrp]))) (by simp)) ?_
   refine VL.q (Q.assign rfl) ?_
   refine VL.nil ?_
   refine VE.seq ?_
   refine VA.start (Ls := []) (Cs := []) mixed ?_
   refine VA.tk 0 rfl (zb (zttb (zt ze))) (List.nil_sublist _) Cells.nil (Quiet.c (Q.fieldAddr fa68_1 rfl)) ?_
   refine VA.tk 2 rfl (zb (zttb (zt ze))) (List.nil_sublist _) Cells.nil (Quiet.c (Q.move rfl)) ?_
   refine VA.all (rs := [1, 3]) (by kernel_rfl) (by simp) ?_
   refine VA.forall2 ?_ ?_
   ·
    refine VA.eff rfl ?_
    refine O.quiet (by decide) (Q.load1 ty66 rfl zM rfl) ?_
    refine VA.next (List.nil_sublist _) Cells.nil ?_
    refine VA.all (rs := [3]) (by kernel_rfl) (by simp) ?_
    refine VA.forall1 ?_
    ·
     refine VA.eff rfl ?_
     refine id (O.call0 ok139 rfl rfl (by decide) (clone_int (some ⟨b2, o2, none⟩) sh[x.k].d.length sh[x.k].c (sh[x.k].d.flatMap intC) (fm_length intC_len _) (ints_one _) (by omega)) (fun _ ho _ => hrr.only0 ho) ?_)
     rintro ⟨q34, d34⟩ y34
     refine VA.next (List.nil_sublist _) Cells.nil ?_
     refine VA.all (rs := [4]) (by kernel_rfl) (by simp) ?_
     refine VA.forall1 ?_
     ·
      refine VA.eff rfl ?_
      refine id (O.buildSlice sl66 ze78 (by decide) zF (by decide) ?_)
      intro g35
      refine VA.next (List.nil_sublist _) Cells.nil ?_
      refine VA.all (rs := [5]) (by kernel_rfl) (by simp) ?_
      refine VA.forall1 ?_
      ·
       refine VA.eff rfl ?_
       refine id (O.appendS sl66 ze78 rfl (by decide) rfl rfl zM zS rfl (by decide) (by unfold maxLen; omega) (by omega) zA ?_)
       intro p36 c36 hc36
       rw [show x.rows.flatMap rowC ++ [.slice q34 sh[x.k].d.length d34] = (x.rows ++ [(⟨q34, d34, sh[x.k].d⟩ : Row)]).flatMap rowC from (fm_snoc (f := rowC) x.rows (⟨q34, d34, sh[x.k].d⟩ : Row)).symm]
       refine VA.next (List.nil_sublist _) Cells.nil ?_
       refine VA.tk 6 rfl (zb (zttb (zt ze))) (List.nil_sublist _) Cells.nil (Quiet.c (Q.fieldAddr fa68_1 rfl)) ?_
       refine VA.all (rs := [7]) (by kernel_rfl) (by simp) ?_
       refine VA.forall1 ?_
       ·
        refine VA.eff rfl ?_
        refine id (O.store ty66 rfl rfl rfl rfl zU zP ?_)
        refine VA.next (List.nil_sublist _) Cells.nil ?_
        refine VA.done (by kernel_rfl) ?_
        refine VE.block_normal ?_
        refine VE.seq ?_
        refine VC.region ?_
        refine VL.q ((by first | exact Q.addI rfl rfl (by omega) (by omega) | exact Q.add rfl rfl)) ?_
        refine VL.q (Q.move rfl) ?_
        refine VL.nil ?_
        refine VE.then_normal ?_
        refine VK.freeze (A := [.frz x.ids (RdRows x.rows), .row (.slice q34 sh[x.k].d.length d34) 3 1 sh[x.k].d.length (sh[x.k].d.flatMap intC)]) (RdRows (x.rows ++ [(⟨q34, d34, sh[x.k].d⟩ : Row)])) zM2 (fun W hW => rows_snoc (r := (⟨q34, d34, sh[x.k].d⟩ : Row)) (e := 3) hW (.head _) (.tail _ (.head _))) ?_
        intro ids1
        refine VK.picks (Lin := [.blk g9 [.slice (some ⟨gr, 0, none⟩) rs.length c22, .slice p36 (x.k + 1) c36] 68, .row (.slice p36 (x.k + 1) c36) 78 1 (x.k + 1) ((x.rows ++ [(⟨q34, d34, sh[x.k].d⟩ : Row)]).flatMap rowC), .frz ids1 (RdRows (x.rows ++ [(⟨q34, d34, sh[x.k].d⟩ : Row)])), .row (.slice (some ⟨gr, 0, none⟩) rs.length c22) 91 4 rs.length (rs.flatMap raC), .blk g6 [.slice none 0 0, .slice none 0 0] 68]) zM2 ?_
        refine VE.round (⟨x.k + 1, p36, c36, x.rows ++ [(⟨q34, d34, sh[x.k].d⟩ : Row)], ids1⟩ : Cx) ?_ ?_ ?_ (List.Sublist.refl _)
        ·
         exact ⟨hlt, by show (x.rows ++ [_]).length = x.k + 1; rw [List.length_append, hrl]; rfl, sd_snoc hsd hlt rfl⟩
        ·
         show sh.length - (x.k + 1) < sh.length - x.k
         omega
        ·
         exact zE
   ·
    refine VA.eff rfl ?_
    refine id (O.call0 ok139 rfl rfl (by decide) (clone_int (some ⟨b2, o2, none⟩) sh[x.k].d.length sh[x.k].c (sh[x.k].d.flatMap intC) (fm_length intC_len _) (ints_one _) (by omega)) (fun _ ho _ => hrr.only0 ho) ?_)
    rintro ⟨q34, d34⟩ y34
    refine VA.next (List.nil_sublist _) Cells.nil ?_
    refine VA.all (rs := [1, 4]) (by kernel_rfl) (by simp) ?_
    refine VA.forall2 ?_ ?_
    ·
     refine VA.eff rfl ?_
     refine O.quiet (by decide) (Q.load1 ty66 rfl zM rfl) ?_
     refine VA.next (List.nil_sublist _) Cells.nil ?_
     refine VA.all (rs := [4]) (by kernel_rfl) (by simp) ?_
     refine VA.forall1 ?_
     ·
      refine VA.eff rfl ?_
      refine id (O.buildSlice sl66 ze78 (by decide) zF (by decide) ?_)
      intro g35_1
      refine VA.next (List.nil_sublist _) Cells.nil ?_
      refine VA.all (rs := [5]) (by kernel_rfl) (by simp) ?_
      refine VA.forall1 ?_
      ·
       refine VA.eff rfl ?_
       refine id (O.appendS sl66 ze78 rfl (by decide) rfl rfl zM zS rfl (by decide) (by unfold maxLen; omega) (by omega) zA ?_)
       intro p36 c36 hc36
       rw [show x.rows.flatMap rowC ++ [.slice q34 sh[x.k].d.length d34] = (x.rows ++ [(⟨q34, d34, sh[x.k].d⟩ : Row)]).flatMap rowC from (fm_snoc (f := rowC) x.rows (⟨q34, d34, sh[x.k].d⟩ : Row)).symm]
       refine VA.next (List.nil_sublist _) Cells.nil ?_
       refine VA.tk 6 rfl (zb (zttb (zt ze))) (List.nil_sublist _) Cells.nil (Quiet.c (Q.fieldAddr fa68_1 rfl)) ?_
       refine VA.all (rs := [7]) (by kernel_rfl) (by simp) ?_
       refine VA.forall1 ?_
       ·
        refine VA.eff rfl ?_
        refine id (O.store ty66 rfl rfl rfl rfl zU zP ?_)
        refine VA.next (List.nil_sublist _) Cells.nil ?_
        refine VA.done (by kernel_rfl) ?_
        refine VE.block_normal ?_
        refine VE.seq ?_
        refine VC.region ?_
        refine VL.q ((by first | exact Q.addI rfl rfl (by omega) (by omega) | exact Q.add rfl rfl)) ?_
        refine VL.q (Q.move rfl) ?_
        refine VL.nil ?_
        refine VE.then_normal ?_
        refine VK.freeze (A := [.frz x.ids (RdRows x.rows), .row (.slice q34 sh[x.k].d.length d34) 3 1 sh[x.k].d.length (sh[x.k].d.flatMap intC)]) (RdRows (x.rows ++ [(⟨q34, d34, sh[x.k].d⟩ : Row)])) zM2 (fun W hW => rows_snoc (r := (⟨q34, d34, sh[x.k].d⟩ : Row)) (e := 3) hW (.head _) (.tail _ (.head _))) ?_
        intro ids1
        refine VK.picks (Lin := [.blk g9 [.slice (some ⟨gr, 0, none⟩) rs.length c22, .slice p36 (x.k + 1) c36] 68, .row (.slice p36 (x.k + 1) c36) 78 1 (x.k + 1) ((x.rows ++ [(⟨q34, d34, sh[x.k].d⟩ : Row)]).flatMap rowC), .frz ids1 (RdRows (x.rows ++ [(⟨q34, d34, sh[x.k].d⟩ : Row)])), .row (.slice (some ⟨gr, 0, none⟩) rs.length c22) 91 4 rs.length (rs.flatMap raC), .blk g6 [.slice none 0 0, .slice none 0 0] 68]) zM2 ?_
        refine VE.round (⟨x.k + 1, p36, c36, x.rows ++ [(⟨q34, d34, sh[x.k].d⟩ : Row)], ids1⟩ : Cx) ?_ ?_ ?_ (List.Sublist.refl _)
        ·
         exact ⟨hlt, by show (x.rows ++ [_]).length = x.k + 1; rw [List.length_append, hrl]; rfl, sd_snoc hsd hlt rfl⟩
        ·
         show sh.length - (x.k + 1) < sh.length - x.k
         omega
        ·
         exact zE
    ·
     refine VA.eff rfl ?_
     refine id (O.buildSlice sl66 ze78 (by decide) zF (by decide) ?_)
     intro g35_2
     refine VA.next (List.nil_sublist _) Cells.nil ?_
     refine VA.all (rs := [1]) (by kernel_rfl) (by simp) ?_
     refine VA.forall1 ?_
     ·
      refine VA.eff rfl ?_
      refine O.quiet (by decide) (Q.load1 ty66 rfl zM rfl) ?_
      refine VA.next (List.nil_sublist _) Cells.nil ?_
      refine VA.all (rs := [5]) (by kernel_rfl) (by simp) ?_
      refine VA.forall1 ?_
      ·
       refine VA.eff rfl ?_
       refine id (O.appendS sl66 ze78 rfl (by decide) rfl rfl zM zS rfl (by decide) (by unfold maxLen; omega) (by omega) zA ?_)
       intro p36 c36 hc36
       rw [show x.rows.flatMap rowC ++ [.slice q34 sh[x.k].d.length d34] = (x.rows ++ [(⟨q34, d34, sh[x.k].d⟩ : Row)]).flatMap rowC from (fm_snoc (f := rowC) x.rows (⟨q34, d34, sh[x.k].d⟩ : Row)).symm]
       refine VA.next (List.nil_sublist _) Cells.nil ?_
       refine VA.tk 6 rfl (zb (zttb (zt ze))) (List.nil_sublist _) Cells.nil (Quiet.c (Q.fieldAddr fa68_1 rfl)) ?_
       refine VA.all (rs := [7]) (by kernel_rfl) (by simp) ?_
       refine VA.forall1 ?_
       ·
        refine VA.eff rfl ?_
        refine id (O.store ty66 rfl rfl rfl rfl zU zP ?_)
        refine VA.next (List.nil_sublist _) Cells.nil ?_
        refine VA.done (by kernel_rfl) ?_
        refine VE.block_normal ?_
        refine VE.seq ?_
        refine VC.region ?_
        refine VL.q ((by first | exact Q.addI rfl rfl (by omega) (by omega) | exact Q.add rfl rfl)) ?_
        refine VL.q (Q.move rfl) ?_
        refine VL.nil ?_
        refine VE.then_normal ?_
        refine VK.freeze (A := [.frz x.ids (RdRows x.rows), .row (.slice q34 sh[x.k].d.length d34) 3 1 sh[x.k].d.length (sh[x.k].d.flatMap intC)]) (RdRows (x.rows ++ [(⟨q34, d34, sh[x.k].d⟩ : Row)])) zM2 (fun W hW => rows_snoc (r := (⟨q34, d34, sh[x.k].d⟩ : Row)) (e := 3) hW (.head _) (.tail _ (.head _))) ?_
        intro ids1
        refine VK.picks (Lin := [.blk g9 [.slice (some ⟨gr, 0, none⟩) rs.length c22, .slice p36 (x.k + 1) c36] 68, .row (.slice p36 (x.k + 1) c36) 78 1 (x.k + 1) ((x.rows ++ [(⟨q34, d34, sh[x.k].d⟩ : Row)]).flatMap rowC), .frz ids1 (RdRows (x.rows ++ [(⟨q34, d34, sh[x.k].d⟩ : Row)])), .row (.slice (some ⟨gr, 0, none⟩) rs.length c22) 91 4 rs.length (rs.flatMap raC), .blk g6 [.slice none 0 0, .slice none 0 0] 68]) zM2 ?_
        refine VE.round (⟨x.k + 1, p36, c36, x.rows ++ [(⟨q34, d34, sh[x.k].d⟩ : Row)], ids1⟩ : Cx) ?_ ?_ ?_ (List.Sublist.refl _)
        ·
         exact ⟨hlt, by show (x.rows ++ [_]).length = x.k + 1; rw [List.length_append, hrl]; rfl, sd_snoc hsd hlt rfl⟩
        ·
         show sh.length - (x.k + 1) < sh.length - x.k
         omega
        ·
         exact zE
  ·
   intro h28
   have hke : x.k = sh.length := by have := of_decide_eq_false h28; omega
   obtain ⟨k, qp, qc, rows, ids⟩ := x
   obtain rfl : k = sh.length := hke
   dsimp only at hrl hsd
   dsimp only
   rw [List.take_of_length_le (by simp)] at hsd
   refine VC.exit ?_
   refine VE.then_exit ?_
   refine VE.then_exit ?_
   refine VE.block_here ?_
   refine VE.seq ?_
   refine VC.seq ?_
   refine VC.seq ?_
   refine VC.region ?_
   refine VL.q (Q.move rfl) ?_
   refine VL.q (Q.fieldAddr fa68_0 rfl) ?_
   refine VL.q (Q.load1 ty65 rfl zM rfl) ?_
   refine VL.q (Q.move rfl) ?_
   refine VL.q (Q.indexAddr sl65 (j := i) rfl rfl rfl hi) ?_
   refine VK.freshR (r := .row (.slice (some ⟨gr, 0, none⟩) rs.length c22) 91 4 rs.length (rs.flatMap raC)) zM ?_
   intro hfr
   have hne : gc ≠ gr := by
    have h1 := hfr gr (by simp [Rs.ids, Value.ownBlock])
    have h2 := cell_lt hro.2
    rcases h1 with h1 | h1
    ·
     cases h1
    ·
     dsimp only at h2; omega
   refine VK.openAt (g := gr) (m := rs.length) (c := c22) (s := 4) (xs := rs.flatMap raC) zA ?_
   intro D hD hxl hcc hcx
   refine VL.eff (O.callP (first := []) ok62 rfl rfl (by decide) (tune1_c gr (0 + i * 4) gc (rs.flatMap raC ++ D) ((tuneR rs i ch).flatMap raC ++ D) ch (by rw [Nat.zero_add]; exact (fm_putsub raC_len rs i hi _ (o := 3) (ys := [.int .i64 ch]) (by rw [raAt_get hi]; exact .skip (.skip (.skip (.here .nil))))).app) hne) zM2 (fun _ ho _ => only_cell ho hro.2 (by simp)) ?_)
   intro x44 y44
   refine VK.toRow (g := gr) (s := 4) (m := rs.length) (c := c22) zU (by rw [List.length_append, fm_length raC_len, tuneR_len]; omega) hcc hcx ?_
   rw [show ((tuneR rs i ch).flatMap raC ++ D).take (rs.length * 4) = (tuneR rs i ch).flatMap raC from List.take_left' (by rw [fm_length raC_len, tuneR_len])]
   refine VL.nil ?_
   refine VE.seq ?_
   refine VC.seq ?_
   refine VC.region ?_
   refine VL.q (Q.fieldAddr fa68_0 rfl) ?_
   refine VL.q (Q.load1 ty65 rfl zM rfl) ?_
   refine VL.q (Q.move rfl) ?_
   refine VL.q (Q.indexAddr sl65 (j := i) rfl rfl rfl hi) ?_
   refine VL.q (Q.loadRowA ty91 rfl zM (by rw [Nat.zero_add]; exact fm_seg raC_len (tuneR rs i ch) i (by rw [tuneR_len]; exact hi))) ?_
   refine VL.eff (O.call0 ok58 rfl rfl (by decide) (rvalid_c ((tuneR rs i ch)[i]'(by rw [tuneR_len]; exact hi)) (hwt.ra _ (List.getElem_mem _))) (fun _ _ _ => trivial) ?_)
   intro x50 y50
   refine VL.quietE (v' := .bool false) (by decide) (Q.not rfl) (by rfl) ?_
   refine VL.nil ?_
   refine VE.seq ?_
   refine VC.condF rfl ?_
   refine VC.skip ?_
   refine VE.seq ?_
   refine VC.seq ?_
   refine VC.region ?_
   refine VL.q (Q.loadA ty68 rfl zM zS) ?_
   refine VL.eff (O.store ty68 rfl rfl rfl rfl zU zP ?_)
   refine VL.q (Q.assign rfl) ?_
   refine VL.nil ?_
   refine VE.seq ?_
   refine VC.ret ?_
   refine VK.freeze (A := [.row (.slice (some ⟨gr, 0, none⟩) rs.length c22) 91 4 rs.length ((tuneR rs i ch).flatMap raC), .row (.slice qp sh.length qc) 78 1 sh.length (rows.flatMap rowC), .frz ids (RdRows rows)]) (fun W => RdW W (some ⟨gr, 0, none⟩) (tuneR rs i ch) qp rows) zM2 (fun W hW => ⟨Rd.row hW (.head _), Rd.row hW (.tail _ (.head _)), Rd.frz hW (.tail _ (.tail _ (.head _)))⟩) ?_
   intro ids2
   exact VE.ret rfl (.cell ty68 rfl zM rfl (.tmp rfl .nil)) ⟨some ⟨gr, 0, none⟩, c22, qp, qc, rows, ids2⟩ hsd (by show _ = Value.tuple _; rw [tuneR_len, hrl]; rfl) zB

theorem tune_c (pr : Option Addr) (cr : Nat) (rs : List Ra) (ps : Option Addr) (cs : Nat) (sh : List Row) (hw : AirOk rs (sdOf sh)) (i : Nat) (hi : i < rs.length) (ch : Int) (hch : 1 ≤ ch ∧ ch ≤ 64) :
  Does Tryz.prog 19 [.agg #[.slice pr rs.length cr, .slice ps sh.length cs], .int .i64 (i : Int), .int .i64 ch] [] (fun W => RdW W pr rs ps sh) (X := Wx) (fun x => sdOf x.sh = sdOf sh) (fun x => .tuple #[.agg #[.slice x.pr (tuneR rs i ch).length x.cr, .slice x.ps x.sh.length x.cs], .int .i64 0]) (fun x => [.frz x.ids (fun W => RdW W x.pr (tuneR rs i ch) x.ps x.sh)]) := by
 refine Does.enter Tryz.func19 rfl (m := 14) rfl (by simp) ?_
 intro W0 hro
 refine VC.seq ?_
 refine VC.region ?_
 refine VL.eff (O.box rfl rfl (by decide) ?_)
 intro g3
 refine VL.eff (O.box rfl rfl (by decide) ?_)
 intro g5
 refine VL.eff (O.alloc zo68 (by decide) ?_)
 intro g6
 refine VL.q (Q.assign rfl) ?_
 refine VL.nil ?_
 refine VE.seq ?_
 refine VC.seq ?_
 refine VC.region ?_
 refine VL.q (Q.loadA ty68 rfl zM zS) ?_
 refine VL.q (Q.move rfl) ?_
 refine VL.q (Q.makeFunc rfl rfl) ?_
 refine VL.eff (O.call0 ok61 rfl rfl (by decide) (changed_c pr cr rs ps cs sh hw i hi ch hch g5) (fun _ ho hW => ⟨hro.only0 ho, by rw [own_cell hW zM]; rfl⟩) ?_)
 intro x11 y11
 refine VL.q (Q.extract rfl rfl) ?_
 refine VL.q (Q.extract rfl rfl) ?_
 refine VL.eff (O.store ty68 rfl rfl rfl rfl zU zP ?_)
 refine VL.q (Q.assign rfl) ?_
 refine VL.nil ?_
 refine VE.seq ?_
 refine VC.ret ?_
 exact VE.ret rfl (.cell ty68 rfl zM rfl (.tmp rfl .nil)) x11 y11 rfl zB

end Go.Proofs.YtencghlmckbmlaaGreat
