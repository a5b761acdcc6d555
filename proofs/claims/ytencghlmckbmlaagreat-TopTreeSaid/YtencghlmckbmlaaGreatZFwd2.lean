/- The contracts of package forward: SetNext, remember, CheckFrame. Conditions: those that each bears. -/
import Derived.Test.YtencghlmckbmlaaGreatRows
import Derived.Test.YtencghlmckbmlaaGreatZFwd
namespace Go.Proofs.YtencghlmckbmlaaGreat
open Go Go.RowKit Go.Sx
set_option maxRecDepth 100000

theorem fa156_0 : tyField Tryz.prog 156 0 = some 0 := by kernel_rfl
theorem fa156_1 : tyField Tryz.prog 156 1 = some 6 := by kernel_rfl
theorem fa156_2 : tyField Tryz.prog 156 2 = some 12 := by kernel_rfl
theorem fa156_3 : tyField Tryz.prog 156 3 = some 18 := by kernel_rfl
theorem fa156_6 : tyField Tryz.prog 156 6 = some 36 := by kernel_rfl
theorem fa156_7 : tyField Tryz.prog 156 7 = some 37 := by kernel_rfl
theorem fa156_8 : tyField Tryz.prog 156 8 = some 38 := by kernel_rfl
theorem lay252 : laysOf Tryz.prog 252 = some ([.int .u8 0, .int .u8 0, .int .u8 0, .int .u8 0, .int .u8 0, .int .u8 0, .int .u8 0, .int .u8 0, .int .u8 0, .int .u8 0, .int .u8 0, .int .u8 0], [(0, 6), (6, 6)]) := by kernel_rfl
theorem lay258 : laysOf Tryz.prog 258 = some ([.int .u8 0, .int .u8 0, .int .u8 0, .int .u8 0, .int .u8 0, .int .u8 0, .int .i64 0], [(0, 6), (6, 1)]) := by kernel_rfl
theorem ok117 : okFunc Tryz.prog 117 = true := by kernel_rfl
theorem ok118 : okFunc Tryz.prog 118 = true := by kernel_rfl
theorem ok120 : okFunc Tryz.prog 120 = true := by kernel_rfl
theorem ok121 : okFunc Tryz.prog 121 = true := by kernel_rfl
theorem ok124 : okFunc Tryz.prog 124 = true := by kernel_rfl
theorem ub4 : Tryz.prog.underlying 4 = some .bool := by kernel_rfl

open Go.Mesh
structure SR where
  i : Nat
  kn : Bool
  p1 : Option Addr
  c1 : Nat
  p2 : Option Addr
  c2 : Nat
structure SOk (ms hs : List (Nat × Nat)) (d : Nat) (x : SR) : Prop where
  bs : BS hs d (x.i, x.kn)
  c1 : ms.length ≤ x.c1

theorem setnext_c (o sq : Nat) (p1 : Option Addr) (c1 : Nat) (ms : List (Nat × Nat)) (p2 : Option Addr) (c2 : Nat) (hs : List (Nat × Nat)) (hok : FOk o sq ms hs) (hc1 : ms.length ≤ c1) (d nx : Nat) (hd : d < 2) (hdo : d ≠ o) (hno : nx ≠ o) :
  Does Tryz.prog 46 [.agg #[.int .u8 2, .int .u8 0, .int .u8 0, .int .u8 0, .int .u8 2, .int .u8 (o : Int), .int .i64 (sq : Int), .slice p1 ms.length c1, .slice p2 hs.length c2], .agg #[.int .u8 2, .int .u8 0, .int .u8 0, .int .u8 0, .int .u8 2, .int .u8 (d : Int)], .agg #[.int .u8 2, .int .u8 0, .int .u8 0, .int .u8 0, .int .u8 2, .int .u8 (nx : Int)]] [] (fun W => Rd W p1 (ms.flatMap markC) ∧ Rd W p2 (hs.flatMap hopC)) (X := SR) (fun x => SOk ms hs d x) (fun x => .tuple #[.agg #[.int .u8 2, .int .u8 0, .int .u8 0, .int .u8 0, .int .u8 2, .int .u8 (o : Int), .int .i64 (sq : Int), .slice x.p1 ms.length x.c1, .slice x.p2 (bif x.kn then hs.length else hs.length + 1) x.c2], .int .i64 0]) (fun x => [.row (.slice x.p1 ms.length x.c1) 258 7 ms.length ((ms).flatMap markC), .row (.slice x.p2 (bif x.kn then hs.length else hs.length + 1) x.c2) 252 12 (bif x.kn then hs.length else hs.length + 1) ((newL hs x.i x.kn (d, nx)).flatMap hopC)]) := by
 have hml := hok.ml
 have hhl := hok.hl
 have hsq := hok.sq
 refine Does.enter Tryz.func46 rfl (m := 62) rfl (by simp) ?_
 intro W0 hro
 refine VC.seq ?_
 refine VC.region ?_
 refine VL.eff (O.box rfl rfl (by decide) ?_)
 intro g3
 refine VL.eff (O.box rfl rfl (by decide) ?_)
 intro g4
 refine VL.eff (O.box rfl rfl (by decide) ?_)
 intro g5
 refine VL.eff (O.alloc zo55 (by decide) ?_)
 intro g6
 refine VL.q (Q.assign rfl) ?_
 refine VL.nil ?_
 refine VE.seq ?_
 refine VC.seq ?_
 refine VC.seq ?_
 refine VC.region ?_
 refine VL.q (Q.loadA ty55 rfl zM zS) ?_
 refine VL.eff (O.call0 ok117 rfl rfl (by decide) (fcheck_c o sq p1 c1 ms p2 c2 hs hok hc1) (fun _ ho _ => ⟨hro.1.only0 ho, hro.2.only0 ho⟩) ?_)
 intro x12 y12
 refine VL.q (Q.assign rfl) ?_
 refine VL.nil ?_
 refine VE.seq ?_
 refine VC.seq ?_
 refine VC.region ?_
 refine VL.q (Q.move rfl) ?_
 refine VL.quietE (v' := .bool false) (by decide) (Q.ne rfl rfl) (by rfl) ?_
 refine VL.nil ?_
 refine VE.seq ?_
 refine VC.condF rfl ?_
 refine VC.skip ?_
 refine VE.seq ?_
 refine VC.seq ?_
 refine VC.region ?_
 refine VL.q (Q.loadA ty55 rfl zM zS) ?_
 refine VL.q (Q.loadA ty44 rfl zM zS) ?_
 refine VL.eff (O.call0 ok118 rfl rfl (by decide) (ffind_c o sq p1 c1 ms p2 c2 hs hok hc1 d (by omega)) (fun _ ho _ => ⟨hro.1.only0 ho, hro.2.only0 ho⟩) ?_)
 intro x20 y20
 obtain ⟨i, kn⟩ := x20
 refine VL.q (Q.move rfl) ?_
 refine VL.q (Q.extract rfl rfl) ?_
 refine VL.q (Q.extract rfl rfl) ?_
 refine VL.q (Q.assign rfl) ?_
 refine VL.q (Q.assign rfl) ?_
 refine VL.nil ?_
 refine VE.seq ?_
 refine VC.seq ?_
 refine VC.block ?_
 rcases kn with _ | _
 ·
  refine VC.seq ?_
  refine VC.region ?_
  refine VL.q (Q.loadA ty55 rfl zM zS) ?_
  refine VL.q (Q.loadA ty44 rfl zM zS) ?_
  refine VL.eff (O.call0 ok119 rfl rfl (by decide) (odd_c o sq d _ _ hdo) (fun _ _ _ => trivial) ?_)
  intro x26 y26
  refine VL.q (Q.move rfl) ?_
  refine VL.yes rfl rfl ?_
  refine VL.q (Q.loadA ty55 rfl zM zS) ?_
  refine VL.yes rfl rfl ?_
  refine VL.q (Q.loadA ty44 rfl zM zS) ?_
  refine VL.yes rfl rfl ?_
  refine VL.eff (O.call0 ok119 rfl rfl (by decide) (odd_c o sq nx _ _ hno) (fun _ _ _ => trivial) ?_)
  intro x30 y30
  refine VL.quietE (v' := .bool false) (by decide) (Q.pick_false rfl rfl) (by rfl) ?_
  refine VL.q (Q.assign rfl) ?_
  refine VL.nil ?_
  refine VE.seq ?_
  refine VC.condF rfl ?_
  refine VC.seq ?_
  refine VC.region ?_
  refine VL.q (Q.move rfl) ?_
  refine VL.quietE (v' := .bool true) (by decide) (Q.not rfl) (by rfl) ?_
  refine VL.q (Q.move rfl) ?_
  refine VL.yes rfl rfl ?_
  refine VL.q (Q.fieldAddr fa55_3 rfl) ?_
  refine VL.yes rfl rfl ?_
  refine VL.q (Q.load1 ty53 rfl zM rfl) ?_
  refine VL.yes rfl rfl ?_
  refine VL.q (Q.len sl53 rfl) ?_
  refine VL.yes rfl rfl ?_
  refine VL.quietE (v' := .bool false) (by decide) (Q.eq rfl rfl) (congrArg Value.bool (decide_eq_false (by omega))) ?_
  refine VL.quietE (v' := .bool false) (by decide) (Q.pick_true rfl rfl) (by rfl) ?_
  refine VL.q (Q.assign rfl) ?_
  refine VL.nil ?_
  refine VE.seq ?_
  refine VC.condF rfl ?_
  refine VC.skip ?_
  refine VE.block_normal ?_
  refine VE.seq ?_
  refine VC.seq ?_
  refine VC.region ?_
  refine VL.q (Q.loadA ty55 rfl zM zS) ?_
  refine VL.eff (O.call0 ok120 rfl rfl (by decide) (own_c o sq p1 c1 ms p2 c2 hs hok hc1) (fun _ ho _ => ⟨hro.1.only0 ho, hro.2.only0 ho⟩) ?_)
  intro x44 y44
  obtain ⟨⟨pA, cA⟩, ⟨pB, cB⟩⟩ := x44
  obtain ⟨hA, hB⟩ := y44
  dsimp only at hA hB
  refine VL.eff (O.store ty55 rfl rfl rfl rfl zU zP ?_)
  refine VL.nil ?_
  refine VE.seq ?_
  refine VC.seq ?_
  refine VC.seq ?_
  refine VK.keep (by exact .cons (i := 3) rfl (.cons (i := 4) rfl (.cons (i := 5) rfl (.cons (i := 6) rfl (.cons (i := 7) rfl (.cons (i := 9) rfl (.cons (i := 10) rfl ( .nil)))))))) ?_
  refine VC.region ?_
  refine VL.q (Q.move rfl) ?_
  refine VL.nil ?_
  refine VE.seq ?_
  refine VC.condF rfl ?_
  rcases place2 hok.hl hok.srt hok.h2 hd y20 with ⟨hi0, hi1⟩ | ⟨u, hu, hi0⟩
  ·
   subst hi0
   refine VC.region ?_
   refine VL.q (Q.fieldAddr fa55_3 rfl) ?_
   refine VL.q (Q.load1 ty53 rfl zM rfl) ?_
   refine VL.q (Q.move rfl) ?_
   refine VL.q (Q.loadA ty44 rfl zM zS) ?_
   refine VL.q (Q.loadA ty44 rfl zM zS) ?_
   refine VL.q (Q.build lay252 zF) ?_
   refine VL.eff (O.buildSlice sl53 ze252 (by decide) zF (by decide) ?_)
   intro g58
   refine VL.eff (O.callP ok121 rfl rfl (by decide) (insend_hop pB hs.length cB g58 (hs.flatMap hopC) (hopC (d, nx)) rfl rfl (by omega) hB) zKs (fun _ _ _ => trivial) ?_)
   intro x59 y59
   obtain ⟨pI, cI⟩ := x59
   refine VL.q (Q.fieldAddr fa55_3 rfl) ?_
   refine VL.eff (O.store ty53 rfl rfl rfl rfl zU zP ?_)
   refine VL.nil ?_
   refine VE.seq ?_
   refine VC.seq ?_
   refine VC.region ?_
   refine VL.q (Q.loadA ty55 rfl zM zS) ?_
   refine VL.eff (O.store ty55 rfl rfl rfl rfl zU zP ?_)
   refine VL.q (Q.assign rfl) ?_
   refine VL.nil ?_
   refine VE.seq ?_
   refine VC.ret ?_
   refine VK.picks (Lin := [.row (.slice pA ms.length cA) 258 7 ms.length ((ms).flatMap markC), .row (.slice pI (hs.length + 1) cI) 252 12 (hs.length + 1) (hs.flatMap hopC ++ hopC (d, nx)), .blk g6 [.int .u8 2, .int .u8 0, .int .u8 0, .int .u8 0, .int .u8 2, .int .u8 (o : Int), .int .i64 (sq : Int), .slice pA ms.length cA, .slice pI (hs.length + 1) cI] 55]) zKs ?_
   rw [← newL_end hs (d, nx)]
   exact VE.ret rfl (.cell ty55 rfl zM rfl (.tmp rfl .nil)) (⟨_, false, pA, cA, pI, cI⟩ : SR) ⟨y20, hA⟩ rfl zB
  ·
   subst hu
   subst hi0
   refine VC.region ?_
   refine VL.q (Q.fieldAddr fa55_3 rfl) ?_
   refine VL.q (Q.load1 ty53 rfl zM rfl) ?_
   refine VL.q (Q.move rfl) ?_
   refine VL.q (Q.loadA ty44 rfl zM zS) ?_
   refine VL.q (Q.loadA ty44 rfl zM zS) ?_
   refine VL.q (Q.build lay252 zF) ?_
   refine VL.eff (O.buildSlice sl53 ze252 (by decide) zF (by decide) ?_)
   intro g58_1
   refine VK.rowHead (m := 1) (p := pB) (c := cB) zM (by decide) ?_
   intro gB hgB _ _
   subst hgB
   refine VK.apart (r := .blk g58_1 [.int .u8 2, .int .u8 0, .int .u8 0, .int .u8 0, .int .u8 2, .int .u8 (d : Int), .int .u8 2, .int .u8 0, .int .u8 0, .int .u8 0, .int .u8 2, .int .u8 (nx : Int)] 252) (r' := .row (.slice (some ⟨gB, 0, none⟩) [u].length cB) 252 12 [u].length ([u].flatMap hopC)) (by repeat (first | exact Two.here zM | apply Two.there)) ?_
   intro hap
   have hne : g58_1 ≠ gB := by simpa [Rs.ids, Value.ownBlock] using hap
   refine VL.eff (O.callP ok121 rfl rfl (by decide) (insfront_hop gB cB g58_1 ([u].flatMap hopC) (hopC (d, nx)) rfl rfl rfl rfl hB hne) zKs (fun _ _ _ => trivial) ?_)
   intro x59_1 y59_1
   obtain ⟨pI, cI⟩ := x59_1
   refine VL.q (Q.fieldAddr fa55_3 rfl) ?_
   refine VL.eff (O.store ty53 rfl rfl rfl rfl zU zP ?_)
   refine VL.nil ?_
   refine VE.seq ?_
   refine VC.seq ?_
   refine VC.region ?_
   refine VL.q (Q.loadA ty55 rfl zM zS) ?_
   refine VL.eff (O.store ty55 rfl rfl rfl rfl zU zP ?_)
   refine VL.q (Q.assign rfl) ?_
   refine VL.nil ?_
   refine VE.seq ?_
   refine VC.ret ?_
   refine VK.picks (Lin := [.row (.slice pA ms.length cA) 258 7 ms.length ((ms).flatMap markC), .row (.slice pI 2 cI) 252 12 2 (hopC (d, nx) ++ [u].flatMap hopC), .blk g6 [.int .u8 2, .int .u8 0, .int .u8 0, .int .u8 0, .int .u8 2, .int .u8 (o : Int), .int .i64 (sq : Int), .slice pA ms.length cA, .slice pI 2 cI] 55]) zKs ?_
   exact VE.ret rfl (.cell ty55 rfl zM rfl (.tmp rfl .nil)) (⟨0, false, pA, cA, pI, cI⟩ : SR) ⟨y20, hA⟩ rfl zB
 ·
  obtain ⟨hil, hir⟩ := y20.is rfl
  dsimp only at hil hir
  refine VC.seq ?_
  refine VC.region ?_
  refine VL.q (Q.loadA ty55 rfl zM zS) ?_
  refine VL.q (Q.loadA ty44 rfl zM zS) ?_
  refine VL.eff (O.call0 ok119 rfl rfl (by decide) (odd_c o sq d _ _ hdo) (fun _ _ _ => trivial) ?_)
  intro x26_1 y26_1
  refine VL.q (Q.move rfl) ?_
  refine VL.yes rfl rfl ?_
  refine VL.q (Q.loadA ty55 rfl zM zS) ?_
  refine VL.yes rfl rfl ?_
  refine VL.q (Q.loadA ty44 rfl zM zS) ?_
  refine VL.yes rfl rfl ?_
  refine VL.eff (O.call0 ok119 rfl rfl (by decide) (odd_c o sq nx _ _ hno) (fun _ _ _ => trivial) ?_)
  intro x30_1 y30_1
  refine VL.quietE (v' := .bool false) (by decide) (Q.pick_false rfl rfl) (by rfl) ?_
  refine VL.q (Q.assign rfl) ?_
  refine VL.nil ?_
  refine VE.seq ?_
  refine VC.condF rfl ?_
  refine VC.seq ?_
  refine VC.region ?_
  refine VL.q (Q.move rfl) ?_
  refine VL.quietE (v' := .bool false) (by decide) (Q.not rfl) (by rfl) ?_
  refine VL.q (Q.move rfl) ?_
  refine VL.no (by simp) rfl rfl (.inl rfl) ?_
  refine VL.no (by simp) rfl rfl (.inl rfl) ?_
  refine VL.no (by simp) rfl rfl (.inl rfl) ?_
  refine VL.no (by simp) rfl rfl (.inl rfl) ?_
  refine VL.quietE (v' := .bool false) (by decide) (Q.pick_false rfl rfl) (by rfl) ?_
  refine VL.q (Q.assign rfl) ?_
  refine VL.nil ?_
  refine VE.seq ?_
  refine VC.condF rfl ?_
  refine VC.skip ?_
  refine VE.block_normal ?_
  refine VE.seq ?_
  refine VC.seq ?_
  refine VC.region ?_
  refine VL.q (Q.loadA ty55 rfl zM zS) ?_
  refine VL.eff (O.call0 ok120 rfl rfl (by decide) (own_c o sq p1 c1 ms p2 c2 hs hok hc1) (fun _ ho _ => ⟨hro.1.only0 ho, hro.2.only0 ho⟩) ?_)
  intro x44_1 y44_1
  obtain ⟨⟨pA, cA⟩, ⟨pB, cB⟩⟩ := x44_1
  obtain ⟨hA, hB⟩ := y44_1
  dsimp only at hA hB
  refine VL.eff (O.store ty55 rfl rfl rfl rfl zU zP ?_)
  refine VL.nil ?_
  refine VE.seq ?_
  refine VC.seq ?_
  refine VC.seq ?_
  refine VK.keep (by exact .cons (i := 3) rfl (.cons (i := 4) rfl (.cons (i := 5) rfl (.cons (i := 6) rfl (.cons (i := 7) rfl (.cons (i := 9) rfl (.cons (i := 10) rfl ( .nil)))))))) ?_
  refine VC.region ?_
  refine VL.q (Q.move rfl) ?_
  refine VL.nil ?_
  refine VE.seq ?_
  refine VC.condT rfl ?_
  refine VC.region ?_
  refine VL.q (Q.fieldAddr fa55_3 rfl) ?_
  refine VL.q (Q.load1 ty53 rfl zM rfl) ?_
  refine VK.rowHead (m := hs.length) (p := pB) (c := cB) zM (by omega) ?_
  intro gB hgB _ _
  subst hgB
  refine VL.q (Q.move rfl) ?_
  refine VL.q (Q.loadA ty44 rfl zM zS) ?_
  refine VL.q (Q.indexAddr sl53 (j := i) rfl rfl rfl hil) ?_
  refine VL.q (Q.fieldAddr fa252_1 rfl) ?_
  refine VL.eff (O.storeRow (ys := nodeC nx) (xs' := (hs.set i (d, nx)).flatMap hopC) ty44 rfl rfl rfl rfl zA (by rw [Nat.zero_add]; exact fm_putsub hopC_len hs i hil (d, nx) (by rw [show hopC hs[i] = hopC (d, hs[i].2) from by rw [← hir]]; repeat (first | exact Put.nil | apply Put.here | apply Put.skip))) ?_)
  refine VL.nil ?_
  refine VE.seq ?_
  refine VC.seq ?_
  refine VC.region ?_
  refine VL.q (Q.loadA ty55 rfl zM zS) ?_
  refine VL.eff (O.store ty55 rfl rfl rfl rfl zU zP ?_)
  refine VL.q (Q.assign rfl) ?_
  refine VL.nil ?_
  refine VE.seq ?_
  refine VC.ret ?_
  refine VK.picks (Lin := [.row (.slice pA ms.length cA) 258 7 ms.length ((ms).flatMap markC), .row (.slice (some ⟨gB, 0, none⟩) hs.length cB) 252 12 hs.length ((hs.set i (d, nx)).flatMap hopC), .blk g6 [.int .u8 2, .int .u8 0, .int .u8 0, .int .u8 0, .int .u8 2, .int .u8 (o : Int), .int .i64 (sq : Int), .slice pA ms.length cA, .slice (some ⟨gB, 0, none⟩) hs.length cB] 55]) zKs ?_
  exact VE.ret rfl (.cell ty55 rfl zM rfl (.tmp rfl .nil)) (⟨i, true, pA, cA, (some ⟨gB, 0, none⟩), cB⟩ : SR) ⟨y20, hA⟩ rfl zB

theorem remember_c (o sq : Nat) (p1 : Option Addr) (c1 : Nat) (ms : List (Nat × Nat)) (p2 : Option Addr) (c2 : Nat) (hs : List (Nat × Nat)) (hok : FOk o sq ms hs) (hc1 : ms.length ≤ c1) (e q : Nat) (hm : (e, q) ∉ ms) :
  Does Tryz.prog 127 [.agg #[.int .u8 2, .int .u8 0, .int .u8 0, .int .u8 0, .int .u8 2, .int .u8 (o : Int), .int .i64 (sq : Int), .slice p1 ms.length c1, .slice p2 hs.length c2], .agg #[.int .u8 2, .int .u8 0, .int .u8 0, .int .u8 0, .int .u8 2, .int .u8 (e : Int)], .int .i64 (q : Int)] [] (fun W => Rd W p1 (ms.flatMap markC) ∧ Rd W p2 (hs.flatMap hopC)) (X := (Option Addr × Nat) × (Option Addr × Nat)) (fun x => ms.length + 1 ≤ x.1.2) (fun x => .agg #[.int .u8 2, .int .u8 0, .int .u8 0, .int .u8 0, .int .u8 2, .int .u8 (o : Int), .int .i64 (sq : Int), .slice x.1.1 (ms.length + 1) x.1.2, .slice x.2.1 hs.length x.2.2]) (fun x => [.row (.slice x.1.1 (ms.length + 1) x.1.2) 258 7 (ms.length + 1) ((ms ++ [(e, q)]).flatMap markC), .row (.slice x.2.1 hs.length x.2.2) 252 12 hs.length ((hs).flatMap hopC)]) := by
 have hml := hok.ml
 have hhl := hok.hl
 have hsq := hok.sq
 refine Does.enter Tryz.func127 rfl (m := 30) rfl (by simp) ?_
 intro W0 hro
 refine VC.seq ?_
 refine VC.region ?_
 refine VL.eff (O.box rfl rfl (by decide) ?_)
 intro g3
 refine VL.eff (O.box rfl rfl (by decide) ?_)
 intro g4
 refine VL.eff (O.alloc zo55 (by decide) ?_)
 intro g6
 refine VL.nil ?_
 refine VE.seq ?_
 refine VC.seq ?_
 refine VC.region ?_
 refine VL.q (Q.loadA ty55 rfl zM zS) ?_
 refine VL.eff (O.call0 ok120 rfl rfl (by decide) (own_c o sq p1 c1 ms p2 c2 hs hok hc1) (fun _ ho _ => ⟨hro.1.only0 ho, hro.2.only0 ho⟩) ?_)
 intro x9 y9
 obtain ⟨⟨pA, cA⟩, ⟨pB, cB⟩⟩ := x9
 obtain ⟨hA, hB⟩ := y9
 dsimp only at hA hB
 refine VL.eff (O.store ty55 rfl rfl rfl rfl zU zP ?_)
 refine VL.nil ?_
 refine VE.seq ?_
 refine VC.seq ?_
 refine VC.region ?_
 refine VL.q (Q.loadA ty44 rfl zM zS) ?_
 refine VL.q (Q.move rfl) ?_
 refine VL.q (Q.build lay258 zF) ?_
 refine VL.eff (O.alloc zo258 (by decide) ?_)
 intro g7
 refine VL.eff (O.store ty258 rfl rfl rfl rfl zU zP ?_)
 refine VL.nil ?_
 refine VE.seq ?_
 refine VC.seq ?_
 refine VA.start (Ls := [.blk g7 [.int .u8 2, .int .u8 0, .int .u8 0, .int .u8 0, .int .u8 2, .int .u8 (e : Int), .int .i64 (q : Int)] 258]) (Cs := []) mixed ?_
 refine VA.tk 0 rfl (Still.then Still.body) (List.singleton_sublist.2 zM) Cells.nil (Quiet.c (Q.fieldAddr fa55_2 rfl)) ?_
 refine VA.tk 2 rfl (Still.then Still.body) (List.singleton_sublist.2 zM) Cells.nil (Quiet.c (Q.makeFunc rfl rfl)) ?_
 refine VA.tk 4 rfl (Still.then Still.body) (List.singleton_sublist.2 zM) Cells.nil (Quiet.c (Q.loadA ty258 rfl zM zS)) ?_
 refine VA.all (rs := [1, 5]) (by kernel_rfl) (by simp) ?_
 refine VA.forall2 ?_ ?_
 ·
  refine VA.eff rfl ?_
  refine O.quiet (by decide) (Q.load1 ty52 rfl zM rfl) ?_
  refine VA.next (List.singleton_sublist.2 zM) Cells.nil ?_
  refine VA.all (rs := [3, 5]) (by kernel_rfl) (by simp) ?_
  refine VA.forall2 ?_ ?_
  ·
   refine VA.eff rfl ?_
   refine id (O.call0 ok124 rfl rfl (by decide) (del_isrem_c pA ms.length cA ms rfl (by omega) g7 (e, q) hm) (fun _ _ hw => ⟨Rd.row hw zM, Rd.seg (k := 7) hw zM zS⟩) ?_)
   intro x16 y16
   refine VA.next (List.singleton_sublist.2 zM) Cells.nil ?_
   refine VA.all (rs := [5]) (by kernel_rfl) (by simp) ?_
   refine VA.forall1 ?_
   ·
    refine VA.eff rfl ?_
    refine id (O.buildSlice sl52 ze258 (by decide) zF (by decide) ?_)
    intro g18
    refine VA.next (List.singleton_sublist.2 zM) Cells.nil ?_
    refine VA.all (rs := [6]) (by kernel_rfl) (by simp) ?_
    refine VA.forall1 ?_
    ·
     refine VA.eff rfl ?_
     refine id (O.appendS sl52 ze258 rfl (by decide) rfl rfl zM zS rfl (by decide) (by unfold maxLen; omega) (by omega) zA ?_)
     intro pS cS hS
     refine VA.next (List.singleton_sublist.2 zM) Cells.nil ?_
     refine VA.tk 7 rfl (Still.then Still.body) (List.singleton_sublist.2 zM) Cells.nil (Quiet.c (Q.fieldAddr fa55_2 rfl)) ?_
     refine VA.all (rs := [8]) (by kernel_rfl) (by simp) ?_
     refine VA.forall1 ?_
     ·
      refine VA.eff rfl ?_
      refine id (O.store ty52 rfl rfl rfl rfl zU zP ?_)
      refine VA.next (List.singleton_sublist.2 zM) Cells.nil ?_
      refine VA.done (by kernel_rfl) ?_
      refine VE.seq ?_
      refine VC.seq ?_
      refine VC.seq ?_
      refine VC.region ?_
      refine VL.q (Q.fieldAddr fa55_2 rfl) ?_
      refine VL.q (Q.load1 ty52 rfl zM rfl) ?_
      refine VL.q (Q.len sl52 rfl) ?_
      refine VL.quietE (v' := .bool false) (by decide) (Q.gt rfl rfl) (congrArg Value.bool (decide_eq_false (by omega))) ?_
      refine VL.nil ?_
      refine VE.seq ?_
      refine VC.condF rfl ?_
      refine VC.skip ?_
      refine VE.seq ?_
      refine VC.seq ?_
      refine VC.region ?_
      refine VL.q (Q.loadA ty55 rfl zM zS) ?_
      refine VL.eff (O.store ty55 rfl rfl rfl rfl zU zP ?_)
      refine VL.nil ?_
      refine VE.seq ?_
      refine VC.ret ?_
      refine VK.picks (Lin := [.row (.slice pS (ms.length + 1) cS) 258 7 (ms.length + 1) (ms.flatMap markC ++ markC (e, q)), .row (.slice pB hs.length cB) 252 12 hs.length ((hs).flatMap hopC), .blk g6 [.int .u8 2, .int .u8 0, .int .u8 0, .int .u8 0, .int .u8 2, .int .u8 (o : Int), .int .i64 (sq : Int), .slice pS (ms.length + 1) cS, .slice pB hs.length cB] 55]) zKs ?_
      rw [← fm_snoc]
      exact VE.ret rfl (.cell ty55 rfl zM rfl .nil) ((pS, cS), (pB, cB)) hS rfl zB
  ·
   refine VA.eff rfl ?_
   refine id (O.buildSlice sl52 ze258 (by decide) zF (by decide) ?_)
   intro g18_1
   refine VA.next (List.singleton_sublist.2 zM) Cells.nil ?_
   refine VA.all (rs := [3]) (by kernel_rfl) (by simp) ?_
   refine VA.forall1 ?_
   ·
    refine VA.eff rfl ?_
    refine id (O.call0 ok124 rfl rfl (by decide) (del_isrem_c pA ms.length cA ms rfl (by omega) g7 (e, q) hm) (fun _ _ hw => ⟨Rd.row hw zM, Rd.seg (k := 7) hw zM zS⟩) ?_)
    intro x16_1 y16_1
    refine VA.next (List.singleton_sublist.2 zM) Cells.nil ?_
    refine VA.all (rs := [6]) (by kernel_rfl) (by simp) ?_
    refine VA.forall1 ?_
    ·
     refine VA.eff rfl ?_
     refine id (O.appendS sl52 ze258 rfl (by decide) rfl rfl zM zS rfl (by decide) (by unfold maxLen; omega) (by omega) zA ?_)
     intro pS cS hS
     refine VA.next (List.singleton_sublist.2 zM) Cells.nil ?_
     refine VA.tk 7 rfl (Still.then Still.body) (List.singleton_sublist.2 zM) Cells.nil (Quiet.c (Q.fieldAddr fa55_2 rfl)) ?_
     refine VA.all (rs := [8]) (by kernel_rfl) (by simp) ?_
     refine VA.forall1 ?_
     ·
      refine VA.eff rfl ?_
      refine id (O.store ty52 rfl rfl rfl rfl zU zP ?_)
      refine VA.next (List.singleton_sublist.2 zM) Cells.nil ?_
      refine VA.done (by kernel_rfl) ?_
      refine VE.seq ?_
      refine VC.seq ?_
      refine VC.seq ?_
      refine VC.region ?_
      refine VL.q (Q.fieldAddr fa55_2 rfl) ?_
      refine VL.q (Q.load1 ty52 rfl zM rfl) ?_
      refine VL.q (Q.len sl52 rfl) ?_
      refine VL.quietE (v' := .bool false) (by decide) (Q.gt rfl rfl) (congrArg Value.bool (decide_eq_false (by omega))) ?_
      refine VL.nil ?_
      refine VE.seq ?_
      refine VC.condF rfl ?_
      refine VC.skip ?_
      refine VE.seq ?_
      refine VC.seq ?_
      refine VC.region ?_
      refine VL.q (Q.loadA ty55 rfl zM zS) ?_
      refine VL.eff (O.store ty55 rfl rfl rfl rfl zU zP ?_)
      refine VL.nil ?_
      refine VE.seq ?_
      refine VC.ret ?_
      refine VK.picks (Lin := [.row (.slice pS (ms.length + 1) cS) 258 7 (ms.length + 1) (ms.flatMap markC ++ markC (e, q)), .row (.slice pB hs.length cB) 252 12 hs.length ((hs).flatMap hopC), .blk g6 [.int .u8 2, .int .u8 0, .int .u8 0, .int .u8 0, .int .u8 2, .int .u8 (o : Int), .int .i64 (sq : Int), .slice pS (ms.length + 1) cS, .slice pB hs.length cB] 55]) zKs ?_
      rw [← fm_snoc]
      exact VE.ret rfl (.cell ty55 rfl zM rfl .nil) ((pS, cS), (pB, cB)) hS rfl zB
 ·
  refine VA.eff rfl ?_
  refine id (O.buildSlice sl52 ze258 (by decide) zF (by decide) ?_)
  intro g18_2
  refine VA.next (List.singleton_sublist.2 zM) Cells.nil ?_
  refine VA.all (rs := [1]) (by kernel_rfl) (by simp) ?_
  refine VA.forall1 ?_
  ·
   refine VA.eff rfl ?_
   refine O.quiet (by decide) (Q.load1 ty52 rfl zM rfl) ?_
   refine VA.next (List.singleton_sublist.2 zM) Cells.nil ?_
   refine VA.all (rs := [3]) (by kernel_rfl) (by simp) ?_
   refine VA.forall1 ?_
   ·
    refine VA.eff rfl ?_
    refine id (O.call0 ok124 rfl rfl (by decide) (del_isrem_c pA ms.length cA ms rfl (by omega) g7 (e, q) hm) (fun _ _ hw => ⟨Rd.row hw zM, Rd.seg (k := 7) hw zM zS⟩) ?_)
    intro x16_2 y16_2
    refine VA.next (List.singleton_sublist.2 zM) Cells.nil ?_
    refine VA.all (rs := [6]) (by kernel_rfl) (by simp) ?_
    refine VA.forall1 ?_
    ·
     refine VA.eff rfl ?_
     refine id (O.appendS sl52 ze258 rfl (by decide) rfl rfl zM zS rfl (by decide) (by unfold maxLen; omega) (by omega) zA ?_)
     intro pS cS hS
     refine VA.next (List.singleton_sublist.2 zM) Cells.nil ?_
     refine VA.tk 7 rfl (Still.then Still.body) (List.singleton_sublist.2 zM) Cells.nil (Quiet.c (Q.fieldAddr fa55_2 rfl)) ?_
     refine VA.all (rs := [8]) (by kernel_rfl) (by simp) ?_
     refine VA.forall1 ?_
     ·
      refine VA.eff rfl ?_
      refine id (O.store ty52 rfl rfl rfl rfl zU zP ?_)
      refine VA.next (List.singleton_sublist.2 zM) Cells.nil ?_
      refine VA.done (by kernel_rfl) ?_
      refine VE.seq ?_
      refine VC.seq ?_
      refine VC.seq ?_
      refine VC.region ?_
      refine VL.q (Q.fieldAddr fa55_2 rfl) ?_
      refine VL.q (Q.load1 ty52 rfl zM rfl) ?_
      refine VL.q (Q.len sl52 rfl) ?_
      refine VL.quietE (v' := .bool false) (by decide) (Q.gt rfl rfl) (congrArg Value.bool (decide_eq_false (by omega))) ?_
      refine VL.nil ?_
      refine VE.seq ?_
      refine VC.condF rfl ?_
      refine VC.skip ?_
      refine VE.seq ?_
      refine VC.seq ?_
      refine VC.region ?_
      refine VL.q (Q.loadA ty55 rfl zM zS) ?_
      refine VL.eff (O.store ty55 rfl rfl rfl rfl zU zP ?_)
      refine VL.nil ?_
      refine VE.seq ?_
      refine VC.ret ?_
      refine VK.picks (Lin := [.row (.slice pS (ms.length + 1) cS) 258 7 (ms.length + 1) (ms.flatMap markC ++ markC (e, q)), .row (.slice pB hs.length cB) 252 12 hs.length ((hs).flatMap hopC), .blk g6 [.int .u8 2, .int .u8 0, .int .u8 0, .int .u8 0, .int .u8 2, .int .u8 (o : Int), .int .i64 (sq : Int), .slice pS (ms.length + 1) cS, .slice pB hs.length cB] 55]) zKs ?_
      rw [← fm_snoc]
      exact VE.ret rfl (.cell ty55 rfl zM rfl .nil) ((pS, cS), (pB, cB)) hS rfl zB

theorem checkframe_c (f t e lv q ttl : Nat) (p : Option Addr) (m c : Nat) (hq : q < 65536) (h1 : 1 ≤ ttl ∧ ttl ≤ 31) (hm : m ≤ 2264) :
  Does Tryz.prog 128 [.agg #[.int .u8 2, .int .u8 0, .int .u8 0, .int .u8 0, .int .u8 2, .int .u8 (f : Int), .int .u8 2, .int .u8 0, .int .u8 0, .int .u8 0, .int .u8 2, .int .u8 (t : Int), .int .u8 2, .int .u8 0, .int .u8 0, .int .u8 0, .int .u8 2, .int .u8 (e : Int), .int .u8 2, .int .u8 0, .int .u8 0, .int .u8 0, .int .u8 2, .int .u8 (lv : Int), .int .u8 2, .int .u8 0, .int .u8 0, .int .u8 0, .int .u8 2, .int .u8 (e : Int), .int .u8 2, .int .u8 9, .int .u8 9, .int .u8 9, .int .u8 9, .int .u8 9, .int .i64 (q : Int), .int .i64 (ttl : Int), .slice p m c]] [] (fun _ => True) (X := Unit) (fun _ => True) (fun _ => .int .i64 0) (fun _ => []) := by
 refine Does.enter Tryz.func128 rfl (m := 42) rfl (by simp) ?_
 intro W0 hro
 refine VC.seq ?_
 refine VC.region ?_
 refine VL.eff (O.box rfl rfl (by decide) ?_)
 intro g1
 refine VL.q (Q.assign rfl) ?_
 refine VL.nil ?_
 refine VE.seq ?_
 refine VC.seq ?_
 refine VC.seq ?_
 refine VA.start (Ls := [.blk g1 [.int .u8 2, .int .u8 0, .int .u8 0, .int .u8 0, .int .u8 2, .int .u8 (f : Int), .int .u8 2, .int .u8 0, .int .u8 0, .int .u8 0, .int .u8 2, .int .u8 (t : Int), .int .u8 2, .int .u8 0, .int .u8 0, .int .u8 0, .int .u8 2, .int .u8 (e : Int), .int .u8 2, .int .u8 0, .int .u8 0, .int .u8 0, .int .u8 2, .int .u8 (lv : Int), .int .u8 2, .int .u8 0, .int .u8 0, .int .u8 0, .int .u8 2, .int .u8 (e : Int), .int .u8 2, .int .u8 9, .int .u8 9, .int .u8 9, .int .u8 9, .int .u8 9, .int .i64 (q : Int), .int .i64 (ttl : Int), .slice p m c] 156]) (Cs := []) mixed ?_
 refine VA.tk 0 rfl (Still.then (Still.then Still.body)) (List.singleton_sublist.2 zM) Cells.nil (Quiet.c (Q.fieldAddr fa156_0 rfl)) ?_
 refine VA.tk 1 rfl (Still.then (Still.then Still.body)) (List.singleton_sublist.2 zM) Cells.nil (Quiet.c (Q.loadA ty44 rfl zM zS)) ?_
 refine VA.all (rs := [2]) (by kernel_rfl) (by simp) ?_
 refine VA.forall1 ?_
 ·
  refine VA.eff rfl ?_
  refine id (O.call0 ok99 rfl rfl (by decide) (fgroup_c f) (fun _ _ _ => trivial) ?_)
  intro x5 y5
  refine VA.next (List.singleton_sublist.2 zM) Cells.nil ?_
  refine VA.tk 3 rfl (Still.then (Still.then Still.body)) (List.singleton_sublist.2 zM) Cells.nil (Quiet.c (Q.move rfl)) ?_
  refine VA.takeY 4 rfl rfl rfl (by kernel_rfl) (by kernel_rfl) (by kernel_rfl) (Still.then (Still.then Still.body)) (List.singleton_sublist.2 zM) Cells.nil (by decide) (Quiet.c (Q.fieldAddr fa156_2 rfl)) ?_
  refine VA.takeY 5 rfl rfl rfl (by kernel_rfl) (by kernel_rfl) (by kernel_rfl) (Still.then (Still.then Still.body)) (List.singleton_sublist.2 zM) Cells.nil (by decide) (Quiet.c (Q.loadA ty44 rfl zM zS)) ?_
  refine VA.all (rs := [6]) (by kernel_rfl) (by simp) ?_
  refine VA.forall1 ?_
  ·
   refine VA.effY rfl rfl rfl ?_
   refine id (O.call0 ok99 rfl rfl (by decide) (fgroup_c e) (fun _ _ _ => trivial) ?_)
   intro x9 y9
   refine VA.next (List.singleton_sublist.2 zM) Cells.nil ?_
   refine VA.tk 7 rfl (Still.then (Still.then Still.body)) (List.singleton_sublist.2 zM) Cells.nil (Quiet.c (Q.pick_false rfl rfl)) ?_
   refine VA.tk 8 rfl (Still.then (Still.then Still.body)) (List.singleton_sublist.2 zM) Cells.nil (Quiet.c (Q.move rfl)) ?_
   refine VA.takeY 9 rfl rfl rfl (by kernel_rfl) (by kernel_rfl) (by kernel_rfl) (Still.then (Still.then Still.body)) (List.singleton_sublist.2 zM) Cells.nil (by decide) (Quiet.c (Q.fieldAddr fa156_1 rfl)) ?_
   refine VA.takeY 10 rfl rfl rfl (by kernel_rfl) (by kernel_rfl) (by kernel_rfl) (Still.then (Still.then Still.body)) (List.singleton_sublist.2 zM) Cells.nil (by decide) (Quiet.c (Q.loadA ty44 rfl zM zS)) ?_
   refine VA.takeY 12 rfl rfl rfl (by kernel_rfl) (by kernel_rfl) (by kernel_rfl) (Still.then (Still.then Still.body)) (List.singleton_sublist.2 zM) Cells.nil (by decide) (Quiet.c (Q.fieldAddr fa156_3 rfl)) ?_
   refine VA.takeY 13 rfl rfl rfl (by kernel_rfl) (by kernel_rfl) (by kernel_rfl) (Still.then (Still.then Still.body)) (List.singleton_sublist.2 zM) Cells.nil (by decide) (Quiet.c (Q.loadA ty44 rfl zM zS)) ?_
   refine VA.all (rs := [11]) (by kernel_rfl) (by simp) ?_
   refine VA.forall1 ?_
   ·
    refine VA.effY rfl rfl rfl ?_
    refine id (O.call0 ok99 rfl rfl (by decide) (fgroup_c t) (fun _ _ _ => trivial) ?_)
    intro x14 y14
    refine VA.next (List.singleton_sublist.2 zM) Cells.nil ?_
    refine VA.all (rs := [14]) (by kernel_rfl) (by simp) ?_
    refine VA.forall1 ?_
    ·
     refine VA.effY rfl rfl rfl ?_
     refine id (O.call0 ok99 rfl rfl (by decide) (fgroup_c lv) (fun _ _ _ => trivial) ?_)
     intro x17 y17
     refine VA.next (List.singleton_sublist.2 zM) Cells.nil ?_
     refine VA.takeY 15 rfl rfl rfl (by kernel_rfl) (by kernel_rfl) (by kernel_rfl) (Still.then (Still.then Still.body)) (List.singleton_sublist.2 zM) Cells.nil (by decide) (Quiet.c (Q.bne ub4 rfl rfl)) ?_
     refine VA.tk 16 rfl (Still.then (Still.then Still.body)) (List.singleton_sublist.2 zM) Cells.nil (Quiet.c (Q.pick_false rfl rfl)) ?_
     refine VA.tk 17 rfl (Still.then (Still.then Still.body)) (List.singleton_sublist.2 zM) Cells.nil (Quiet.c (Q.move rfl)) ?_
     refine VA.takeY 18 rfl rfl rfl (by kernel_rfl) (by kernel_rfl) (by kernel_rfl) (Still.then (Still.then Still.body)) (List.singleton_sublist.2 zM) Cells.nil (by decide) (Quiet.c (Q.fieldAddr fa156_6 rfl)) ?_
     refine VA.takeY 19 rfl rfl rfl (by kernel_rfl) (by kernel_rfl) (by kernel_rfl) (Still.then (Still.then Still.body)) (List.singleton_sublist.2 zM) Cells.nil (by decide) (Quiet.c (Q.load1 ty3 rfl zM rfl)) ?_
     refine VA.all (rs := [20]) (by kernel_rfl) (by simp) ?_
     refine VA.forall1 ?_
     ·
      refine VA.effY rfl rfl rfl ?_
      refine id (O.call0 ok180 rfl rfl (by decide) (validseq_c _ (by omega)) (fun _ _ _ => trivial) ?_)
      intro x23 y23
      refine VA.next (List.singleton_sublist.2 zM) Cells.nil ?_
      refine VA.takeY 21 rfl rfl rfl (by kernel_rfl) (by kernel_rfl) (by kernel_rfl) (Still.then (Still.then Still.body)) (List.singleton_sublist.2 zM) Cells.nil (by decide) (Quiet.c (Q.not rfl)) ?_
      refine VA.tk 22 rfl (Still.then (Still.then Still.body)) (List.singleton_sublist.2 zM) Cells.nil (Quiet.c (Q.pick_false rfl rfl)) ?_
      refine VA.tk 23 rfl (Still.then (Still.then Still.body)) (List.singleton_sublist.2 zM) Cells.nil (Quiet.c (Q.move rfl)) ?_
      refine VA.takeY 24 rfl rfl rfl (by kernel_rfl) (by kernel_rfl) (by kernel_rfl) (Still.then (Still.then Still.body)) (List.singleton_sublist.2 zM) Cells.nil (by decide) (Quiet.c (Q.fieldAddr fa156_7 rfl)) ?_
      refine VA.takeY 25 rfl rfl rfl (by kernel_rfl) (by kernel_rfl) (by kernel_rfl) (Still.then (Still.then Still.body)) (List.singleton_sublist.2 zM) Cells.nil (by decide) (Quiet.c (Q.load1 ty3 rfl zM rfl)) ?_
      refine VA.takeY 26 rfl rfl rfl (by kernel_rfl) (by kernel_rfl) (by kernel_rfl) (Still.then (Still.then Still.body)) (List.singleton_sublist.2 zM) Cells.nil (by decide) (Quiet.c (Quiet.to (v' := .bool false) (Q.lt rfl rfl) (congrArg Value.bool (decide_eq_false (by omega))))) ?_
      refine VA.tk 27 rfl (Still.then (Still.then Still.body)) (List.singleton_sublist.2 zM) Cells.nil (Quiet.c (Q.pick_false rfl rfl)) ?_
      refine VA.tk 28 rfl (Still.then (Still.then Still.body)) (List.singleton_sublist.2 zM) Cells.nil (Quiet.c (Q.move rfl)) ?_
      refine VA.takeY 29 rfl rfl rfl (by kernel_rfl) (by kernel_rfl) (by kernel_rfl) (Still.then (Still.then Still.body)) (List.singleton_sublist.2 zM) Cells.nil (by decide) (Quiet.c (Q.fieldAddr fa156_7 rfl)) ?_
      refine VA.takeY 30 rfl rfl rfl (by kernel_rfl) (by kernel_rfl) (by kernel_rfl) (Still.then (Still.then Still.body)) (List.singleton_sublist.2 zM) Cells.nil (by decide) (Quiet.c (Q.load1 ty3 rfl zM rfl)) ?_
      refine VA.takeY 31 rfl rfl rfl (by kernel_rfl) (by kernel_rfl) (by kernel_rfl) (Still.then (Still.then Still.body)) (List.singleton_sublist.2 zM) Cells.nil (by decide) (Quiet.c (Quiet.to (v' := .bool false) (Q.gt rfl rfl) (congrArg Value.bool (decide_eq_false (by omega))))) ?_
      refine VA.tk 32 rfl (Still.then (Still.then Still.body)) (List.singleton_sublist.2 zM) Cells.nil (Quiet.c (Q.pick_false rfl rfl)) ?_
      refine VA.tk 33 rfl (Still.then (Still.then Still.body)) (List.singleton_sublist.2 zM) Cells.nil (Quiet.c (Q.move rfl)) ?_
      refine VA.takeY 34 rfl rfl rfl (by kernel_rfl) (by kernel_rfl) (by kernel_rfl) (Still.then (Still.then Still.body)) (List.singleton_sublist.2 zM) Cells.nil (by decide) (Quiet.c (Q.fieldAddr fa156_8 rfl)) ?_
      refine VA.takeY 35 rfl rfl rfl (by kernel_rfl) (by kernel_rfl) (by kernel_rfl) (Still.then (Still.then Still.body)) (List.singleton_sublist.2 zM) Cells.nil (by decide) (Quiet.c (Q.load1 ty23 rfl zM rfl)) ?_
      refine VA.takeY 36 rfl rfl rfl (by kernel_rfl) (by kernel_rfl) (by kernel_rfl) (Still.then (Still.then Still.body)) (List.singleton_sublist.2 zM) Cells.nil (by decide) (Quiet.c (Q.len sl23 rfl)) ?_
      refine VA.takeY 37 rfl rfl rfl (by kernel_rfl) (by kernel_rfl) (by kernel_rfl) (Still.then (Still.then Still.body)) (List.singleton_sublist.2 zM) Cells.nil (by decide) (Quiet.c (Quiet.to (v' := .bool false) (Q.gt rfl rfl) (congrArg Value.bool (decide_eq_false (by omega))))) ?_
      refine VA.tk 38 rfl (Still.then (Still.then Still.body)) (List.singleton_sublist.2 zM) Cells.nil (Quiet.c (Q.pick_false rfl rfl)) ?_
      refine VA.done (by kernel_rfl) ?_
      refine VE.seq ?_
      refine VC.condF rfl ?_
      refine VC.skip ?_
      refine VE.seq ?_
      refine VC.seq ?_
      refine VK.keep (by exact .cons (i := 2) rfl ( .nil)) ?_
      refine VC.region ?_
      refine VL.q (Q.assign rfl) ?_
      refine VL.nil ?_
      refine VE.seq ?_
      refine VC.ret ?_
      refine VE.ret rfl (.tmp rfl .nil) () ?_ ?_ (List.nil_sublist _)
      ·
       trivial
      ·
       first | rfl | (exfalso; simp at *; omega)

end Go.Proofs.YtencghlmckbmlaaGreat
