/- TopChoice: vaneChosen. Conditions: those that the contract bears. -/
import Derived.Test.YtencghlmckbmlaaGreatRows
import Derived.Test.YtencghlmckbmlaaGreatCTop3
namespace Go.Proofs.YtencghlmckbmlaaGreat
open Go Go.RowKit Go.Sx
set_option maxRecDepth 100000

theorem fa87_1 : tyField Tryz.prog 87 1 = some 1 := by kernel_rfl
theorem fa87_2 : tyField Tryz.prog 87 2 = some 2 := by kernel_rfl
theorem lay121 : laysOf Tryz.prog 121 = some ([.string ByteArray.empty, .bool false, .int .i64 0, .int .i64 0], [(0, 1), (1, 1), (2, 1), (3, 1)]) := by kernel_rfl
theorem ok14 : okFunc Tryz.prog 14 = true := by kernel_rfl
theorem ok16 : okFunc Tryz.prog 16 = true := by kernel_rfl
theorem ok18 : okFunc Tryz.prog 18 = true := by kernel_rfl
theorem ok19 : okFunc Tryz.prog 19 = true := by kernel_rfl
theorem ok28 : okFunc Tryz.prog 28 = true := by kernel_rfl
theorem ok30 : okFunc Tryz.prog 30 = true := by kernel_rfl
theorem ok32 : okFunc Tryz.prog 32 = true := by kernel_rfl

theorem VK.rowCap {W0 : World} {gs : List Nat} {n : Nat} {E : List (Nat × Value)} {L : List Rs} {K : Act → World → Prop} {p : Option Addr} {m c s : Nat} {e : TypeId} {xs : List Value} (hm : Rs.row (.slice p m c) e s m xs ∈ L) (h : m ≤ c → VK W0 gs n K E L) : VK W0 gs n K E L := fun a W st => by
  have hr : W.ownsRow 0 e s (.slice p m c) m xs := st.own.all _ hm
  refine h ?_ a W st
  rcases hr.2 with ⟨hv, hm0⟩ | ⟨g, cap, cur, hv, _, hg, h1, _⟩
  · omega
  · simp only [Value.slice.injEq] at hv
    omega
/-- what is chosen -/
def IsBest (L : Nat → Int) (pts : List Sp) (name : ByteArray) (sec : Bool) (b : Nat) : Prop :=
  (b = 0 → ∀ q, 1 ≤ q → q ≤ pts.length → -820 ≤ L q → mt pts name sec q = false) ∧
  (b ≠ 0 → 1 ≤ b ∧ b ≤ pts.length ∧ -820 ≤ L b ∧ mt pts name sec b = true ∧ ∀ q, 1 ≤ q → q ≤ pts.length → -820 ≤ L q → mt pts name sec q = true → q ≠ b → bt L pts b q)
theorem Got.isBest {L : Nat → Int} {pts : List Sp} {name : ByteArray} {sec : Bool} {hs : List Nat} {l : List Cd} {lv : List Int} {best : Nat} {tm : Int} (h : Got L pts name sec hs l lv best tm) (hall : ∀ q, 1 ≤ q → q ≤ pts.length → q ∈ hs) : IsBest L pts name sec best :=
  ⟨fun hb q h1 h2 h3 => h.b0 hb q (hall q h1 h2) h3, fun hb => by
    obtain ⟨a, b, c, d⟩ := h.b1 hb
    obtain ⟨e, f⟩ := h.pos _ a
    exact ⟨e, f, b, c, fun q h1 h2 h3 h4 h5 => d q (hall q h1 h2) h3 h4 h5⟩⟩
theorem more_heard {pts : List Sp} {k : Nat} {ls : List Sd} {now : Int} (h : SdsI pts k pts.length ls now) {hs : List Nat} (hh : ∀ q, q ∈ hs ↔ 1 ≤ q ∧ q ≤ pts.length ∧ chanOf pts q ≤ (k : Int)) (q : Nat) : q ∈ hs ++ ls.map Sd.n ↔ 1 ≤ q ∧ q ≤ pts.length ∧ chanOf pts q ≤ ((k + 1 : Nat) : Int) := by
  rw [List.mem_append, hh, List.mem_map]
  constructor
  · rintro (⟨a, b, c⟩ | ⟨x, hx, rfl⟩)
    · exact ⟨a, b, by omega⟩
    · obtain ⟨a, b, c, _⟩ := h.el x hx
      exact ⟨a, b, by omega⟩
  · rintro ⟨a, b, c⟩
    by_cases e : chanOf pts q ≤ (k : Int)
    · exact .inl ⟨a, b, e⟩
    · obtain ⟨x, hx, hq⟩ := h.all q a b (by omega)
      exact .inr ⟨x, hx, hq⟩
theorem not_heard {pts : List Sp} {k : Nat} {ls : List Sd} {now : Int} (h : SdsI pts k pts.length ls now) {hs : List Nat} (hh : ∀ q, q ∈ hs ↔ 1 ≤ q ∧ q ≤ pts.length ∧ chanOf pts q ≤ (k : Int)) : ∀ x ∈ ls, x.n ∉ hs := fun x hx hm => by
  obtain ⟨_, _, c, _⟩ := h.el x hx
  have := ((hh x.n).1 hm).2.2
  omega
/-- where the visits stand -/
structure Lo where
  k : Nat
  best : Nat
  p : Option Addr
  c : Nat
  l : List Cd
  lv : List Int
  hs : List Nat

set_option maxHeartbeats 4000000 in
theorem chosen_c (power : Int) (hp : 0 ≤ power ∧ power ≤ 300) (self : Sp) (hself : SpOk self) (pp : Option Addr) (n cp : Nat) (pts : List Sp) (hl : pts.length = n) (hn : n ≤ 8) (hpts : ∀ q ∈ pts, SpOk q) (hnm : ∀ q ∈ pts, q.nm.data.toList.length ≤ 32) (pw : Option Addr) (m cw : Nat) (sw : List Nat) (hm : sw.length = m) (hm2 : m ≤ 100) (hsw : ∀ z ∈ sw, z ≤ 65535) (name : ByteArray) (sec : Bool) :
  Does Tryz.prog 7 [.int .i64 power, .agg #[.int .i16 self.x, .int .i16 self.y, .int .u8 (self.ch : Int), .int .u8 (self.ld : Int), .string self.nm, .int .u16 (self.iv : Int), .bool self.sec], .slice pp n cp, .slice pw m cw, .string name, .bool sec] [] (fun W => Rd W pp (pts.flatMap spC) ∧ Rd W pw (sw.flatMap u16C)) (X := Nat) (fun b => IsBest (lvAt power self pts sw) pts name sec b) (fun b => .tuple #[.int .i64 (b : Int), .bool true]) (fun _ => []) := by
 subst hl
 refine Does.enter Tryz.func7 rfl (m := 483) rfl (by simp) ?_
 intro W0 hro
 refine VC.seq ?_
 refine VC.region ?_
 refine VL.eff (O.box rfl rfl (by decide) ?_)
 intro g7
 refine VL.q (Q.assign rfl) ?_
 refine VL.q (Q.assign rfl) ?_
 refine VL.nil ?_
 refine VE.seq ?_
 refine VC.seq ?_
 refine VC.region ?_
 refine VL.q (Q.move rfl) ?_
 refine VL.q (Q.loadA ty34 rfl zM zS) ?_
 refine VL.q (Q.move rfl) ?_
 refine VL.q (Q.move rfl) ?_
 refine VL.eff (O.call0 ok14 rfl rfl (by decide) (world_c power hp self hself pp pts.length cp pts rfl hn hpts pw m cw sw hm hm2 hsw) (fun _ ho _ => ⟨hro.1.only0 ho, hro.2.only0 ho⟩) ?_)
 rintro ⟨pr, cr, ps, cs, sh, idw⟩ hsd
 dsimp only at hsd
 dsimp only
 refine VK.know (∃ b o, pr = some ⟨b, o, none⟩) (ids := idw) (H := fun W => RdW W pr (rsOf power self pts) ps sh) zM (fun W hW => hW.1.pos (by rw [fm_length raC_len, rsOf_len]; omega)) ?_
 rintro ⟨b0, o0, hpr⟩
 subst hpr
 have hw : AirOk (rsOf power self pts) (sdOf sh) := by rw [hsd]; exact air_ok power hp self pts hn sw
 refine VL.eff (O.alloc zo68 (by decide) ?_)
 intro g14
 refine VL.eff (O.store ty68 rfl rfl rfl rfl zU zP ?_)
 refine VL.nil ?_
 refine VE.seq ?_
 refine VC.seq ?_
 refine VC.region ?_
 refine VL.eff (O.call0 ok15 rfl rfl (by decide) (get_c 0 (by decide) (by decide)) (fun _ _ _ => trivial) ?_)
 intro x61 y61
 refine VL.q (Q.move rfl) ?_
 refine VL.q (Q.extract rfl rfl) ?_
 refine VL.q (Q.extract rfl rfl) ?_
 refine VL.eff (O.alloc zo71 (by decide) ?_)
 intro g15
 refine VL.eff (O.store ty71 rfl rfl rfl rfl zU zP ?_)
 refine VL.q (Q.assign rfl) ?_
 refine VL.nil ?_
 refine VE.seq ?_
 refine VC.seq ?_
 refine VC.region ?_
 refine VL.eff (O.buildSlice sl78 ze3 (by decide) zF (by decide) ?_)
 intro g65
 refine VL.eff (O.call0 ok16 rfl rfl (by decide) (plan_c g65) (fun _ _ hW => Rd.own hW zM (fun j u hj => by rw [Nat.zero_add]; exact hj)) ?_)
 rintro ⟨pv, cv⟩ _
 refine VK.rowHead (m := 4) (p := pv) (c := cv) zM (by decide) ?_
 intro gv hgv _ _
 subst hgv
 refine VL.q (Q.move rfl) ?_
 refine VL.q (Q.extract rfl rfl) ?_
 refine VL.q (Q.extract rfl rfl) ?_
 refine VL.q (Q.assign rfl) ?_
 refine VL.q (Q.assign rfl) ?_
 refine VL.nil ?_
 refine VE.seq ?_
 refine VC.seq ?_
 refine VC.seq ?_
 refine VC.region ?_
 refine VL.q (Q.move rfl) ?_
 refine VL.quietE (v' := .bool false) (by decide) (Q.ne rfl rfl) (by rfl) ?_
 refine VL.q (Q.move rfl) ?_
 refine VL.yes rfl rfl ?_
 refine VL.q (Q.move rfl) ?_
 refine VL.yes rfl rfl ?_
 refine VL.quietE (v' := .bool false) (by decide) (Q.ne rfl rfl) (by rfl) ?_
 refine VL.quietE (v' := .bool false) (by decide) (Q.pick_false rfl rfl) (by rfl) ?_
 refine VL.q (Q.move rfl) ?_
 refine VL.yes rfl rfl ?_
 refine VL.q (Q.move rfl) ?_
 refine VL.yes rfl rfl ?_
 refine VL.q (Q.len sl75 rfl) ?_
 refine VL.yes rfl rfl ?_
 refine VL.quietE (v' := .bool false) (by decide) (Q.ne rfl rfl) (by rfl) ?_
 refine VL.quietE (v' := .bool false) (by decide) (Q.pick_false rfl rfl) (by rfl) ?_
 refine VL.q (Q.move rfl) ?_
 refine VL.yes rfl rfl ?_
 refine VL.q (Q.loadA ty68 rfl zM zS) ?_
 refine VL.yes rfl rfl ?_
 refine VL.eff (O.call0 ok17 rfl rfl (by decide) (rcheck_c (some ⟨b0, o0, none⟩) cr (rsOf power self pts) ps cs sh hw) (fun _ _ hW => Rd.frz (H := (fun W => RdW W (some ⟨b0, o0, none⟩) (rsOf power self pts) ps sh)) hW zM) ?_)
 intro x82 y82
 refine VL.yes rfl rfl ?_
 refine VL.quietE (v' := .bool false) (by decide) (Q.ne rfl rfl) (by rfl) ?_
 refine VL.quietE (v' := .bool false) (by decide) (Q.pick_false rfl rfl) (by rfl) ?_
 refine VL.q (Q.move rfl) ?_
 refine VL.yes rfl rfl ?_
 refine VL.q (Q.loadA ty68 rfl zM zS) ?_
 refine VL.yes rfl rfl ?_
 refine VL.eff (O.call0 ok18 rfl rfl (by decide) (symm_c (some ⟨b0, o0, none⟩) cr (rsOf power self pts) ps cs sh hw) (fun _ _ hW => Rd.frz (H := (fun W => RdW W (some ⟨b0, o0, none⟩) (rsOf power self pts) ps sh)) hW zM) ?_)
 intro x87 y87
 refine VL.yes rfl rfl ?_
 refine VL.quietE (v' := .bool false) (by decide) (Q.not rfl) (by rfl) ?_
 refine VL.quietE (v' := .bool false) (by decide) (Q.pick_false rfl rfl) (by rfl) ?_
 refine VL.nil ?_
 refine VE.seq ?_
 refine VC.condF rfl ?_
 refine VC.skip ?_
 refine VE.seq ?_
 refine VC.seq ?_
 refine VK.keep (by exact .cons (i := 2) rfl (.cons (i := 4) rfl (.cons (i := 5) rfl (.cons (i := 12) rfl (.cons (i := 13) rfl (.cons (i := 14) rfl (.cons (i := 15) rfl (.cons (i := 16) rfl (.cons (i := 17) rfl (.cons (i := 18) rfl ( .nil))))))))))) ?_
 refine VC.region ?_
 refine VL.eff (O.alloc zo83 (by decide) ?_)
 intro g19
 refine VL.nil ?_
 refine VE.seq ?_
 refine VC.seq ?_
 refine VC.region ?_
 refine VL.q (Q.assign rfl) ?_
 refine VL.q (Q.assign rfl) ?_
 refine VL.nil ?_
 refine VE.seq ?_
 refine VC.seq ?_
 refine VC.region ?_
 refine VL.q (Q.move rfl) ?_
 refine VL.q (Q.len sl35 rfl) ?_
 refine VL.quietE (v' := .int .i64 ((pts.length + 1 : Nat) : Int)) (by decide) ((by first | exact Q.addI rfl rfl (by omega) (by omega) | exact Q.add rfl rfl)) (by rfl) ?_
 refine VL.eff (O.make ((pts.length + 1)) ((pts.length + 1)) sl78 ze3 rfl rfl rfl rfl (by omega) (by omega) (by unfold maxLen; omega) (by decide) ?_)
 intro g93
 refine VK.openAt (g := g93) (m := pts.length + 1) (c := pts.length + 1) (s := 1) (xs := _) zA ?_
 intro D hD _ _ _
 have hD0 : D = [] := List.eq_nil_of_length_eq_zero (by omega)
 subst hD0
 rw [List.append_nil, made_ints]
 refine VL.q (Q.assign rfl) ?_
 refine VL.nil ?_
 refine VE.seq ?_
 refine VC.seq ?_
 refine VC.seq ?_
 refine VC.region ?_
 refine VL.q (Q.assign rfl) ?_
 refine VL.nil ?_
 refine VE.seq ?_
 refine VC.block ?_
 refine VK.addNil 117 13 ?_
 refine VK.picks (Lin := [.blk g19 [.slice none ([] : List Cd).length 0] 83, .row (.slice none ([] : List Cd).length 0) 117 13 ([] : List Cd).length (([] : List Cd).flatMap cdC), .blk g93 ((List.replicate (pts.length + 1) (0 : Int)).flatMap intC) 3, .blk g14 [.slice (some ⟨b0, o0, none⟩) (rsOf power self pts).length cr, .slice ps sh.length cs] 68, .blk g15 [.int .i64 24, .int .i64 (-820), .bool true] 71, .row (.slice (some ⟨gv, 0, none⟩) 4 cv) 87 4 4 visC, .frz idw (fun W => RdW W (some ⟨b0, o0, none⟩) (rsOf power self pts) ps sh)]) zM2 ?_
 refine VC.loop (X := Lo) (fun x => [(2, .slice pp pts.length cp), (4, .string name), (5, .bool sec), (14, .pointer (some ⟨g14, 0, none⟩)), (15, .pointer (some ⟨g15, 0, none⟩)), (17, .slice (some ⟨gv, 0, none⟩) 4 cv), (19, .pointer (some ⟨g19, 0, none⟩)), (20, .int .i64 (x.best : Int)), (22, .slice (some ⟨g93, 0, none⟩) (pts.length + 1) (pts.length + 1)), (23, .int .i64 (x.k : Int)), (21, .int .i64 (100000 * (x.k : Int)))]) (fun x => [.blk g19 [.slice x.p x.l.length x.c] 83, .row (.slice x.p x.l.length x.c) 117 13 x.l.length (x.l.flatMap cdC), .blk g93 (x.lv.flatMap intC) 3, .blk g14 [.slice (some ⟨b0, o0, none⟩) (rsOf power self pts).length cr, .slice ps sh.length cs] 68, .blk g15 [.int .i64 24, .int .i64 (-820), .bool true] 71, .row (.slice (some ⟨gv, 0, none⟩) 4 cv) 87 4 4 visC, .frz idw (fun W => RdW W (some ⟨b0, o0, none⟩) (rsOf power self pts) ps sh)]) (fun x => x.k ≤ 4 ∧ Got (lvAt power self pts sw) pts name sec x.hs x.l x.lv x.best (100000 * (x.k : Int)) ∧ x.hs.length ≤ 8 * x.k ∧ ∀ q, q ∈ x.hs ↔ 1 ≤ q ∧ q ≤ pts.length ∧ chanOf pts q ≤ (x.k : Int)) (fun x => 4 - x.k) ⟨0, 0, none, 0, [], List.replicate (pts.length + 1) 0, []⟩ ⟨Nat.zero_le _, Got.start _, Nat.zero_le _, fun q => ⟨fun h => (by cases h), fun h => (by have := chan_bd pts q; have h3 : chanOf pts q ≤ ((0 : Nat) : Int) := h.2.2; omega)⟩⟩ ?_ ?_
 ·
  exact VS.mk zE (List.Sublist.refl _)
 ·
  rintro x ⟨hk, hx, hhl, hhs⟩
  refine VC.seq ?_
  refine VC.seq ?_
  refine VC.region ?_
  refine VL.q (Q.move rfl) ?_
  refine VL.q (Q.move rfl) ?_
  refine VL.q (Q.len sl75 rfl) ?_
  refine VL.q (Q.lt rfl rfl) ?_
  refine VL.nil ?_
  refine VE.seq ?_
  refine VC.cond rfl ?_ ?_
  ·
   intro h97
   have hk4 : x.k < 4 := by have := of_decide_eq_true h97; omega
   refine VC.skip ?_
   refine VE.seq ?_
   refine VC.seq ?_
   refine VC.block ?_
   refine VC.seqJ (X := Wx × Nat) (fun z => [(2, .slice pp pts.length cp), (4, .string name), (5, .bool sec), (14, .pointer (some ⟨g14, 0, none⟩)), (15, .pointer (some ⟨g15, 0, none⟩)), (17, .slice (some ⟨gv, 0, none⟩) 4 cv), (19, .pointer (some ⟨g19, 0, none⟩)), (20, .int .i64 (x.best : Int)), (22, .slice (some ⟨g93, 0, none⟩) (pts.length + 1) (pts.length + 1)), (23, .int .i64 (x.k : Int)), (24, .pointer (some ⟨z.2, 0, none⟩)), (25, .int .i64 0)]) (fun z => (.blk z.2 [.slice z.1.pr (tuneR (rsOf power self pts) 0 ((x.k : Int) + 1)).length z.1.cr, .slice z.1.ps z.1.sh.length z.1.cs] 68 :: .frz z.1.ids (fun W => RdW W z.1.pr (tuneR (rsOf power self pts) 0 ((x.k : Int) + 1)) z.1.ps z.1.sh) :: [.blk g19 [.slice x.p x.l.length x.c] 83, .row (.slice x.p x.l.length x.c) 117 13 x.l.length (x.l.flatMap cdC), .blk g93 (x.lv.flatMap intC) 3, .blk g14 [.slice (some ⟨b0, o0, none⟩) (rsOf power self pts).length cr, .slice ps sh.length cs] 68, .blk g15 [.int .i64 24, .int .i64 (-820), .bool true] 71, .row (.slice (some ⟨gv, 0, none⟩) 4 cv) 87 4 4 visC, .frz idw (fun W => RdW W (some ⟨b0, o0, none⟩) (rsOf power self pts) ps sh)])) (fun z => sdOf z.1.sh = sdOf sh) ?_ ?_
   ·
    refine VA.start (Ls := [.blk g14 [.slice (some ⟨b0, o0, none⟩) (rsOf power self pts).length cr, .slice ps sh.length cs] 68, .row (.slice (some ⟨gv, 0, none⟩) 4 cv) 87 4 4 visC]) (Cs := []) mixed ?_
    refine VA.tk 0 rfl (zt (zb (zttb (zt ze)))) zB Cells.nil (Quiet.c (Q.loadA ty68 rfl zM zS)) ?_
    refine VA.tk 1 rfl (zt (zb (zttb (zt ze)))) zB Cells.nil (Quiet.c (Q.move rfl)) ?_
    refine VA.tk 2 rfl (zt (zb (zttb (zt ze)))) zB Cells.nil (Quiet.c (Q.move rfl)) ?_
    refine VA.tk 3 rfl (zt (zb (zttb (zt ze)))) zB Cells.nil (Quiet.c (Q.indexAddr sl75 (j := x.k) rfl rfl rfl hk4)) ?_
    refine VA.tk 4 rfl (zt (zb (zttb (zt ze)))) zB Cells.nil (Quiet.c (Q.fieldAddr fa87_0 rfl)) ?_
    refine VA.tk 5 rfl (zt (zb (zttb (zt ze)))) zB Cells.nil (Quiet.c (Q.loadRow (v := .int .i64 ((x.k : Int) + 1)) ty3 rfl zM (by rw [Nat.zero_add]; exact (vis_at x.k hk4).1))) ?_
    refine VA.all (rs := [6, 10]) (by kernel_rfl) (by simp) ?_
    refine VA.forall2 ?_ ?_
    ·
     refine VA.eff rfl ?_
     refine id (O.call0 ok19 rfl rfl (by decide) (tune_c (some ⟨b0, o0, none⟩) cr (rsOf power self pts) ps cs sh hw 0 (by rw [rsOf_len]; omega) ((x.k : Int) + 1) (by omega)) (fun _ _ hW => Rd.frz (H := (fun W => RdW W (some ⟨b0, o0, none⟩) (rsOf power self pts) ps sh)) hW zM) ?_)
     rintro ⟨pr2, cr2, ps2, cs2, sh2, idt⟩ ht2
     dsimp only at ht2
     dsimp only
     refine VA.next zB Cells.nil ?_
     refine VA.tk 7 rfl (zt (zb (zttb (zt ze)))) zB Cells.nil (Quiet.c (Q.move rfl)) ?_
     refine VA.tk 8 rfl (zt (zb (zttb (zt ze)))) zB Cells.nil (Quiet.c (Q.extract rfl rfl)) ?_
     refine VA.tk 9 rfl (zt (zb (zttb (zt ze)))) zB Cells.nil (Quiet.c (Q.extract rfl rfl)) ?_
     refine VA.all (rs := [10]) (by kernel_rfl) (by simp) ?_
     refine VA.forall1 ?_
     ·
      refine VA.eff rfl ?_
      refine id (O.alloc zo68 (by decide) ?_)
      intro g24
      refine VA.next zB Cells.nil ?_
      refine VA.all (rs := [11]) (by kernel_rfl) (by simp) ?_
      refine VA.forall1 ?_
      ·
       refine VA.eff rfl ?_
       refine id (O.store ty68 rfl rfl rfl rfl zU zP ?_)
       refine VA.next zB Cells.nil ?_
       refine VA.tk 12 rfl (zt (zb (zttb (zt ze)))) zB Cells.nil (Quiet.c (Q.assign rfl)) ?_
       refine VA.done (by kernel_rfl) ?_
       refine VE.then_normal ?_
       exact VE.meetP (⟨pr2, cr2, ps2, cs2, sh2, idt⟩, g24) ht2 zE zM2
    ·
     refine VA.eff rfl ?_
     refine id (O.alloc zo68 (by decide) ?_)
     intro g24_1
     refine VA.next zB Cells.nil ?_
     refine VA.all (rs := [6]) (by kernel_rfl) (by simp) ?_
     refine VA.forall1 ?_
     ·
      refine VA.eff rfl ?_
      refine id (O.call0 ok19 rfl rfl (by decide) (tune_c (some ⟨b0, o0, none⟩) cr (rsOf power self pts) ps cs sh hw 0 (by rw [rsOf_len]; omega) ((x.k : Int) + 1) (by omega)) (fun _ _ hW => Rd.frz (H := (fun W => RdW W (some ⟨b0, o0, none⟩) (rsOf power self pts) ps sh)) hW zM) ?_)
      rintro ⟨pr2, cr2, ps2, cs2, sh2, idt⟩ ht2
      dsimp only at ht2
      dsimp only
      refine VA.next zB Cells.nil ?_
      refine VA.tk 7 rfl (zt (zb (zttb (zt ze)))) zB Cells.nil (Quiet.c (Q.move rfl)) ?_
      refine VA.tk 8 rfl (zt (zb (zttb (zt ze)))) zB Cells.nil (Quiet.c (Q.extract rfl rfl)) ?_
      refine VA.tk 9 rfl (zt (zb (zttb (zt ze)))) zB Cells.nil (Quiet.c (Q.extract rfl rfl)) ?_
      refine VA.all (rs := [11]) (by kernel_rfl) (by simp) ?_
      refine VA.forall1 ?_
      ·
       refine VA.eff rfl ?_
       refine id (O.store ty68 rfl rfl rfl rfl zU zP ?_)
       refine VA.next zB Cells.nil ?_
       refine VA.tk 12 rfl (zt (zb (zttb (zt ze)))) zB Cells.nil (Quiet.c (Q.assign rfl)) ?_
       refine VA.done (by kernel_rfl) ?_
       refine VE.then_normal ?_
       exact VE.meetP (⟨pr2, cr2, ps2, cs2, sh2, idt⟩, g24_1) ht2 zE zM2
   ·
    rintro ⟨⟨pr2, cr2, ps2, cs2, sh2, idt⟩, g24⟩ ht2
    dsimp only at ht2
    refine VC.seq ?_
    refine VC.seq ?_
    refine VC.region ?_
    refine VL.q (Q.move rfl) ?_
    refine VL.quietE (v' := .bool false) (by decide) (Q.ne rfl rfl) (by rfl) ?_
    refine VL.nil ?_
    refine VE.seq ?_
    refine VC.condF rfl ?_
    refine VC.skip ?_
    refine VE.seq ?_
    refine VC.seq ?_
    refine VC.region ?_
    refine VL.q (Q.assign rfl) ?_
    refine VL.nil ?_
    refine VE.seq ?_
    refine VC.seq ?_
    refine VC.region ?_
    refine VL.q (Q.assign rfl) ?_
    refine VL.nil ?_
    refine VE.seq ?_
    refine VC.seq ?_
    refine VC.region ?_
    refine VL.q (Q.move rfl) ?_
    refine VL.q (Q.move rfl) ?_
    refine VL.q (Q.indexAddr sl75 (j := x.k) rfl rfl rfl hk4) ?_
    refine VL.q (Q.fieldAddr fa87_1 rfl) ?_
    refine VL.q (Q.loadRow (v := .int .i64 (100000 * (x.k : Int))) ty3 rfl zM (by rw [Nat.zero_add]; exact (vis_at x.k hk4).2.1)) ?_
    refine VL.q (Q.assign rfl) ?_
    refine VL.nil ?_
    refine VE.seq ?_
    refine VC.seq ?_
    refine VC.seq ?_
    refine VC.region ?_
    refine VL.q (Q.assign rfl) ?_
    refine VL.nil ?_
    refine VE.seq ?_
    refine VK.keep (E' := [(2, .slice pp pts.length cp), (4, .string name), (5, .bool sec), (14, .pointer (some ⟨g14, 0, none⟩)), (15, .pointer (some ⟨g15, 0, none⟩)), (17, .slice (some ⟨gv, 0, none⟩) 4 cv), (19, .pointer (some ⟨g19, 0, none⟩)), (20, .int .i64 (x.best : Int)), (22, .slice (some ⟨g93, 0, none⟩) (pts.length + 1) (pts.length + 1)), (23, .int .i64 (x.k : Int)), (24, .pointer (some ⟨g24, 0, none⟩)), (26, .slice none 0 0), (27, .slice none 0 0), (21, .int .i64 (100000 * (x.k : Int))), (28, .int .i64 0)]) zE ?_
    refine VK.picks (Lin := (.blk g14 [.slice (some ⟨b0, o0, none⟩) (rsOf power self pts).length cr, .slice ps sh.length cs] 68 :: .blk g15 [.int .i64 24, .int .i64 (-820), .bool true] 71 :: .row (.slice (some ⟨gv, 0, none⟩) 4 cv) 87 4 4 visC :: .frz idw (fun W => RdW W (some ⟨b0, o0, none⟩) (rsOf power self pts) ps sh) :: [.blk g19 [.slice x.p x.l.length x.c] 83, .row (.slice x.p x.l.length x.c) 117 13 x.l.length (x.l.flatMap cdC), .blk g93 (x.lv.flatMap intC) 3, .blk g24 [.slice pr2 (tuneR (rsOf power self pts) 0 ((x.k : Int) + 1)).length cr2, .slice ps2 sh2.length cs2] 68, .frz idt (fun W => RdW W pr2 (tuneR (rsOf power self pts) 0 ((x.k : Int) + 1)) ps2 sh2)])) zM2 ?_
    refine (list_p W0 _ rfl power self pp cp pts hn hpts hnm hro.1 name sec g14 g15 gv cv g19 g93 g24 b0 o0 cr ps cs sh idw x.k x.best hk4 _) _ (zt (zb (zttb (zt ze)))) ?_
    rintro ⟨zi, lp, lc, ls, tp, tc, ts, now, idb⟩ ⟨hzi, hsI, htx⟩
    dsimp only at hzi hsI htx
    dsimp only
    have hnow := hsI.now
    have hwt : AirOk (tuneR (rsOf power self pts) 0 ((x.k : Int) + 1)) (sdOf sh2) := by rw [ht2]; exact hw.tune 0 (by rw [rsOf_len]; omega) _ (by omega)
    refine VE.seq ?_
    refine VC.seq ?_
    refine VC.region ?_
    refine VL.q (Q.loadA ty68 rfl zM zS) ?_
    refine VL.q (Q.move rfl) ?_
    refine VK.rowCap (p := lp) (m := ls.length) (c := lc) zM fun hcap => ?_
    refine VL.eff (O.call0 ok22 rfl rfl (by decide) (receivers_c pr2 cr2 (tuneR (rsOf power self pts) 0 ((x.k : Int) + 1)) ps2 cs2 sh2 hwt lp ls.length lc ls rfl hcap (by rw [tuneR_len, rsOf_len]; exact hsI.ok hn hk4)) (fun _ _ hW => ⟨Rd.frz (H := (fun W => RdW W pr2 (tuneR (rsOf power self pts) 0 ((x.k : Int) + 1)) ps2 sh2)) hW zM, Rd.row hW zM⟩) ?_)
    rintro ⟨q33, c33, rows, idr⟩ hrows
    dsimp only at hrows
    dsimp only
    have hrl : rows.length = ls.length := by have := congrArg List.length hrows; simpa using this
    refine VL.q (Q.move rfl) ?_
    refine VL.q (Q.extract rfl rfl) ?_
    refine VL.q (Q.extract rfl rfl) ?_
    refine VL.q (Q.assign rfl) ?_
    refine VL.q (Q.assign rfl) ?_
    refine VL.nil ?_
    refine VE.seq ?_
    refine VC.seq ?_
    refine VC.seq ?_
    refine VC.region ?_
    refine VL.q (Q.move rfl) ?_
    refine VL.quietE (v' := .bool false) (by decide) (Q.ne rfl rfl) (by rfl) ?_
    refine VL.q (Q.move rfl) ?_
    refine VL.yes rfl rfl ?_
    refine VL.q (Q.move rfl) ?_
    refine VL.yes rfl rfl ?_
    refine VL.q (Q.len sl66 rfl) ?_
    refine VL.yes rfl rfl ?_
    refine VL.q (Q.move rfl) ?_
    refine VL.yes rfl rfl ?_
    refine VL.q (Q.len sl88 rfl) ?_
    refine VL.yes rfl rfl ?_
    refine VL.quietE (v' := .bool false) (by decide) (Q.ne rfl rfl) (congrArg Value.bool (by simp; omega)) ?_
    refine VL.quietE (v' := .bool false) (by decide) (Q.pick_false rfl rfl) (by rfl) ?_
    refine VL.q (Q.move rfl) ?_
    refine VL.yes rfl rfl ?_
    refine VL.q (Q.move rfl) ?_
    refine VL.yes rfl rfl ?_
    refine VL.q (Q.move rfl) ?_
    refine VL.yes rfl rfl ?_
    refine VL.q (Q.move rfl) ?_
    refine VL.yes rfl rfl ?_
    refine VL.q (Q.indexAddr sl75 (j := x.k) rfl rfl rfl hk4) ?_
    refine VL.yes rfl rfl ?_
    refine VL.q (Q.fieldAddr fa87_2 rfl) ?_
    refine VL.yes rfl rfl ?_
    refine VL.q (Q.loadRow (v := .int .i64 (100000 * (x.k : Int) + 100000)) ty3 rfl zM (by rw [Nat.zero_add]; exact (vis_at x.k hk4).2.2)) ?_
    refine VL.yes rfl rfl ?_
    refine VL.quietE (v' := .bool false) (by decide) (Q.gt rfl rfl) (congrArg Value.bool (decide_eq_false (by omega))) ?_
    refine VL.quietE (v' := .bool false) (by decide) (Q.pick_false rfl rfl) (by rfl) ?_
    refine VL.nil ?_
    refine VE.seq ?_
    refine VC.condF rfl ?_
    refine VC.skip ?_
    refine VE.seq ?_
    refine VC.seq ?_
    refine VC.seq ?_
    refine VC.region ?_
    refine VL.q (Q.assign rfl) ?_
    refine VL.nil ?_
    refine VE.seq ?_
    refine VK.keep (E' := [(2, .slice pp pts.length cp), (4, .string name), (5, .bool sec), (14, .pointer (some ⟨g14, 0, none⟩)), (15, .pointer (some ⟨g15, 0, none⟩)), (17, .slice (some ⟨gv, 0, none⟩) 4 cv), (19, .pointer (some ⟨g19, 0, none⟩)), (20, .int .i64 (x.best : Int)), (22, .slice (some ⟨g93, 0, none⟩) (pts.length + 1) (pts.length + 1)), (23, .int .i64 (x.k : Int)), (24, .pointer (some ⟨g24, 0, none⟩)), (26, .slice lp ls.length lc), (27, .slice tp ts.length tc), (33, .slice q33 rows.length c33), (21, .int .i64 now), (34, .int .i64 0)]) zE ?_
    refine VK.picks (Lin := [.blk g19 [.slice x.p x.l.length x.c] 83, .row (.slice x.p x.l.length x.c) 117 13 x.l.length (x.l.flatMap cdC), .blk g93 (x.lv.flatMap intC) 3, .blk g24 [.slice pr2 (tuneR (rsOf power self pts) 0 ((x.k : Int) + 1)).length cr2, .slice ps2 sh2.length cs2] 68, .frz idt (fun W => RdW W pr2 (tuneR (rsOf power self pts) 0 ((x.k : Int) + 1)) ps2 sh2), .frz idr (fun W => Rd W q33 (rows.flatMap rowC) ∧ RdRows rows W), .row (.slice lp ls.length lc) 97 4 ls.length (ls.flatMap sdC), .row (.slice tp ts.length tc) 23 1 ts.length (ts.flatMap brC), .frz idb (RdB ts), .blk g14 [.slice (some ⟨b0, o0, none⟩) (rsOf power self pts).length cr, .slice ps sh.length cs] 68, .blk g15 [.int .i64 24, .int .i64 (-820), .bool true] 71, .row (.slice (some ⟨gv, 0, none⟩) 4 cv) 87 4 4 visC, .frz idw (fun W => RdW W (some ⟨b0, o0, none⟩) (rsOf power self pts) ps sh)]) zM2 ?_
    refine (learn_p W0 _ rfl power self pp cp pts hn hpts hnm hro.1 name sec g14 g15 gv cv g19 g93 g24 b0 o0 cr ps cs sh idw sw hw hsd pr2 cr2 ps2 cs2 sh2 idt ht2 x.k hk4 lp lc ls tp tc ts now idb hsI htx q33 c33 rows idr hrows x.hs hhl (not_heard hsI hhs) x.p x.c x.l x.lv x.best (hx.later (by omega))) _ (zt (zb (zttb (zt ze)))) ?_
    rintro y ⟨hym, hyg⟩
    refine VE.seq ?_
    refine VC.region ?_
    refine VL.q (Q.move rfl) ?_
    refine VL.q (Q.move rfl) ?_
    refine VL.q (Q.indexAddr sl75 (j := x.k) rfl rfl rfl hk4) ?_
    refine VL.q (Q.fieldAddr fa87_2 rfl) ?_
    refine VL.q (Q.loadRow (v := .int .i64 (100000 * (x.k : Int) + 100000)) ty3 rfl zM (by rw [Nat.zero_add]; exact (vis_at x.k hk4).2.2)) ?_
    refine VL.q (Q.assign rfl) ?_
    refine VL.nil ?_
    refine VE.block_normal ?_
    refine VE.seq ?_
    refine VC.region ?_
    refine VL.q (Q.move rfl) ?_
    refine VL.q ((by first | exact Q.addI rfl rfl (by omega) (by omega) | exact Q.add rfl rfl)) ?_
    refine VL.q (Q.assign rfl) ?_
    refine VL.nil ?_
    refine VE.then_normal ?_
    refine VK.picks (Lin := [.blk g19 [.slice y.p y.l.length y.c] 83, .row (.slice y.p y.l.length y.c) 117 13 y.l.length (y.l.flatMap cdC), .blk g93 (y.lv.flatMap intC) 3, .blk g14 [.slice (some ⟨b0, o0, none⟩) (rsOf power self pts).length cr, .slice ps sh.length cs] 68, .blk g15 [.int .i64 24, .int .i64 (-820), .bool true] 71, .row (.slice (some ⟨gv, 0, none⟩) 4 cv) 87 4 4 visC, .frz idw (fun W => RdW W (some ⟨b0, o0, none⟩) (rsOf power self pts) ps sh)]) zM2 ?_
    refine VE.round (⟨x.k + 1, y.best, y.p, y.c, y.l, y.lv, x.hs ++ ls.map Sd.n⟩ : Lo) ?_ ?_ ?_ (List.Sublist.refl _)
    ·
     refine ⟨by show x.k + 1 ≤ 4; omega, ?_, ?_, more_heard hsI hhs⟩
     ·
      show Got _ _ _ _ _ _ _ _ (100000 * ((x.k + 1 : Nat) : Int))
      rw [show ((x.k + 1 : Nat) : Int) = (x.k : Int) + 1 from by omega]
      exact hyg
     ·
      show (x.hs ++ ls.map Sd.n).length ≤ 8 * (x.k + 1)
      rw [List.length_append, List.length_map]
      have := hsI.len
      omega
    ·
     show 4 - (x.k + 1) < 4 - x.k
     omega
    ·
     show Env _ [(2, .slice pp pts.length cp), (4, .string name), (5, .bool sec), (14, .pointer (some ⟨g14, 0, none⟩)), (15, .pointer (some ⟨g15, 0, none⟩)), (17, .slice (some ⟨gv, 0, none⟩) 4 cv), (19, .pointer (some ⟨g19, 0, none⟩)), (20, .int .i64 (y.best : Int)), (22, .slice (some ⟨g93, 0, none⟩) (pts.length + 1) (pts.length + 1)), (23, .int .i64 ((x.k + 1 : Nat) : Int)), (21, .int .i64 (100000 * ((x.k + 1 : Nat) : Int)))]
     rw [show (100000 * ((x.k + 1 : Nat) : Int)) = 100000 * (x.k : Int) + 100000 from by omega, show ((x.k + 1 : Nat) : Int) = (x.k : Int) + 1 from by omega]
     exact zE
  ·
   intro h97
   have hke : x.k = 4 := by have := of_decide_eq_false h97; omega
   have hall : ∀ q, 1 ≤ q → q ≤ pts.length → q ∈ x.hs := fun q h1 h2 => (hhs q).2 ⟨h1, h2, by have := chan_bd pts q; omega⟩
   have hib0 := hx.isBest hall
   have hmo := hx.most
   refine VC.exit ?_
   refine VE.then_exit ?_
   refine VE.then_exit ?_
   refine VE.block_here ?_
   refine VE.seq ?_
   refine VC.seq ?_
   refine VC.region ?_
   refine VL.q (Q.loadA ty83 rfl zM zS) ?_
   refine VL.q (Q.move rfl) ?_
   refine VL.q (Q.move rfl) ?_
   refine VL.q (Q.build lay121 zF) ?_
   refine VL.q (Q.move rfl) ?_
   refine VL.eff (O.call0 ok28 rfl rfl (by decide) (choose_c x.p x.l.length x.c x.l rfl (by omega) hx.tab name sec (100000 * (x.k : Int)) (by omega) (fun q hq => (hx.cd q hq).2.2.2.2.2.2.2)) (fun _ _ hW => Rd.row hW zM) ?_)
   intro x357 y357
   rcases Nat.eq_zero_or_pos x.best with hb0 | hb0
   ·
    rw [(hx.choose).1 hb0]
    show VK W0 _ _ _ ((357, .tuple #[.agg #[.int .u8 0, .int .u8 0, .int .u8 0, .int .u8 0, .int .u8 0, .int .u8 0, .int .i64 0, .int .i64 0, .int .i64 0, .int .i64 0, .int .i64 0, .string ByteArray.empty, .bool false], .int .i64 6]) :: _) _
    refine VL.q (Q.move rfl) ?_
    refine VL.q (Q.extract rfl rfl) ?_
    refine VL.q (Q.extract rfl rfl) ?_
    refine VL.eff (O.alloc zo117 (by decide) ?_)
    intro g44
    refine VL.eff (O.store ty117 rfl rfl rfl rfl zU zP ?_)
    refine VL.q (Q.assign rfl) ?_
    refine VL.nil ?_
    refine VE.seq ?_
    refine VC.seq ?_
    refine VC.seq ?_
    refine VC.region ?_
    refine VL.q (Q.move rfl) ?_
    refine VL.quietE (v' := .bool true) (by decide) (Q.eq rfl rfl) (congrArg Value.bool (by simp; omega)) ?_
    refine VL.nil ?_
    refine VE.seq ?_
    refine VC.condT rfl ?_
    refine VC.seq ?_
    refine VC.region ?_
    refine VL.q (Q.move rfl) ?_
    refine VL.quietE (v' := .bool true) (by decide) (Q.eq rfl rfl) (by rfl) ?_
    refine VL.q (Q.assign rfl) ?_
    refine VL.q (Q.assign rfl) ?_
    refine VL.nil ?_
    refine VE.seq ?_
    refine VC.ret ?_
    refine VE.then_ret ?_
    exact VE.ret rfl (.tmp rfl (.tmp rfl .nil)) 0 (by rw [hb0] at hib0; exact hib0) rfl (List.nil_sublist _)
   ·
    obtain ⟨c, hpc, hca, hcl⟩ := (hx.choose).2 (by omega)
    rw [hpc]
    show VK W0 _ _ _ ((357, .tuple #[.agg #[.int .u8 2, .int .u8 0, .int .u8 0, .int .u8 0, .int .u8 1, .int .u8 (c.a : Int), .int .i64 c.ch, .int .i64 c.lv, .int .i64 c.ld, .int .i64 c.hd, .int .i64 c.iv, .string c.nm, .bool c.sec], .int .i64 0]) :: _) _
    obtain ⟨_, hcL, hcch, hclv, _⟩ := hx.cd c hcl
    rw [hca] at hcL hcch hclv
    obtain ⟨hb1, hb2, _⟩ := hx.b1 (by omega)
    obtain ⟨hb4, hb5⟩ := hx.pos _ hb1
    have hchb := chan_bd pts x.best
    have hlvb : (x.lv[x.best]'(by rw [hx.len]; omega)) = (lvAt power self pts sw x.best) := by
     have h1 := hx.lvs _ hb1 hb2
     rw [List.getElem?_eq_getElem (by rw [hx.len]; omega)] at h1
     exact Option.some.inj h1
    have hcok := hx.tab.ok c hcl
    have hcl1 := hcok.lv
    have hwt3 : AirOk (tuneR (rsOf power self pts) 0 c.ch) (sdOf sh) := hw.tune 0 (by rw [rsOf_len]; omega) _ (by omega)
    have hl3 : (tuneR (rsOf power self pts) 0 c.ch).length = pts.length + 1 := by rw [tuneR_len, rsOf_len]
    have hsym : lev (rsOf power self pts) (sdOf sh) 0 x.best = (lvAt power self pts sw x.best) := by
     rw [lev_sym power self pts _ hw.sym x.best hb4 hb5, hsd]
     rfl
    refine VL.q (Q.move rfl) ?_
    refine VL.q (Q.extract rfl rfl) ?_
    refine VL.q (Q.extract rfl rfl) ?_
    refine VL.eff (O.alloc zo117 (by decide) ?_)
    intro g44
    refine VL.eff (O.store ty117 rfl rfl rfl rfl zU zP ?_)
    refine VL.q (Q.assign rfl) ?_
    refine VL.nil ?_
    refine VE.seq ?_
    refine VC.seq ?_
    refine VC.seq ?_
    refine VC.region ?_
    refine VL.q (Q.move rfl) ?_
    refine VL.quietE (v' := .bool false) (by decide) (Q.eq rfl rfl) (congrArg Value.bool (by simp; omega)) ?_
    refine VL.nil ?_
    refine VE.seq ?_
    refine VC.condF rfl ?_
    refine VC.skip ?_
    refine VE.seq ?_
    refine VC.seq ?_
    refine VC.seq ?_
    refine VA.start (Ls := [.blk g44 [.int .u8 2, .int .u8 0, .int .u8 0, .int .u8 0, .int .u8 1, .int .u8 (c.a : Int), .int .i64 c.ch, .int .i64 c.lv, .int .i64 c.ld, .int .i64 c.hd, .int .i64 c.iv, .string c.nm, .bool c.sec] 117, .blk g93 (x.lv.flatMap intC) 3, .blk g14 [.slice (some ⟨b0, o0, none⟩) (rsOf power self pts).length cr, .slice ps sh.length cs] 68, .frz idw (fun W => RdW W (some ⟨b0, o0, none⟩) (rsOf power self pts) ps sh)]) (Cs := []) mixed ?_
    refine VA.tk 0 rfl (ztt ze) zB Cells.nil (Quiet.c (Q.move rfl)) ?_
    refine VA.tk 1 rfl (ztt ze) zB Cells.nil (Quiet.c (Q.ne rfl rfl)) ?_
    refine VA.tk 2 rfl (ztt ze) zB Cells.nil (Quiet.c (Q.move rfl)) ?_
    refine VA.tkY 3 rfl (ztt ze) zB Cells.nil (Quiet.c (Q.fieldAddr fa117_0 rfl)) ?_
    refine VA.tkY 4 rfl (ztt ze) zB Cells.nil (Quiet.c (Q.loadA ty44 rfl zM zS)) ?_
    refine VA.tkY 5 rfl (ztt ze) zB Cells.nil (Quiet.c (Q.move rfl)) ?_
    refine VA.all (rs := [6]) (by kernel_rfl) (by simp) ?_
    refine VA.forall1 ?_
    ·
     refine VA.effY rfl rfl rfl ?_
     refine id (O.call0 ok29 rfl rfl (by decide) (point_c x.best (by omega)) (fun _ _ _ => trivial) ?_)
     intro x370 y370
     refine VA.next zB Cells.nil ?_
     refine VA.tkY 7 rfl (ztt ze) zB Cells.nil (Quiet.c (Quiet.to (v' := .bool false) (Q.neS flt44 (by decide) ty44 eg44 rfl rfl rfl rfl) (congrArg Value.bool (congrArg (!·) ((node_eq c.a x.best).trans (decide_eq_true hca)))))) ?_
     refine VA.tk 8 rfl (ztt ze) zB Cells.nil (Quiet.c (Q.pick_false rfl rfl)) ?_
     refine VA.tk 9 rfl (ztt ze) zB Cells.nil (Quiet.c (Q.move rfl)) ?_
     refine VA.tkY 10 rfl (ztt ze) zB Cells.nil (Quiet.c (Q.fieldAddr fa117_2 rfl)) ?_
     refine VA.tkY 11 rfl (ztt ze) zB Cells.nil (Quiet.c (Q.load1 ty3 rfl zM rfl)) ?_
     refine VA.tkY 12 rfl (ztt ze) zB Cells.nil (Quiet.c (Q.move rfl)) ?_
     refine VA.tkY 13 rfl (ztt ze) zB Cells.nil (Quiet.c (Q.move rfl)) ?_
     refine VA.tkY 14 rfl (ztt ze) zB Cells.nil (Quiet.c (Q.indexAddr sl78 (j := x.best) rfl rfl rfl (by omega))) ?_
     refine VA.tkY 15 rfl (ztt ze) zB Cells.nil (Quiet.c (Q.load1 (v := .int .i64 (lvAt power self pts sw x.best)) ty3 rfl zM (by rw [Nat.zero_add]; exact fm_at intC_len _ x.best (by rw [hx.len]; omega) _ (by rw [hlvb]; rfl)))) ?_
     refine VA.tkY 16 rfl (ztt ze) zB Cells.nil (Quiet.c (Quiet.to (v' := .bool false) (Q.ne rfl rfl) (congrArg Value.bool (by rw [hclv]; simp)))) ?_
     refine VA.tk 17 rfl (ztt ze) zB Cells.nil (Quiet.c (Q.pick_false rfl rfl)) ?_
     refine VA.tk 18 rfl (ztt ze) zB Cells.nil (Quiet.c (Q.move rfl)) ?_
     refine VA.tkY 19 rfl (ztt ze) zB Cells.nil (Quiet.c (Q.fieldAddr fa117_1 rfl)) ?_
     refine VA.tkY 20 rfl (ztt ze) zB Cells.nil (Quiet.c (Q.load1 ty3 rfl zM rfl)) ?_
     refine VA.tkY 21 rfl (ztt ze) zB Cells.nil (Quiet.c (Q.fieldAddr fa68_0 rfl)) ?_
     refine VA.tkY 22 rfl (ztt ze) zB Cells.nil (Quiet.c (Q.load1 ty65 rfl zM rfl)) ?_
     refine VA.tkY 23 rfl (ztt ze) zB Cells.nil (Quiet.c (Q.move rfl)) ?_
     refine VA.tkY 24 rfl (ztt ze) zB Cells.nil (Quiet.c (Q.indexAddr sl65 (j := x.best) rfl rfl rfl (by rw [rsOf_len]; omega))) ?_
     refine VA.tkY 25 rfl (ztt ze) zB Cells.nil (Quiet.c (Q.fieldAddr fa91_3 rfl)) ?_
     refine VA.tkY 26 rfl (ztt ze) zB Cells.nil (Quiet.c (Q.load (v := .int .i64 (chanOf pts x.best)) rfl (fun _ _ hW => lies_one ty3 (Rd.cell (Rd.frz (H := (fun W => RdW W (some ⟨b0, o0, none⟩) (rsOf power self pts) ps sh)) hW zM).1 (rs_chan power self pts x.best hb4 hb5))))) ?_
     refine VA.tkY 27 rfl (ztt ze) zB Cells.nil (Quiet.c (Quiet.to (v' := .bool false) (Q.ne rfl rfl) (congrArg Value.bool (by rw [hcch]; simp)))) ?_
     refine VA.tk 28 rfl (ztt ze) zB Cells.nil (Quiet.c (Q.pick_false rfl rfl)) ?_
     refine VA.done (by kernel_rfl) ?_
     refine VE.seq ?_
     refine VC.condF rfl ?_
     refine VC.skip ?_
     refine VE.seq ?_
     refine VC.seq ?_
     refine VK.keep (by exact .cons (i := 14) rfl (.cons (i := 16) rfl (.cons (i := 20) rfl (.cons (i := 44) rfl ( .nil))))) ?_
     refine VC.region ?_
     refine VL.q (Q.loadA ty68 rfl zM zS) ?_
     refine VL.q (Q.fieldAddr fa117_1 rfl) ?_
     refine VL.q (Q.load1 ty3 rfl zM rfl) ?_
     refine VL.eff (O.call0 ok19 rfl rfl (by decide) (tune_c (some ⟨b0, o0, none⟩) cr (rsOf power self pts) ps cs sh hw 0 (by rw [rsOf_len]; omega) c.ch (by omega)) (fun _ _ hW => Rd.frz (H := (fun W => RdW W (some ⟨b0, o0, none⟩) (rsOf power self pts) ps sh)) hW zM) ?_)
     rintro ⟨pr3, cr3, ps3, cs3, sh3, id3⟩ ht3
     dsimp only at ht3
     dsimp only
     refine VL.q (Q.move rfl) ?_
     refine VL.q (Q.extract rfl rfl) ?_
     refine VL.q (Q.extract rfl rfl) ?_
     refine VL.eff (O.alloc zo68 (by decide) ?_)
     intro g45
     refine VL.eff (O.store ty68 rfl rfl rfl rfl zU zP ?_)
     refine VL.q (Q.assign rfl) ?_
     refine VL.nil ?_
     refine VE.seq ?_
     refine VC.seq ?_
     refine VC.region ?_
     refine VL.q (Q.loadA ty68 rfl zM zS) ?_
     refine VL.q (Q.move rfl) ?_
     refine VL.eff (O.call0 ok23 rfl rfl (by decide) (Level_c pr3 cr3 (tuneR (rsOf power self pts) 0 c.ch) ps3 cs3 sh3 (ht3 ▸ hwt3) 0 x.best (by omega) (by omega)) (fun _ _ hW => Rd.frz (H := (fun W => RdW W pr3 (tuneR (rsOf power self pts) 0 c.ch) ps3 sh3)) hW zM) ?_)
     intro x403 y403
     rw [lev_tune, ht3, hsym]
     refine VL.q (Q.move rfl) ?_
     refine VL.q (Q.extract rfl rfl) ?_
     refine VL.q (Q.extract rfl rfl) ?_
     refine VL.q (Q.assign rfl) ?_
     refine VL.q (Q.assign rfl) ?_
     refine VL.nil ?_
     refine VE.seq ?_
     refine VC.seq ?_
     refine VC.region ?_
     refine VL.q (Q.fieldAddr fa117_2 rfl) ?_
     refine VL.q (Q.load1 ty3 rfl zM rfl) ?_
     refine VL.eff (O.call0 ok30 rfl rfl (by decide) (best_c c.lv (by omega)) (fun _ _ _ => trivial) ?_)
     intro ib hib
     have hib1 := hib.1
     refine VL.q (Q.move rfl) ?_
     refine VL.q (Q.extract rfl rfl) ?_
     refine VL.q (Q.extract rfl rfl) ?_
     refine VL.q (Q.assign rfl) ?_
     refine VL.q (Q.assign rfl) ?_
     refine VL.nil ?_
     refine VE.seq ?_
     refine VC.seq ?_
     refine VC.region ?_
     refine VL.q (Q.move rfl) ?_
     refine VL.eff (O.call0 ok31 rfl rfl (by decide) (resp_c (ib : Int) (by omega) (by omega)) (fun _ _ _ => trivial) ?_)
     intro x414 y414
     have hnr := need_resp ib hib1
     obtain ⟨sl, hsl⟩ : ∃ sl : Nat, respOf (ib : Int) = sl := Int.eq_ofNat_of_zero_le hnr.1
     rw [hsl]
     refine VL.q (Q.move rfl) ?_
     refine VL.q (Q.extract rfl rfl) ?_
     refine VL.q (Q.extract rfl rfl) ?_
     refine VL.q (Q.assign rfl) ?_
     refine VL.q (Q.assign rfl) ?_
     refine VL.nil ?_
     refine VE.seq ?_
     refine VC.seq ?_
     refine VC.seq ?_
     refine VC.region ?_
     refine VL.q (Q.move rfl) ?_
     refine VL.quietE (v' := .bool false) (by decide) (Q.ne rfl rfl) (by rfl) ?_
     refine VL.q (Q.move rfl) ?_
     refine VL.yes rfl rfl ?_
     refine VL.q (Q.move rfl) ?_
     refine VL.yes rfl rfl ?_
     refine VL.quietE (v' := .bool false) (by decide) (Q.ne rfl rfl) (by rfl) ?_
     refine VL.quietE (v' := .bool false) (by decide) (Q.pick_false rfl rfl) (by rfl) ?_
     refine VL.q (Q.move rfl) ?_
     refine VL.yes rfl rfl ?_
     refine VL.q (Q.move rfl) ?_
     refine VL.yes rfl rfl ?_
     refine VL.quietE (v' := .bool false) (by decide) (Q.ne rfl rfl) (by rfl) ?_
     refine VL.quietE (v' := .bool false) (by decide) (Q.pick_false rfl rfl) (by rfl) ?_
     refine VL.q (Q.move rfl) ?_
     refine VL.yes rfl rfl ?_
     refine VL.q (Q.move rfl) ?_
     refine VL.yes rfl rfl ?_
     refine VL.quietE (v' := .bool false) (by decide) (Q.not rfl) (by rfl) ?_
     refine VL.quietE (v' := .bool false) (by decide) (Q.pick_false rfl rfl) (by rfl) ?_
     refine VL.q (Q.move rfl) ?_
     refine VL.yes rfl rfl ?_
     refine VL.q (Q.move rfl) ?_
     refine VL.yes rfl rfl ?_
     refine VL.q (Q.fieldAddr fa117_2 rfl) ?_
     refine VL.yes rfl rfl ?_
     refine VL.q (Q.load1 ty3 rfl zM rfl) ?_
     refine VL.yes rfl rfl ?_
     refine VL.quietE (v' := .bool false) (by decide) (Q.ne rfl rfl) (congrArg Value.bool (by rw [hclv]; simp)) ?_
     refine VL.quietE (v' := .bool false) (by decide) (Q.pick_false rfl rfl) (by rfl) ?_
     refine VL.nil ?_
     refine VE.seq ?_
     refine VC.condF rfl ?_
     refine VC.skip ?_
     refine VE.seq ?_
     refine VC.seq ?_
     refine VK.keep (by exact .cons (i := 20) rfl (.cons (i := 45) rfl (.cons (i := 47) rfl (.cons (i := 49) rfl ( .nil))))) ?_
     refine VC.region ?_
     refine VL.q (Q.loadA ty68 rfl zM zS) ?_
     refine VL.q (Q.move rfl) ?_
     refine VL.q (Q.move rfl) ?_
     have hr441 : canB (tuneR (rsOf power self pts) 0 c.ch) (sdOf sh3) ⟨0, 0, 100, rNeed (ib : Int)⟩ x.best = true := by
      rw [can_there power self pts (sdOf sh3) x.best hb4 hb5 c.ch hcch.symm, ht3, hsym, decide_eq_true hb2, decide_eq_true (by rw [← hclv]; exact hib.2.1)]
      rfl
     refine VL.eff (O.call0 ok32 rfl rfl (by decide) (reach_c pr3 cr3 (tuneR (rsOf power self pts) 0 c.ch) ps3 cs3 sh3 (ht3 ▸ hwt3) 0 x.best ib (by omega) (by omega) (by omega)) (fun _ _ hW => Rd.frz (H := (fun W => RdW W pr3 (tuneR (rsOf power self pts) 0 c.ch) ps3 sh3)) hW zM) ?_)
     intro x441 y441
     rw [hr441]
     refine VL.q (Q.move rfl) ?_
     refine VL.q (Q.extract rfl rfl) ?_
     refine VL.q (Q.extract rfl rfl) ?_
     refine VL.q (Q.assign rfl) ?_
     refine VL.q (Q.assign rfl) ?_
     refine VL.nil ?_
     refine VE.seq ?_
     refine VC.seq ?_
     refine VC.region ?_
     refine VL.q (Q.loadA ty68 rfl zM zS) ?_
     refine VL.q (Q.move rfl) ?_
     refine VL.q (Q.move rfl) ?_
     have hr448 : canB (tuneR (rsOf power self pts) 0 c.ch) (sdOf sh3) ⟨x.best, 0, 100, rNeed (sl : Int)⟩ 0 = true := by
      have hq : lev (rsOf power self pts) (sdOf sh3) x.best 0 = (lvAt power self pts sw x.best) := by rw [ht3, hsd]; rfl
      rw [can_here power self pts (sdOf sh3) _ hb4 hb5 c.ch hcch.symm]
      show (decide (-820 ≤ lev (rsOf power self pts) (sdOf sh3) x.best 0) && decide (rNeed (sl : Int) ≤ lev (rsOf power self pts) (sdOf sh3) x.best 0)) = true
      rw [hq, decide_eq_true hb2, decide_eq_true (by rw [← hsl]; have := hib.2.1; have := hnr.2.2; omega)]
      rfl
     refine VL.eff (O.call0 ok32 rfl rfl (by decide) (reach_c pr3 cr3 (tuneR (rsOf power self pts) 0 c.ch) ps3 cs3 sh3 (ht3 ▸ hwt3) x.best 0 sl (by omega) (by omega) (by omega)) (fun _ _ hW => Rd.frz (H := (fun W => RdW W pr3 (tuneR (rsOf power self pts) 0 c.ch) ps3 sh3)) hW zM) ?_)
     intro x448 y448
     rw [hr448]
     refine VL.q (Q.move rfl) ?_
     refine VL.q (Q.extract rfl rfl) ?_
     refine VL.q (Q.extract rfl rfl) ?_
     refine VL.q (Q.assign rfl) ?_
     refine VL.q (Q.assign rfl) ?_
     refine VL.nil ?_
     refine VE.seq ?_
     refine VC.seq ?_
     refine VC.seq ?_
     refine VC.region ?_
     refine VL.q (Q.move rfl) ?_
     refine VL.quietE (v' := .bool false) (by decide) (Q.not rfl) (by rfl) ?_
     refine VL.q (Q.move rfl) ?_
     refine VL.yes rfl rfl ?_
     refine VL.q (Q.move rfl) ?_
     refine VL.yes rfl rfl ?_
     refine VL.quietE (v' := .bool false) (by decide) (Q.not rfl) (by rfl) ?_
     refine VL.quietE (v' := .bool false) (by decide) (Q.pick_false rfl rfl) (by rfl) ?_
     refine VL.q (Q.move rfl) ?_
     refine VL.yes rfl rfl ?_
     refine VL.q (Q.move rfl) ?_
     refine VL.yes rfl rfl ?_
     refine VL.quietE (v' := .bool false) (by decide) (Q.not rfl) (by rfl) ?_
     refine VL.quietE (v' := .bool false) (by decide) (Q.pick_false rfl rfl) (by rfl) ?_
     refine VL.q (Q.move rfl) ?_
     refine VL.yes rfl rfl ?_
     refine VL.q (Q.move rfl) ?_
     refine VL.yes rfl rfl ?_
     refine VL.quietE (v' := .bool false) (by decide) (Q.not rfl) (by rfl) ?_
     refine VL.quietE (v' := .bool false) (by decide) (Q.pick_false rfl rfl) (by rfl) ?_
     refine VL.nil ?_
     refine VE.seq ?_
     refine VC.condF rfl ?_
     refine VC.skip ?_
     refine VE.seq ?_
     refine VC.seq ?_
     refine VC.seq ?_
     refine VC.region ?_
     refine VL.q (Q.move rfl) ?_
     refine VL.q ((by first | exact Q.addI rfl rfl (by omega) (by omega) | exact Q.add rfl rfl)) ?_
     refine VL.eff (O.call0 ok33 rfl rfl (by decide) (count_c) (fun _ _ _ => trivial) ?_)
     intro x467 y467
     refine VL.q (Q.lt rfl rfl) ?_
     refine VL.nil ?_
     refine VE.seq ?_
     refine VC.cond rfl ?_ ?_
     ·
      intro h468
      have hi12 : ib + 1 < 12 := by have := of_decide_eq_true h468; omega
      refine VC.seq ?_
      refine VK.keep (by exact .cons (i := 20) rfl (.cons (i := 45) rfl (.cons (i := 47) rfl (.cons (i := 51) rfl (.cons (i := 52) rfl ( .nil)))))) ?_
      refine VC.region ?_
      refine VL.q (Q.loadA ty68 rfl zM zS) ?_
      refine VL.q (Q.move rfl) ?_
      refine VL.q (Q.move rfl) ?_
      refine VL.quietE (v' := .int .i64 ((ib + 1 : Nat) : Int)) (by decide) ((by first | exact Q.addI rfl rfl (by omega) (by omega) | exact Q.add rfl rfl)) (by rfl) ?_
      have hr474 : canB (tuneR (rsOf power self pts) 0 c.ch) (sdOf sh3) ⟨0, 0, 100, rNeed ((ib + 1 : Nat) : Int)⟩ x.best = false := by
       have hq3 : ¬ rNeed ((ib + 1 : Nat) : Int) ≤ (lvAt power self pts sw x.best) := by have := hib.2.2 (by omega); rw [hclv] at this; omega
       rw [can_there power self pts (sdOf sh3) x.best hb4 hb5 c.ch hcch.symm, ht3, hsym, decide_eq_false hq3, Bool.and_false]
      refine VL.eff (O.call0 ok32 rfl rfl (by decide) (reach_c pr3 cr3 (tuneR (rsOf power self pts) 0 c.ch) ps3 cs3 sh3 (ht3 ▸ hwt3) 0 x.best (ib + 1) (by omega) (by omega) (by omega)) (fun _ _ hW => Rd.frz (H := (fun W => RdW W pr3 (tuneR (rsOf power self pts) 0 c.ch) ps3 sh3)) hW zM) ?_)
      intro x474 y474
      rw [hr474]
      refine VL.q (Q.move rfl) ?_
      refine VL.q (Q.extract rfl rfl) ?_
      refine VL.q (Q.extract rfl rfl) ?_
      refine VL.q (Q.assign rfl) ?_
      refine VL.q (Q.assign rfl) ?_
      refine VL.nil ?_
      refine VE.seq ?_
      refine VC.seq ?_
      refine VC.region ?_
      refine VL.q (Q.move rfl) ?_
      refine VL.quietE (v' := .bool false) (by decide) (Q.not rfl) (by rfl) ?_
      refine VL.q (Q.move rfl) ?_
      refine VL.yes rfl rfl ?_
      refine VL.q (Q.move rfl) ?_
      refine VL.quietE (v' := .bool false) (by decide) (Q.pick_false rfl rfl) (by rfl) ?_
      refine VL.nil ?_
      refine VE.seq ?_
      refine VC.condF rfl ?_
      refine VC.skip ?_
      refine VE.seq ?_
      refine VC.seq ?_
      refine VC.region ?_
      refine VL.q (Q.move rfl) ?_
      refine VL.q (Q.assign rfl) ?_
      refine VL.q (Q.assign rfl) ?_
      refine VL.nil ?_
      refine VE.seq ?_
      refine VC.ret ?_
      exact VE.ret rfl (.tmp rfl (.tmp rfl .nil)) x.best hib0 rfl (List.nil_sublist _)
     ·
      intro h468
      refine VC.skip ?_
      refine VE.seq ?_
      refine VC.seq ?_
      refine VK.keep (by exact .cons (i := 20) rfl ( .nil)) ?_
      refine VC.region ?_
      refine VL.q (Q.move rfl) ?_
      refine VL.q (Q.assign rfl) ?_
      refine VL.q (Q.assign rfl) ?_
      refine VL.nil ?_
      refine VE.seq ?_
      refine VC.ret ?_
      exact VE.ret rfl (.tmp rfl (.tmp rfl .nil)) x.best hib0 rfl (List.nil_sublist _)

end Go.Proofs.YtencghlmckbmlaaGreat
