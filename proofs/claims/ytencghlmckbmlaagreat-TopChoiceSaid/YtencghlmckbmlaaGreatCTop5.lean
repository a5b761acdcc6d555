/- The contract of TopChoice. Conditions: those that it bears. -/
import Derived.Test.YtencghlmckbmlaaGreatRows
import Derived.Test.YtencghlmckbmlaaGreatCTop4
namespace Go.Proofs.YtencghlmckbmlaaGreat
open Go Go.RowKit Go.Sx
set_option maxRecDepth 100000

theorem lay34 : laysOf Tryz.prog 34 = some ([.int .i16 0, .int .i16 0, .int .u8 0, .int .u8 0, .string ByteArray.empty, .int .u16 0, .bool false], [(0, 1), (1, 1), (2, 1), (3, 1), (4, 1), (5, 1), (6, 1)]) := by kernel_rfl
theorem ok7 : okFunc Tryz.prog 7 = true := by kernel_rfl
theorem ze34 : (Tryz.prog.info? 34).bind (·.zero) = some (.agg #[.int .i16 0, .int .i16 0, .int .u8 0, .int .u8 0, .string ByteArray.empty, .int .u16 0, .bool false]) := by kernel_rfl

def bA : ByteArray := ⟨#[97]⟩
def bB : ByteArray := ⟨#[98]⟩
def exPts : List Sp := [⟨100, 0, 1, 60, bA, 1, false⟩, ⟨110, 0, 0, 0, bA, 1, false⟩, ⟨1, 0, 0, 0, bB, 1, false⟩]
theorem ex_lv1 : lvAt 200 noSp exPts [] 1 = -590 := by kernel_rfl
theorem ex_lv2 : lvAt 200 noSp exPts [] 2 = -605 := by kernel_rfl
theorem ex_mt1 : mt exPts bA false 1 = true := by kernel_rfl
theorem ex_mt2 : mt exPts bA false 2 = true := by kernel_rfl
theorem ex_mt3 : mt exPts bA false 3 = false := by kernel_rfl
theorem ex_best {b : Nat} (h : IsBest (lvAt 200 noSp exPts []) exPts bA false b) : b = 2 := by
  have h2 : -820 ≤ lvAt 200 noSp exPts [] 2 := by rw [ex_lv2]; decide
  by_cases h0 : b = 0
  · have := h.1 h0 2 (by decide) (by decide) h2
    rw [ex_mt2] at this
    cases this
  · obtain ⟨a1, a2, a3, a4, a5⟩ := h.2 h0
    have a2 : b ≤ 3 := a2
    by_cases e : b = 2
    · exact e
    · have hb := a5 2 (by decide) (by decide) h2 ex_mt2 (Ne.symm e)
      rcases (by omega : b = 1 ∨ b = 3) with rfl | rfl
      · unfold bt val at hb
        rw [ex_lv1, ex_lv2] at hb
        have e1 : (((pAt exPts 1).ld : Nat) : Int) = 60 := rfl
        have e2 : (((pAt exPts 2).ld : Nat) : Int) = 0 := rfl
        rw [e1, e2] at hb
        omega
      · rw [ex_mt3] at a4
        cases a4
theorem ex_ok : ∀ q ∈ exPts, SpOk q := by
  intro q hq
  simp only [exPts, List.mem_cons, List.not_mem_nil, or_false] at hq
  rcases hq with rfl | rfl | rfl <;> exact ⟨by decide, by decide, by decide, by decide, by decide⟩
theorem ex_nm : ∀ q ∈ exPts, q.nm.data.toList.length ≤ 32 := by
  intro q hq
  simp only [exPts, List.mem_cons, List.not_mem_nil, or_false] at hq
  rcases hq with rfl | rfl | rfl <;> decide

theorem topchoice_c (pw0 : Nat) (hp0 : pw0 ≤ 65535) (self : Sp) (hself : SpOk self) (pp : Option Addr) (n cp : Nat) (pts : List Sp) (hl : pts.length = n) (hpts : ∀ q ∈ pts, SpOk q) (pw : Option Addr) (m cw : Nat) (sw : List Nat) (hm : sw.length = m) (hsw : ∀ z ∈ sw, z ≤ 65535) (name : ByteArray) (sec : Bool) :
  Does Tryz.prog 4 [.int .u16 (pw0 : Int), .agg #[.int .i16 self.x, .int .i16 self.y, .int .u8 (self.ch : Int), .int .u8 (self.ld : Int), .string self.nm, .int .u16 (self.iv : Int), .bool self.sec], .slice pp n cp, .slice pw m cw, .string name, .bool sec] [] (fun W => Rd W pp (pts.flatMap spC) ∧ Rd W pw (sw.flatMap u16C)) (X := Unit) (fun _ => True) (fun _ => .bool true) (fun _ => []) := by
 subst hl
 refine Does.enter Tryz.func4 rfl (m := 67) rfl (by simp) ?_
 intro W0 hro
 refine VC.seq ?_
 refine VC.region ?_
 refine VL.eff (O.box rfl rfl (by decide) ?_)
 intro g7
 refine VL.q (Q.assign rfl) ?_
 refine VL.nil ?_
 refine VE.seq ?_
 refine VC.seq ?_
 refine VC.region ?_
 refine VL.q (Q.build lay34 zF) ?_
 refine VL.q (Q.build lay34 zF) ?_
 refine VL.q (Q.build lay34 zF) ?_
 refine VL.eff (O.buildSlice sl35 ze34 (by decide) zF (by decide) ?_)
 intro g20
 refine VL.q (Q.assign rfl) ?_
 refine VL.nil ?_
 refine VE.seq ?_
 refine VC.seq ?_
 refine VC.region ?_
 refine VL.q (Q.build lay34 zF) ?_
 refine VL.q (Q.move rfl) ?_
 refine VL.eff (O.call0 ok7 rfl rfl (by decide) (chosen_c 200 (by decide) noSp ⟨by decide, by decide, by decide, by decide, by decide⟩ (some ⟨g20, 0, none⟩) 3 3 exPts rfl (by decide) ex_ok ex_nm none 0 0 [] rfl (by decide) (fun z hz => by cases hz) bA false) (fun _ _ hW => ⟨Rd.own hW zM (fun j u hj => by rw [Nat.zero_add]; exact hj), Rd.nil⟩) ?_)
 intro b hb
 have hb2 := ex_best hb
 subst hb2
 refine VL.q (Q.move rfl) ?_
 refine VL.q (Q.extract rfl rfl) ?_
 refine VL.q (Q.extract rfl rfl) ?_
 refine VL.q (Q.assign rfl) ?_
 refine VL.q (Q.assign rfl) ?_
 refine VL.nil ?_
 refine VE.seq ?_
 refine VC.seq ?_
 refine VC.seq ?_
 refine VC.region ?_
 refine VL.q (Q.move rfl) ?_
 refine VL.quietE (v' := .bool false) (by decide) (Q.not rfl) (by rfl) ?_
 refine VL.q (Q.move rfl) ?_
 refine VL.yes rfl rfl ?_
 refine VL.q (Q.move rfl) ?_
 refine VL.yes rfl rfl ?_
 refine VL.quietE (v' := .bool false) (by decide) (Q.ne rfl rfl) (by rfl) ?_
 refine VL.quietE (v' := .bool false) (by decide) (Q.pick_false rfl rfl) (by rfl) ?_
 refine VL.nil ?_
 refine VE.seq ?_
 refine VC.condF rfl ?_
 refine VC.skip ?_
 refine VE.seq ?_
 refine VC.seq ?_
 refine VC.seq ?_
 refine VC.region ?_
 refine VL.q (Q.move rfl) ?_
 refine VL.q (Q.len sl35 rfl) ?_
 refine VL.q (Q.gt rfl rfl) ?_
 refine VL.q (Q.move rfl) ?_
 refine VK.case 36 rfl ?_ ?_
 ·
  intro h36
  refine VL.no (by simp) rfl rfl (.inl rfl) ?_
  refine VL.no (by simp) rfl rfl (.inl rfl) ?_
  refine VL.no (by simp) rfl rfl (.inl rfl) ?_
  refine VL.quietE (v' := .bool true) (by decide) (Q.pick_true rfl rfl) (by rfl) ?_
  refine VL.nil ?_
  refine VE.seq ?_
  refine VC.condT rfl ?_
  refine VC.seq ?_
  refine VC.region ?_
  refine VL.q (Q.assign rfl) ?_
  refine VL.nil ?_
  refine VE.seq ?_
  refine VC.ret ?_
  refine VE.then_ret ?_
  exact VE.ret rfl (.tmp rfl .nil) () trivial rfl (List.nil_sublist _)
 ·
  intro h36
  have hn8 : pts.length ≤ 8 := by have := of_decide_eq_false h36; omega
  refine VL.yes rfl rfl ?_
  refine VL.q (Q.move rfl) ?_
  refine VL.yes rfl rfl ?_
  refine VL.q (Q.len sl36 rfl) ?_
  refine VL.yes rfl rfl ?_
  refine VL.q (Q.gt rfl rfl) ?_
  refine VL.q (Q.pick_false rfl rfl) ?_
  refine VL.nil ?_
  refine VE.seq ?_
  refine VC.cond rfl ?_ ?_
  ·
   intro h40
   refine VC.seq ?_
   refine VC.region ?_
   refine VL.q (Q.assign rfl) ?_
   refine VL.nil ?_
   refine VE.seq ?_
   refine VC.ret ?_
   refine VE.then_ret ?_
   exact VE.ret rfl (.tmp rfl .nil) () trivial rfl (List.nil_sublist _)
  ·
   intro h40
   have hm100 : m ≤ 100 := by have := of_decide_eq_false h40; omega
   refine VC.skip ?_
   refine VE.seq ?_
   refine VC.seq ?_
   refine VC.seq ?_
   refine VC.region ?_
   refine VL.q (Q.assign rfl) ?_
   refine VL.nil ?_
   refine VE.seq ?_
   refine VC.block ?_
   refine VC.loop (X := Nat) (fun k => [(0, .int .u16 (pw0 : Int)), (2, .slice pp pts.length cp), (3, .slice pw m cw), (4, .string name), (5, .bool sec), (7, .pointer (some ⟨g7, 0, none⟩)), (16, .int .i64 (k : Int))]) (fun k => [.blk g7 [.int .i16 self.x, .int .i16 self.y, .int .u8 (self.ch : Int), .int .u8 (self.ld : Int), .string self.nm, .int .u16 (self.iv : Int), .bool self.sec] 34]) (fun k => k ≤ pts.length ∧ ∀ q (h : q < pts.length), q < k → pts[q].nm.size ≤ 32) (fun k => pts.length - k) 0 ⟨Nat.zero_le _, fun q h h2 => by omega⟩ ?_ ?_
   ·
    exact VS.mk zE zB
   ·
    rintro k ⟨hk, hnm⟩
    refine VC.seq ?_
    refine VC.seq ?_
    refine VC.region ?_
    refine VL.q (Q.move rfl) ?_
    refine VL.q (Q.move rfl) ?_
    refine VL.q (Q.len sl35 rfl) ?_
    refine VL.q (Q.lt rfl rfl) ?_
    refine VL.nil ?_
    refine VE.seq ?_
    refine VC.cond rfl ?_ ?_
    ·
     intro h44
     have hlt : k < pts.length := by have := of_decide_eq_true h44; omega
     obtain ⟨b0, o0, rfl⟩ := hro.1.pos (by rw [fm_length spC_len]; omega)
     refine VC.skip ?_
     refine VE.seq ?_
     refine VC.seq ?_
     refine VC.block ?_
     refine VC.seq ?_
     refine VC.region ?_
     refine VL.q (Q.move rfl) ?_
     refine VL.q (Q.move rfl) ?_
     refine VL.q (Q.indexAddr sl35 (j := k) rfl rfl rfl hlt) ?_
     refine VL.q (Q.fieldAddr fa34_4 rfl) ?_
     refine VL.q (Q.load0 (v := .string pts[k].nm) ty9 rfl (Rd.cell hro.1 (fm_get spC_len pts k hlt 4 _ rfl)) (by simp)) ?_
     refine VL.q (Q.lenStr ust rfl) ?_
     refine VL.q (Q.gt rfl rfl) ?_
     refine VL.nil ?_
     refine VE.seq ?_
     refine VC.cond rfl ?_ ?_
     ·
      intro h53
      refine VC.seq ?_
      refine VC.region ?_
      refine VL.q (Q.assign rfl) ?_
      refine VL.nil ?_
      refine VE.seq ?_
      refine VC.ret ?_
      refine VE.block_ret ?_
      refine VE.then_ret ?_
      refine VE.then_ret ?_
      refine VE.block_ret ?_
      refine VE.then_ret ?_
      exact VE.ret rfl (.tmp rfl .nil) () trivial rfl (List.nil_sublist _)
     ·
      intro h53
      refine VC.skip ?_
      refine VE.block_normal ?_
      refine VE.seq ?_
      refine VC.region ?_
      refine VL.q (Q.move rfl) ?_
      refine VL.q ((by first | exact Q.addI rfl rfl (by omega) (by omega) | exact Q.add rfl rfl)) ?_
      refine VL.q (Q.assign rfl) ?_
      refine VL.nil ?_
      refine VE.then_normal ?_
      exact VE.round (k + 1) ⟨hlt, fun q h h2 => by rcases Nat.lt_or_ge q k with h3 | h3; exact hnm q h h3; obtain rfl : q = k := (by omega); have := of_decide_eq_false h53; omega⟩ (by omega) zE (List.Sublist.refl _)
    ·
     intro h44
     have hke : k = pts.length := by have := of_decide_eq_false h44; omega
     have hnames : ∀ q ∈ pts, q.nm.data.toList.length ≤ 32 := fun q hq => by
      obtain ⟨i, hi, rfl⟩ := List.getElem_of_mem hq
      have := hnm i hi (by omega)
      rw [Array.length_toList]
      exact this
     refine VC.exit ?_
     refine VE.then_exit ?_
     refine VE.then_exit ?_
     refine VE.block_here ?_
     refine VE.seq ?_
     refine VC.seq ?_
     refine VC.region ?_
     refine VL.q (Q.move rfl) ?_
     refine VL.q ((by first | exact Q.convF ti26 ti3 rfl (by simp only [klo]; omega) (by simp only [khi]; omega) | exact Q.convM (M := 0) ti26 ti3 rfl rfl rfl | exact Q.conv ti26 ti3 rfl)) ?_
     refine VL.q (Q.rem rfl rfl (by omega) (by omega)) ?_
     refine VL.q (Q.loadA ty34 rfl zM zS) ?_
     refine VL.q (Q.move rfl) ?_
     refine VL.q (Q.move rfl) ?_
     refine VL.q (Q.move rfl) ?_
     refine VL.q (Q.move rfl) ?_
     refine VL.eff (O.call0 ok7 rfl rfl (by decide) (chosen_c ((pw0 : Int) % 301) (by omega) self hself pp pts.length cp pts rfl (by omega) hpts hnames pw m cw sw hm (by omega) hsw name sec) (fun _ ho _ => ⟨hro.1.only0 ho, hro.2.only0 ho⟩) ?_)
     intro b2 hb2
     refine VL.q (Q.move rfl) ?_
     refine VL.q (Q.extract rfl rfl) ?_
     refine VL.q (Q.extract rfl rfl) ?_
     refine VL.q (Q.assign rfl) ?_
     refine VL.nil ?_
     refine VE.seq ?_
     refine VC.seq ?_
     refine VC.region ?_
     refine VL.q (Q.move rfl) ?_
     refine VL.q (Q.assign rfl) ?_
     refine VL.nil ?_
     refine VE.seq ?_
     refine VC.ret ?_
     exact VE.ret rfl (.tmp rfl .nil) () trivial rfl (List.nil_sublist _)

end Go.Proofs.YtencghlmckbmlaaGreat
