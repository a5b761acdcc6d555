/- The contract of TopTree. Conditions: those that it bears. -/
import Derived.Test.YtencghlmckbmlaaGreatRows
import Derived.Test.YtencghlmckbmlaaGreatZSteps
namespace Go.Proofs.YtencghlmckbmlaaGreat
open Go Go.RowKit Go.Sx
set_option maxRecDepth 100000

theorem lay28 : laysOf Tryz.prog 28 = some ([.int .u8 0, .int .u8 0, .int .u8 0, .int .u16 0], [(0, 1), (1, 1), (2, 1), (3, 1)]) := by kernel_rfl
theorem lay30 : laysOf Tryz.prog 30 = some ([.int .u8 0, .int .i64 0, .int .i64 0], [(0, 1), (1, 1), (2, 1)]) := by kernel_rfl
theorem ok5 : okFunc Tryz.prog 5 = true := by kernel_rfl
theorem ok6 : okFunc Tryz.prog 6 = true := by kernel_rfl
theorem ze28 : (Tryz.prog.info? 28).bind (·.zero) = some (.agg #[.int .u8 0, .int .u8 0, .int .u8 0, .int .u16 0]) := by kernel_rfl
theorem ze30 : (Tryz.prog.info? 30).bind (·.zero) = some (.agg #[.int .u8 0, .int .i64 0, .int .i64 0]) := by kernel_rfl

open Go.Mesh
theorem ex_links : ∀ v ∈ ([⟨0, 2, 11, 0⟩, ⟨2, 3, 11, 500⟩, ⟨3, 1, 0, 0⟩] : List Link), LinkOk v := by
  intro v hv
  unfold LinkOk
  simp only [List.mem_cons, List.not_mem_nil, or_false] at hv
  rcases hv with rfl | rfl | rfl <;> decide
theorem ex_moves : ∀ v ∈ ([⟨0, 0, 0⟩, ⟨1, 0, 0⟩, ⟨2, 0, 2⟩] : List Mv), MvOk v := by
  intro v hv
  unfold MvOk
  simp only [List.mem_cons, List.not_mem_nil, or_false] at hv
  rcases hv with rfl | rfl | rfl <;> decide

theorem toptree_c (p : Option Addr) (c : Nat) (links : List Link) (hb : ∀ l ∈ links, LinkOk l) (pd : Option Addr) (m cd : Nat) (l : List UInt8) (hl : l.length = m) (pm : Option Addr) (cm : Nat) (moves : List Mv) (hmn : ∀ v ∈ moves, v.n ≤ 9223372036854775807) (hml : moves.length ≤ 9223372036854775807) :
  Does Tryz.prog 3 [.slice p links.length c, .slice pd m cd, .slice pm moves.length cm] [] (fun W => Rd W p (links.flatMap linkC) ∧ Rd W pd (bs l) ∧ Rd W pm (moves.flatMap mvC) ∧ ∀ x, pd = some x → x.block < W.heap.size) (X := Unit) (fun _ => True) (fun _ => .bool true) (fun _ => []) := by
 refine Does.enter Tryz.func3 rfl (m := 35) rfl (by simp) ?_
 rintro W0 ⟨hrd, hrdd, hrdm, hpd⟩
 refine VC.seq ?_
 refine VC.region ?_
 refine VL.q (Q.assign rfl) ?_
 refine VL.nil ?_
 refine VE.seq ?_
 refine VC.seq ?_
 refine VC.seq ?_
 refine VC.region ?_
 refine VL.q (Q.build lay28 zF) ?_
 refine VL.q (Q.build lay28 zF) ?_
 refine VL.q (Q.build lay28 zF) ?_
 refine VL.eff (O.buildSlice sl22 ze28 (by decide) zF (by decide) ?_)
 intro g10
 refine VL.eff (O.buildSlice sl23 ze5 (by decide) zF (by decide) ?_)
 intro g11
 refine VL.q (Q.build lay30 zF) ?_
 refine VL.q (Q.build lay30 zF) ?_
 refine VL.q (Q.build lay30 zF) ?_
 refine VL.eff (O.buildSlice sl24 ze30 (by decide) zF (by decide) ?_)
 intro g15
 refine VL.eff (O.call0 ok5 rfl rfl (by decide) (steps_c (some ⟨g10, 0, none⟩) 3 [⟨0, 2, 11, 0⟩, ⟨2, 3, 11, 500⟩, ⟨3, 1, 0, 0⟩] ex_links (by decide) (some ⟨g11, 0, none⟩) 1 1 [1] rfl (by decide) (some ⟨g15, 0, none⟩) 3 [⟨0, 0, 0⟩, ⟨1, 0, 0⟩, ⟨2, 0, 2⟩] ex_moves (by decide)) (fun _ _ hw => ⟨(Rd.own hw zM (fun j u hj => by rw [Nat.zero_add]; exact hj)), (Rd.own hw zM (fun j u hj => by rw [Nat.zero_add]; exact hj)), (Rd.own hw zM (fun j u hj => by rw [Nat.zero_add]; exact hj)), fun x hx => by cases hx; exact own_lt hw _ (by simp [Rs.ids])⟩) ?_)
 intro x16 y16
 refine VL.quietE (v' := .bool false) (by decide) (Q.not rfl) (by rfl) ?_
 refine VL.nil ?_
 refine VE.seq ?_
 refine VC.condF rfl ?_
 refine VC.skip ?_
 refine VE.seq ?_
 refine VC.seq ?_
 refine VC.seq ?_
 refine VC.region ?_
 refine VL.q (Q.move rfl) ?_
 refine VL.q (Q.len sl22 rfl) ?_
 refine VL.q (Q.gt rfl rfl) ?_
 refine VL.q (Q.move rfl) ?_
 refine VK.case 21 rfl ?_ ?_
 ·
  intro h21
  refine VL.no (by simp) rfl rfl (.inl rfl) ?_
  refine VL.no (by simp) rfl rfl (.inl rfl) ?_
  refine VL.no (by simp) rfl rfl (.inl rfl) ?_
  refine VL.quietE (v' := .bool true) (by decide) (Q.pick_true rfl rfl) (by rfl) ?_
  refine VL.q (Q.move rfl) ?_
  refine VL.no (by simp) rfl rfl (.inl rfl) ?_
  refine VL.no (by simp) rfl rfl (.inl rfl) ?_
  refine VL.no (by simp) rfl rfl (.inl rfl) ?_
  refine VL.quietE (v' := .bool true) (by decide) (Q.pick_true rfl rfl) (by rfl) ?_
  refine VL.nil ?_
  refine VE.seq ?_
  refine VC.condT rfl ?_
  refine VC.seq ?_
  refine VC.region ?_
  refine VL.q (Q.assign rfl) ?_
  refine VL.nil ?_
  refine VE.seq ?_
  refine VC.ret ?_
  refine VE.then_ret ?_
  exact VE.ret rfl (.tmp rfl .nil) () trivial rfl (List.nil_sublist _)
 ·
  intro h21
  have hll : links.length ≤ 15 := by have := of_decide_eq_false h21; omega
  refine VL.yes rfl rfl ?_
  refine VL.q (Q.move rfl) ?_
  refine VL.yes rfl rfl ?_
  refine VL.q (Q.len sl23 rfl) ?_
  refine VL.yes rfl rfl ?_
  refine VL.q (Q.gt rfl rfl) ?_
  refine VL.q (Q.pick_false rfl rfl) ?_
  refine VL.q (Q.move rfl) ?_
  refine VK.case 26 rfl ?_ ?_
  ·
   intro h26
   refine VL.no (by simp) rfl rfl (.inl rfl) ?_
   refine VL.no (by simp) rfl rfl (.inl rfl) ?_
   refine VL.no (by simp) rfl rfl (.inl rfl) ?_
   refine VL.quietE (v' := .bool true) (by decide) (Q.pick_true rfl rfl) (by rfl) ?_
   refine VL.nil ?_
   refine VE.seq ?_
   refine VC.condT rfl ?_
   refine VC.seq ?_
   refine VC.region ?_
   refine VL.q (Q.assign rfl) ?_
   refine VL.nil ?_
   refine VE.seq ?_
   refine VC.ret ?_
   refine VE.then_ret ?_
   exact VE.ret rfl (.tmp rfl .nil) () trivial rfl (List.nil_sublist _)
  ·
   intro h26
   have hmm : m ≤ 100 := by have := of_decide_eq_false h26; omega
   refine VL.yes rfl rfl ?_
   refine VL.q (Q.move rfl) ?_
   refine VL.yes rfl rfl ?_
   refine VL.eff (O.call0 ok6 rfl rfl (by decide) (tame_c pm cm moves hmn hml) (fun _ ho _ => hrdm.only0 ho) ?_)
   intro x28 y28
   refine VL.yes rfl rfl ?_
   refine VL.q (Q.not rfl) ?_
   refine VL.q (Q.pick_false rfl rfl) ?_
   refine VL.nil ?_
   refine VE.seq ?_
   refine VC.cond rfl ?_ ?_
   ·
    intro h30
    refine VC.seq ?_
    refine VC.region ?_
    refine VL.q (Q.assign rfl) ?_
    refine VL.nil ?_
    refine VE.seq ?_
    refine VC.ret ?_
    refine VE.then_ret ?_
    exact VE.ret rfl (.tmp rfl .nil) () trivial rfl (List.nil_sublist _)
   ·
    intro h30
    refine VC.skip ?_
    refine VE.seq ?_
    refine VC.seq ?_
    refine VC.region ?_
    refine VL.q (Q.move rfl) ?_
    refine VL.q (Q.move rfl) ?_
    refine VL.q (Q.move rfl) ?_
    have hT := y28 (by cases x28 with | true => rfl | false => cases h30)
    refine VL.eff (O.call0 ok5 rfl rfl (by decide) (steps_c p c links hb (by omega) pd m cd l hl (by omega) pm cm moves hT.1 hT.2) (fun _ ho _ => ⟨hrd.only0 ho, hrdd.only0 ho, hrdm.only0 ho, fun x hx => Nat.lt_of_lt_of_le (hpd x hx) ho.size⟩) ?_)
    intro x34 y34
    refine VL.q (Q.assign rfl) ?_
    refine VL.nil ?_
    refine VE.seq ?_
    refine VC.ret ?_
    exact VE.ret rfl (.tmp rfl .nil) () trivial rfl (List.nil_sublist _)

end Go.Proofs.YtencghlmckbmlaaGreat
