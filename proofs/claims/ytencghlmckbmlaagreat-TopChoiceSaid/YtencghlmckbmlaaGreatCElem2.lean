/- The contracts of package element: Check, Encode. Conditions: those that each bears. -/
import Derived.Test.YtencghlmckbmlaaGreatRows
import Derived.Test.YtencghlmckbmlaaGreatCElem
namespace Go.Proofs.YtencghlmckbmlaaGreat
open Go Go.RowKit Go.Sx
set_option maxRecDepth 100000

theorem fa176_1 : tyField Tryz.prog 176 1 = some 1 := by kernel_rfl
theorem fa176_3 : tyField Tryz.prog 176 3 = some 3 := by kernel_rfl
theorem ok216 : okFunc Tryz.prog 216 = true := by kernel_rfl
theorem ok217 : okFunc Tryz.prog 217 = true := by kernel_rfl
theorem ok225 : okFunc Tryz.prog 225 = true := by kernel_rfl
theorem ok226 : okFunc Tryz.prog 226 = true := by kernel_rfl
theorem ty109 : tySz Tryz.prog 109 = some (false, 1) := by kernel_rfl
theorem ty3 : tySz Tryz.prog 3 = some (false, 1) := by kernel_rfl
theorem ty4 : tySz Tryz.prog 4 = some (false, 1) := by kernel_rfl
theorem zo3 : tyZero Tryz.prog 3 = some [.int .i64 0] := by kernel_rfl
theorem zo4 : tyZero Tryz.prog 4 = some [.bool false] := by kernel_rfl

theorem visit_c (gm gd gb : Nat) (n : Nat) (hn : n ≤ 1000) (dp : Int) (hdp : dp ≤ 1) (e : El) (he : ElOk e) :
  Does Tryz.prog 226 [.agg #[.int .u8 (e.id : Int), .int .u8 0, .slice e.p e.d.length e.c, .slice none 0 0], .int .i64 1, .pointer (some ⟨gm, 0, none⟩), .pointer (some ⟨gd, 0, none⟩), .pointer (some ⟨gb, 0, none⟩)] [.blk gm [.int .i64 (n : Int)] 3, .blk gd [.int .i64 dp] 3, .blk gb [.bool false] 4] (fun _ => True) (X := Unit) (fun _ => True) (fun _ => .tuple #[]) (fun _ => [.blk gm [.int .i64 ((n + 1 : Nat) : Int)] 3, .blk gd [.int .i64 1] 3, .blk gb [.bool false] 4]) := by
 have he1 := he.id
 refine Does.enter Tryz.func226 rfl (m := 44) rfl (by simp) ?_
 intro W0 hro
 refine VC.seq ?_
 refine VC.region ?_
 refine VL.eff (O.box rfl rfl (by decide) ?_)
 intro g5
 refine VL.nil ?_
 refine VE.seq ?_
 refine VC.seq ?_
 refine VC.region ?_
 refine VL.q (Q.load1 ty3 rfl zM rfl) ?_
 refine VL.quietE (v' := .int .i64 ((n + 1 : Nat) : Int)) (by decide) ((by first | exact Q.addI rfl rfl (by omega) (by omega) | exact Q.add rfl rfl)) (by rfl) ?_
 refine VL.eff (O.store ty3 rfl rfl rfl rfl zU zP ?_)
 refine VL.nil ?_
 refine VE.seq ?_
 refine VC.seq ?_
 refine VC.region ?_
 refine VL.q (Q.load1 ty3 rfl zM rfl) ?_
 refine VL.q (Q.move rfl) ?_
 refine VL.quietE (v' := .int .i64 1) (by decide) (Q.max2 rfl rfl) (congrArg (Value.int .i64) (by split <;> omega)) ?_
 refine VL.eff (O.store ty3 rfl rfl rfl rfl zU zP ?_)
 refine VL.nil ?_
 refine VE.seq ?_
 refine VC.seq ?_
 refine VC.region ?_
 refine VL.q (Q.fieldAddr fa176_3 rfl) ?_
 refine VL.q (Q.load1 ty109 rfl zM rfl) ?_
 refine VL.q (Q.len sl109 rfl) ?_
 refine VL.quietE (v' := .bool true) (by decide) (Q.eq rfl rfl) (congrArg Value.bool (decide_eq_true (by omega))) ?_
 refine VL.q (Q.assign rfl) ?_
 refine VL.nil ?_
 refine VE.seq ?_
 refine VC.seq ?_
 refine VC.seq ?_
 refine VC.region ?_
 refine VL.q (Q.fieldAddr fa176_0 rfl) ?_
 refine VL.q (Q.load1 ty5 rfl zM rfl) ?_
 refine VL.eff (O.call0 ok227 rfl rfl (by decide) (container_c e.id he1) (fun _ _ _ => trivial) ?_)
 intro x19 y19
 refine VL.nil ?_
 refine VE.seq ?_
 refine VC.condF rfl ?_
 refine VC.skip ?_
 refine VE.seq ?_
 refine VC.region ?_
 refine VL.q (Q.load1 ty4 rfl zM rfl) ?_
 refine VL.q (Q.move rfl) ?_
 refine VL.yes rfl rfl ?_
 refine VL.q (Q.fieldAddr fa176_0 rfl) ?_
 refine VL.yes rfl rfl ?_
 refine VL.q (Q.load1 ty5 rfl zM rfl) ?_
 refine VL.yes rfl rfl ?_
 refine VL.quietE (v' := .bool false) (by decide) (Q.eq rfl rfl) (congrArg Value.bool (decide_eq_false (by omega))) ?_
 refine VL.quietE (v' := .bool false) (by decide) (Q.pick_false rfl rfl) (by rfl) ?_
 refine VL.q (Q.move rfl) ?_
 refine VL.yes rfl rfl ?_
 refine VL.q (Q.fieldAddr fa176_0 rfl) ?_
 refine VL.yes rfl rfl ?_
 refine VL.q (Q.load1 ty5 rfl zM rfl) ?_
 refine VL.yes rfl rfl ?_
 refine VL.quietE (v' := .bool true) (by decide) (Q.ne rfl rfl) (congrArg Value.bool (by simp; omega)) ?_
 refine VL.yes rfl rfl ?_
 refine VL.q (Q.move rfl) ?_
 refine VL.yes rfl rfl ?_
 refine VL.q (Q.fieldAddr fa176_1 rfl) ?_
 refine VL.yes rfl rfl ?_
 refine VL.q (Q.load1 ty5 rfl zM rfl) ?_
 refine VL.yes rfl rfl ?_
 refine VL.quietE (v' := .bool false) (by decide) (Q.ne rfl rfl) (by rfl) ?_
 refine VL.yes rfl rfl ?_
 refine VL.quietE (v' := .bool false) (by decide) (Q.pick_true rfl rfl) (by rfl) ?_
 refine VL.quietE (v' := .bool false) (by decide) (Q.pick_false rfl rfl) (by rfl) ?_
 refine VL.q (Q.move rfl) ?_
 refine VL.yes rfl rfl ?_
 refine VL.q (Q.move rfl) ?_
 refine VL.yes rfl rfl ?_
 refine VL.quietE (v' := .bool false) (by decide) (Q.not rfl) (by rfl) ?_
 refine VL.quietE (v' := .bool false) (by decide) (Q.pick_false rfl rfl) (by rfl) ?_
 refine VL.eff (O.store ty4 rfl rfl rfl rfl zU zP ?_)
 refine VL.nil ?_
 exact VE.end rfl (.nil) () trivial rfl zB

theorem walk0_c (d : Int) (v : Value) :
  Does Tryz.prog 225 [.slice none 0 0, .int .i64 d, v] [] (fun _ => True) (X := Unit) (fun _ => True) (fun _ => .tuple #[]) (fun _ => []) := by
 refine Does.enter Tryz.func225 rfl (m := 25) rfl (by simp) ?_
 intro W0 hro
 refine VC.seq ?_
 refine VC.region ?_
 refine VL.q (Q.move rfl) ?_
 refine VL.q (Q.len sl109 rfl) ?_
 refine VL.q (Q.move rfl) ?_
 refine VL.nil ?_
 refine VE.seq ?_
 refine VC.block ?_
 refine VC.rounds 1 ?_
 refine VC.rnd (m := 0) ?_
 refine VC.seq ?_
 refine VC.region ?_
 refine VL.q (Q.lt rfl rfl) ?_
 refine VL.nil ?_
 refine VE.seq ?_
 refine VC.seq ?_
 refine VC.condF rfl ?_
 refine VC.exit ?_
 refine VE.then_exit ?_
 refine VE.then_exit ?_
 refine VE.block_here ?_
 refine VE.end rfl (.nil) () ?_ ?_ (List.nil_sublist _)
 ·
  trivial
 ·
  first | rfl | (exfalso; simp at *; omega)

theorem walk_c (gm gd gb : Nat) (p : Option Addr) (c : Nat) (els : List El) (hok : ∀ e ∈ els, ElOk e) (hln : els.length ≤ 50) :
  Does Tryz.prog 225 [.slice p els.length c, .int .i64 1, .func (.func 226) #[] #[.pointer (some ⟨gm, 0, none⟩), .pointer (some ⟨gd, 0, none⟩), .pointer (some ⟨gb, 0, none⟩)]] [.blk gm [.int .i64 0] 3, .blk gd [.int .i64 0] 3, .blk gb [.bool false] 4] (fun W => Rd W p (els.flatMap elC) ∧ (0 < els.length → ∀ x, p = some x → x.block ∉ List.flatMap Rs.ids [.blk gm [.int .i64 0] 3, .blk gd [.int .i64 0] 3, .blk gb [.bool false] 4])) (X := Int) (fun d => d ≤ 1) (fun _ => .tuple #[]) (fun d => [.blk gm [.int .i64 (els.length : Int)] 3, .blk gd [.int .i64 d] 3, .blk gb [.bool false] 4]) := by
 refine Does.enter Tryz.func225 rfl (m := 25) rfl (by simp) ?_
 rintro W0 ⟨hrd, hap⟩
 refine VC.seq ?_
 refine VC.region ?_
 refine VL.q (Q.move rfl) ?_
 refine VL.q (Q.len sl109 rfl) ?_
 refine VL.q (Q.move rfl) ?_
 refine VL.nil ?_
 refine VE.seq ?_
 refine VC.block ?_
 refine VC.loop (X := Nat × Int) (fun x => [(1, .int .i64 1), (2, .func (.func 226) #[] #[.pointer (some ⟨gm, 0, none⟩), .pointer (some ⟨gd, 0, none⟩), .pointer (some ⟨gb, 0, none⟩)]), (8, .slice p els.length c), (9, .int .i64 (els.length : Int)), (10, .int .i64 (x.1 : Int))]) (fun x => [.blk gm [.int .i64 (x.1 : Int)] 3, .blk gd [.int .i64 x.2] 3, .blk gb [.bool false] 4]) (fun x => x.1 ≤ els.length ∧ x.2 ≤ 1) (fun x => els.length - x.1) (0, 0) ⟨Nat.zero_le _, by decide⟩ ?_ ?_
 ·
  exact VS.mk zE (List.Sublist.refl _)
 ·
  rintro ⟨k, dp⟩ ⟨hk, hdp⟩
  dsimp only at hk hdp
  refine VC.seq ?_
  refine VC.region ?_
  refine VL.q (Q.lt rfl rfl) ?_
  refine VL.nil ?_
  refine VE.seq ?_
  refine VC.seq ?_
  refine VC.cond rfl ?_ ?_
  ·
   intro h11
   have hlt : k < els.length := by have := of_decide_eq_true h11; omega
   have hrp : ∃ b0 o0, p = some ⟨b0, o0, none⟩ := hrd.pos (by rw [fm_length elC_len]; omega)
   obtain ⟨b0, o0, rfl⟩ := hrp
   refine VC.skip ?_
   refine VE.seq ?_
   refine VC.seq ?_
   refine VC.block ?_
   refine VC.seq ?_
   refine VC.region ?_
   refine VL.q (Q.indexAddr sl109 (j := k) rfl rfl rfl hlt) ?_
   refine VL.q (Q.load0A (xs := elC els[k]) ty176 rfl (Rd.sg hrd (fm_seg elC_len els k hlt)) (hap (by omega) _ rfl)) ?_
   refine VL.eff (O.alloc zo176 (by decide) ?_)
   intro g7
   refine VL.eff (O.store ty176 rfl rfl rfl rfl zU zP ?_)
   refine VL.nil ?_
   refine VE.seq ?_
   refine VC.seq ?_
   refine VC.region ?_
   refine VL.q (Q.move rfl) ?_
   refine VL.q (Q.loadA (xs := elC els[k]) ty176 rfl zM zS) ?_
   refine VL.q (Q.move rfl) ?_
   refine VL.eff (O.callP ok226 rfl rfl (by decide) (visit_c gm gd gb k (by omega) dp hdp els[k] (hok _ (List.getElem_mem hlt))) zM2 (fun _ _ _ => trivial) ?_)
   intro x17 y17
   refine VL.nil ?_
   refine VE.seq ?_
   refine VC.region ?_
   refine VL.q (Q.fieldAddr fa176_3 rfl) ?_
   refine VL.q (Q.load1 ty109 rfl zM rfl) ?_
   refine VL.q (Q.move rfl) ?_
   refine VL.quietE (v' := .int .i64 2) (by decide) ((by first | exact Q.addI rfl rfl (by omega) (by omega) | exact Q.add rfl rfl)) (by rfl) ?_
   refine VL.q (Q.move rfl) ?_
   refine VL.eff (O.call0 ok225 rfl rfl (by decide) (walk0_c 2 (.func (.func 226) #[] #[.pointer (some ⟨gm, 0, none⟩), .pointer (some ⟨gd, 0, none⟩), .pointer (some ⟨gb, 0, none⟩)])) (fun _ _ _ => trivial) ?_)
   intro x23 y23
   refine VL.nil ?_
   refine VE.block_normal ?_
   refine VE.seq ?_
   refine VC.region ?_
   refine VL.q ((by first | exact Q.addI rfl rfl (by omega) (by omega) | exact Q.add rfl rfl)) ?_
   refine VL.q (Q.move rfl) ?_
   refine VL.nil ?_
   refine VE.then_normal ?_
   refine VK.picks (Lin := [.blk gm [.int .i64 ((k + 1 : Nat) : Int)] 3, .blk gd [.int .i64 1] 3, .blk gb [.bool false] 4]) zM2 ?_
   exact VE.round (k + 1, 1) ⟨by show k + 1 ≤ _; omega, Int.le_refl _⟩ (by show els.length - (k + 1) < els.length - k; omega) zE (List.Sublist.refl _)
  ·
   intro h11
   have he : k = els.length := by have := of_decide_eq_false h11; omega
   subst he
   refine VC.exit ?_
   refine VE.then_exit ?_
   refine VE.then_exit ?_
   refine VE.block_here ?_
   exact VE.end rfl (.nil) dp hdp rfl (List.Sublist.refl _)

theorem elcheck_c (p : Option Addr) (c : Nat) (els : List El) (hok : ∀ e ∈ els, ElOk e) (hln : els.length ≤ 50) :
  Does Tryz.prog 216 [.slice p els.length c] [] (fun W => Rd W p (els.flatMap elC) ∧ ∀ e ∈ els, Rd W e.p (bs e.d)) (X := Unit) (fun _ => True) (fun _ => .int .i64 0) (fun _ => []) := by
 refine Does.enter Tryz.func216 rfl (m := 25) rfl (by simp) ?_
 rintro W0 ⟨hrd, hde⟩
 refine VC.seq ?_
 refine VC.region ?_
 refine VL.q (Q.assign rfl) ?_
 refine VL.nil ?_
 refine VE.seq ?_
 refine VC.seq ?_
 refine VC.region ?_
 refine VL.eff (O.alloc zo3 (by decide) ?_)
 intro g3
 refine VL.eff (O.alloc zo3 (by decide) ?_)
 intro g4
 refine VL.eff (O.alloc zo4 (by decide) ?_)
 intro g5
 refine VL.eff (O.store ty3 rfl rfl rfl rfl zU zP ?_)
 refine VL.eff (O.store ty3 rfl rfl rfl rfl zU zP ?_)
 refine VL.eff (O.store ty4 rfl rfl rfl rfl zU zP ?_)
 refine VL.nil ?_
 refine VE.seq ?_
 refine VC.seq ?_
 refine VC.region ?_
 refine VL.q (Q.move rfl) ?_
 refine VL.q (Q.makeFunc rfl rfl) ?_
 refine VK.fresh fun hfr => ?_
 have hap : 0 < els.length → ∀ x, p = some x → x.block ∉ List.flatMap Rs.ids [.blk g3 [.int .i64 0] 3, .blk g4 [.int .i64 0] 3, .blk g5 [.bool false] 4] := fun h0 x hx hm => hrd.apart (by rw [fm_length elC_len]; omega) hfr x hx (by simpa [Rs.ids, or_comm, or_left_comm] using hm)
 refine VL.eff (O.callF ok225 rfl rfl (by decide) (walk_c g3 g4 g5 p c els hok hln) zM2 (fun _ ho _ => ⟨hrd.only0 ho, hap⟩) ?_)
 intro dm hdm
 refine VL.nil ?_
 refine VE.seq ?_
 refine VC.seq ?_
 refine VC.seq ?_
 refine VC.region ?_
 refine VL.q (Q.load1 ty3 rfl zM rfl) ?_
 refine VL.quietE (v' := .bool false) (by decide) (Q.gt rfl rfl) (congrArg Value.bool (decide_eq_false (by omega))) ?_
 refine VL.q (Q.move rfl) ?_
 refine VL.yes rfl rfl ?_
 refine VL.q (Q.load1 ty3 rfl zM rfl) ?_
 refine VL.yes rfl rfl ?_
 refine VL.quietE (v' := .bool false) (by decide) (Q.gt rfl rfl) (congrArg Value.bool (decide_eq_false (by omega))) ?_
 refine VL.quietE (v' := .bool false) (by decide) (Q.pick_false rfl rfl) (by rfl) ?_
 refine VL.nil ?_
 refine VE.seq ?_
 refine VC.condF rfl ?_
 refine VC.skip ?_
 refine VE.seq ?_
 refine VC.seq ?_
 refine VC.seq ?_
 refine VC.region ?_
 refine VL.q (Q.load1 ty4 rfl zM rfl) ?_
 refine VL.nil ?_
 refine VE.seq ?_
 refine VC.condF rfl ?_
 refine VC.skip ?_
 refine VE.seq ?_
 refine VC.seq ?_
 refine VC.seq ?_
 refine VC.region ?_
 refine VL.q (Q.move rfl) ?_
 refine VL.eff (O.call0 ok217 rfl rfl (by decide) (write_c p c els hok hln) (fun _ ho _ => ⟨hrd.only0 ho, fun e he => (hde e he).only0 ho⟩) ?_)
 intro x20 y20
 refine VL.q (Q.move rfl) ?_
 refine VL.q (Q.extract rfl rfl) ?_
 refine VL.q (Q.extract rfl rfl) ?_
 refine VL.q (Q.assign rfl) ?_
 refine VL.q (Q.assign rfl) ?_
 refine VL.nil ?_
 refine VE.seq ?_
 refine VC.seq ?_
 refine VC.region ?_
 refine VL.q (Q.move rfl) ?_
 refine VL.quietE (v' := .bool false) (by decide) (Q.not rfl) (by rfl) ?_
 refine VL.nil ?_
 refine VE.seq ?_
 refine VC.condF rfl ?_
 refine VC.skip ?_
 refine VE.seq ?_
 refine VC.seq ?_
 refine VC.region ?_
 refine VL.q (Q.assign rfl) ?_
 refine VL.nil ?_
 refine VE.seq ?_
 refine VC.ret ?_
 exact VE.ret rfl (.tmp rfl .nil) () trivial rfl (List.nil_sublist _)

theorem elencode_c (p : Option Addr) (c : Nat) (els : List El) (hok : ∀ e ∈ els, ElOk e) (hln : els.length ≤ 50) :
  Does Tryz.prog 194 [.slice p els.length c] [] (fun W => Rd W p (els.flatMap elC) ∧ ∀ e ∈ els, Rd W e.p (bs e.d)) (X := Option Addr × Nat) (fun _ => True) (fun x => .tuple #[.slice x.1 (encE els).length x.2, .int .i64 0]) (fun x => [.row (.slice x.1 (encE els).length x.2) 5 1 (encE els).length (bs (encE els))]) := by
 refine Does.enter Tryz.func194 rfl (m := 18) rfl (by simp) ?_
 rintro W0 ⟨hrd, hde⟩
 refine VC.seq ?_
 refine VC.region ?_
 refine VL.q (Q.assign rfl) ?_
 refine VL.q (Q.assign rfl) ?_
 refine VL.nil ?_
 refine VE.seq ?_
 refine VC.seq ?_
 refine VC.seq ?_
 refine VC.region ?_
 refine VL.q (Q.move rfl) ?_
 refine VL.eff (O.call0 ok216 rfl rfl (by decide) (elcheck_c p c els hok hln) (fun _ ho _ => ⟨hrd.only0 ho, fun e he => (hde e he).only0 ho⟩) ?_)
 intro x8 y8
 refine VL.q (Q.assign rfl) ?_
 refine VL.nil ?_
 refine VE.seq ?_
 refine VC.seq ?_
 refine VC.region ?_
 refine VL.q (Q.move rfl) ?_
 refine VL.quietE (v' := .bool false) (by decide) (Q.ne rfl rfl) (by rfl) ?_
 refine VL.nil ?_
 refine VE.seq ?_
 refine VC.condF rfl ?_
 refine VC.skip ?_
 refine VE.seq ?_
 refine VC.seq ?_
 refine VC.region ?_
 refine VL.q (Q.move rfl) ?_
 refine VL.eff (O.call0 ok217 rfl rfl (by decide) (write_c p c els hok hln) (fun _ ho _ => ⟨hrd.only0 ho, fun e he => (hde e he).only0 ho⟩) ?_)
 intro x14 y14
 refine VL.q (Q.move rfl) ?_
 refine VL.q (Q.extract rfl rfl) ?_
 refine VL.q (Q.extract rfl rfl) ?_
 refine VL.q (Q.assign rfl) ?_
 refine VL.q (Q.assign rfl) ?_
 refine VL.nil ?_
 refine VE.seq ?_
 refine VC.seq ?_
 refine VC.region ?_
 refine VL.q (Q.move rfl) ?_
 refine VL.q (Q.assign rfl) ?_
 refine VL.q (Q.assign rfl) ?_
 refine VL.nil ?_
 refine VE.seq ?_
 refine VC.ret ?_
 exact VE.ret rfl (.tmp rfl (.tmp rfl .nil)) x14 trivial rfl zB

end Go.Proofs.YtencghlmckbmlaaGreat
