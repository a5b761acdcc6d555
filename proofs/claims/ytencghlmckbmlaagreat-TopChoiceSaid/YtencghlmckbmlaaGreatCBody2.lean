/- The contracts of package element: a list is read. Conditions: those that each bears. -/
import Derived.Test.YtencghlmckbmlaaGreatRows
import Derived.Test.YtencghlmckbmlaaGreatCBody
namespace Go.Proofs.YtencghlmckbmlaaGreat
open Go Go.RowKit Go.Sx
set_option maxRecDepth 100000

theorem fa339_0 : tyField Tryz.prog 339 0 = some 0 := by kernel_rfl
theorem ok168 : okFunc Tryz.prog 168 = true := by kernel_rfl
theorem ok205 : okFunc Tryz.prog 205 = true := by kernel_rfl
theorem ok220 : okFunc Tryz.prog 220 = true := by kernel_rfl
theorem ok230 : okFunc Tryz.prog 230 = true := by kernel_rfl
theorem ze176 : (Tryz.prog.info? 176).bind (·.zero) = some (.agg #[.int .u8 0, .int .u8 0, .slice none 0 0, .slice none 0 0]) := by kernel_rfl
theorem zo339 : tyZero Tryz.prog 339 = some [.int .i64 0] := by kernel_rfl

/-- what is left lies there too -/
theorem rd_rest {W : World} {b o c k n : Nat} {A B : List UInt8} (h : Rd W (some ⟨b, o, none⟩) (bs (A ++ B))) (hA : A.length = k) (hn : k + B.length = n) (hc : n ≤ c) : Rd W (some ⟨b, sliceOff c k o 1, none⟩) (bs B) := by
  subst hA
  by_cases e : c = A.length
  · have : B = [] := List.eq_nil_of_length_eq_zero (by omega)
    subst this
    exact Rd.nil
  · rw [sliceOff_lt (by omega), Nat.mul_one]
    have := h.drop A.length
    rwa [← bs_drop, List.drop_left] at this
theorem rd_front {W : World} {b o : Nat} {A B : List UInt8} (h : Rd W (some ⟨b, o, none⟩) (bs (A ++ B))) : Rd W (some ⟨b, o, none⟩) (bs A) := by
  have := h.take A.length
  rwa [← bs_take, List.take_left] at this
theorem encE_cons (els : List El) (k : Nat) (h : k < els.length) : encE (els.drop k) = UInt8.ofNat els[k].id :: UInt8.ofNat els[k].d.length :: (els[k].d ++ encE (els.drop (k + 1))) := by
  rw [List.drop_eq_getElem_cons h, encE]
  rfl
/-- elements that have been read -/
structure Dx where
  k : Nat
  p : Option Addr
  c : Nat
  els : List El
  ids : List Nat
  o : Nat
  d : Nat
def elK (e : El) : Nat × List UInt8 := (e.id, e.d)
def RdD (els : List El) (W : World) : Prop := ∀ e ∈ els, Rd W e.p (bs e.d)
theorem rdd_snoc {L : List Rs} {W : World} {ids : List Nat} {els : List El} {e : El} {t : TypeId} (hw : Go.Sx.Own W L) (h1 : Rs.frz ids (RdD els) ∈ L) (h2 : Rs.row (.slice e.p e.d.length e.c) t 1 e.d.length (bs e.d) ∈ L) : RdD (els ++ [e]) W := by
  intro q hq
  rcases List.mem_append.1 hq with hq | hq
  · exact Rd.frz hw h1 q hq
  · rw [List.mem_singleton] at hq
    subst hq
    exact Rd.row hw h2
theorem elK_snoc {els els0 : List El} {k : Nat} {e : El} (h : els.map elK = (els0.map elK).take k) (hk : k < els0.length) (he : elK e = elK els0[k]) : (els ++ [e]).map elK = (els0.map elK).take (k + 1) := by
  rw [List.take_add_one, ← h]
  simp [hk, he]
theorem u8_id (n : Nat) (h : n ≤ 255) : (UInt8.ofNat n).toNat = n := by
  rw [UInt8.toNat_ofNat_of_lt' (by show n < 256; omega)]
theorem enc_pos (els : List El) (k : Nat) : decide ((0 : Int) < ((encE (els.drop k)).length : Int)) = decide (k < els.length) := by
  by_cases h : k < els.length
  · rw [encE_cons els k h]
    simp [h]
    omega
  · rw [List.drop_of_length_le (by omega)]
    simp [encE, h]

theorem content_c (b o n c : Nat) (x : UInt8) (d rest : List UInt8) (hx : x.toNat = d.length) (hd : d.length ≤ 200) (hn : 1 + d.length + rest.length = n) (hn2 : n ≤ 3000) (hc : n ≤ c) :
  Does Tryz.prog 230 [.slice (some ⟨b, o, none⟩) n c] [] (fun W => Rd W (some ⟨b, o, none⟩) (bs (x :: (d ++ rest)))) (X := Option Addr × Nat) (fun x => d.length ≤ x.2) (fun z => .tuple #[.slice z.1 d.length z.2, .slice (some ⟨b, (sliceOff c (1 + d.length) o 1), none⟩) rest.length (c - (1 + d.length)), .int .i64 0]) (fun z => [.row (.slice z.1 d.length z.2) 5 1 d.length (bs d)]) := by
 refine Does.enter Tryz.func230 rfl (m := 49) rfl (by simp) ?_
 intro W0 hro
 refine VC.seq ?_
 refine VC.region ?_
 refine VL.q (Q.assign rfl) ?_
 refine VL.q (Q.assign rfl) ?_
 refine VL.q (Q.assign rfl) ?_
 refine VL.nil ?_
 refine VE.seq ?_
 refine VC.block ?_
 refine VC.rounds 40 ?_
 refine VC.rnd (m := 39) ?_
 refine VC.block ?_
 refine VC.seq ?_
 refine VC.seq ?_
 refine VC.region ?_
 refine VL.q (Q.move rfl) ?_
 refine VL.q (Q.len sl23 rfl) ?_
 refine VL.quietE (v' := .bool false) (by decide) (Q.eq rfl rfl) (congrArg Value.bool (decide_eq_false (by omega))) ?_
 refine VL.q (Q.move rfl) ?_
 refine VL.yes rfl rfl ?_
 refine VL.q (Q.move rfl) ?_
 refine VL.yes rfl rfl ?_
 refine VL.q (Q.len sl23 rfl) ?_
 refine VL.yes rfl rfl ?_
 refine VL.q ((by first | exact Q.subI rfl rfl (by omega) (by omega) | exact Q.sub rfl rfl)) ?_
 refine VL.yes rfl rfl ?_
 refine VL.q (Q.move rfl) ?_
 refine VL.yes rfl rfl ?_
 refine VL.q (Q.indexAddr sl23 (j := 0) rfl rfl rfl (by omega)) ?_
 refine VL.yes rfl rfl ?_
 refine VL.q (Q.load0 (v := .int .u8 (x.toNat : Int)) ty5 rfl (Rd.at (j := 0 * 1) hro rfl) (by simp)) ?_
 refine VL.yes rfl rfl ?_
 refine VL.quietE (v' := .int .i64 (d.length : Int)) (by decide) ((by first | exact Q.convF ti5 ti3 rfl (by simp only [klo]; omega) (by simp only [khi]; omega) | exact Q.convM (M := 0) ti5 ti3 rfl rfl rfl | exact Q.conv ti5 ti3 rfl)) (congrArg (Value.int .i64) (by omega)) ?_
 refine VL.yes rfl rfl ?_
 refine VL.quietE (v' := .bool false) (by decide) (Q.lt rfl rfl) (congrArg Value.bool (decide_eq_false (by omega))) ?_
 refine VL.quietE (v' := .bool false) (by decide) (Q.pick_false rfl rfl) (by rfl) ?_
 refine VL.nil ?_
 refine VE.seq ?_
 refine VC.condF rfl ?_
 refine VC.skip ?_
 refine VE.seq ?_
 refine VC.seq ?_
 refine VC.region ?_
 refine VL.q (Q.move rfl) ?_
 refine VL.q (Q.indexAddr sl23 (j := 0) rfl rfl rfl (by omega)) ?_
 refine VL.q (Q.load0 (v := .int .u8 (x.toNat : Int)) ty5 rfl (Rd.at (j := 0 * 1) hro rfl) (by simp)) ?_
 refine VL.quietE (v' := .int .i64 (d.length : Int)) (by decide) ((by first | exact Q.convF ti5 ti3 rfl (by simp only [klo]; omega) (by simp only [khi]; omega) | exact Q.convM (M := 0) ti5 ti3 rfl rfl rfl | exact Q.conv ti5 ti3 rfl)) (congrArg (Value.int .i64) (by omega)) ?_
 refine VL.q (Q.assign rfl) ?_
 refine VK.addNil 5 1 ?_
 refine VL.nil ?_
 refine VE.seq ?_
 refine VC.seq ?_
 refine VA.start (Ls := []) (Cs := []) mixed ?_
 refine VA.tk 0 rfl (zt (zb (zt (zb ze)))) (List.nil_sublist _) Cells.nil (Quiet.c (Q.move rfl)) ?_
 refine VA.tk 1 rfl (zt (zb (zt (zb ze)))) (List.nil_sublist _) Cells.nil (Quiet.c (Q.move rfl)) ?_
 refine VA.tk 2 rfl (zt (zb (zt (zb ze)))) (List.nil_sublist _) Cells.nil (Quiet.c (Q.move rfl)) ?_
 refine VA.tk 3 rfl (zt (zb (zt (zb ze)))) (List.nil_sublist _) Cells.nil (Quiet.c ((by first | exact Q.addI rfl rfl (by omega) (by omega) | exact Q.add rfl rfl))) ?_
 refine VA.tk 4 rfl (zt (zb (zt (zb ze)))) (List.nil_sublist _) Cells.nil (Quiet.c (Q.slc sl23 (l := 1) (h := 1 + d.length) rfl ⟨_, _, rfl, rfl⟩ ⟨_, _, rfl, by omega⟩ (by omega) (by omega))) ?_
 refine VA.tk 6 rfl (zt (zb (zt (zb ze)))) (List.nil_sublist _) Cells.nil (Quiet.c (Q.move rfl)) ?_
 refine VA.tk 7 rfl (zt (zb (zt (zb ze)))) (List.nil_sublist _) Cells.nil (Quiet.c (Q.move rfl)) ?_
 refine VA.tk 8 rfl (zt (zb (zt (zb ze)))) (List.nil_sublist _) Cells.nil (Quiet.c ((by first | exact Q.addI rfl rfl (by omega) (by omega) | exact Q.add rfl rfl))) ?_
 refine VA.tk 9 rfl (zt (zb (zt (zb ze)))) (List.nil_sublist _) Cells.nil (Quiet.c (Q.slc sl23 (l := 1 + d.length) (h := n) rfl ⟨_, _, rfl, by omega⟩ rfl (by omega) (by omega))) ?_
 refine VA.all (rs := [5]) (by kernel_rfl) (by simp) ?_
 refine VA.forall1 ?_
 ·
  refine VA.eff rfl ?_
  refine id (O.append sl23 ze5 rfl (by decide) rfl rfl (by rw [bs_length]; omega) (bs_one d) (by decide) (by unfold maxLen; omega) (by omega) zA (fun _ ho _ => (rd_front (rd_rest (A := [x]) (hro.only0 ho) rfl (n := n) (by rw [List.length_append]; omega) hc))) ?_)
  intro p28 c28 hc28
  rw [show 0 + (1 + d.length - 1) = d.length from by omega, List.nil_append]
  refine VA.next (List.nil_sublist _) Cells.nil ?_
  refine VA.tk 10 rfl (zt (zb (zt (zb ze)))) (List.nil_sublist _) Cells.nil (Quiet.c (Q.assign rfl)) ?_
  refine VA.tk 11 rfl (zt (zb (zt (zb ze)))) (List.nil_sublist _) Cells.nil (Quiet.c (Q.assign rfl)) ?_
  refine VA.done (by kernel_rfl) ?_
  refine VE.seq ?_
  refine VC.seq ?_
  refine VC.block ?_
  refine VC.seq ?_
  refine VC.region ?_
  refine VL.q (Q.move rfl) ?_
  refine VL.quietE (v' := .bool true) (by decide) (Q.lt rfl rfl) (congrArg Value.bool (decide_eq_true (by omega))) ?_
  refine VL.q (Q.assign rfl) ?_
  refine VL.nil ?_
  refine VE.seq ?_
  refine VC.condT rfl ?_
  refine VC.seq ?_
  refine VC.region ?_
  refine VL.q (Q.move rfl) ?_
  refine VL.q (Q.move rfl) ?_
  refine VL.q (Q.assign rfl) ?_
  refine VL.q (Q.assign rfl) ?_
  refine VL.q (Q.assign rfl) ?_
  refine VL.nil ?_
  refine VE.seq ?_
  refine VC.ret ?_
  refine VE.block_ret ?_
  refine VE.then_ret ?_
  refine VE.block_ret ?_
  refine VE.then_ret ?_
  refine VE.block_ret ?_
  rw [show n - (1 + d.length) = rest.length from by omega]
  exact VE.ret rfl (.tmp rfl (.tmp rfl (.tmp rfl .nil))) (p28, c28) (by have := hc28; omega) rfl zB

theorem one_c (g many b o n c : Nat) (hmany : many ≤ 50) (id : Nat) (hid : id ≤ 199) (x : UInt8) (d rest : List UInt8) (hx : x.toNat = d.length) (hd : d.length ≤ 200) (hn : 2 + d.length + rest.length = n) (hn2 : n ≤ 3000) (hc : n ≤ c) :
  Does Tryz.prog 220 [.pointer (some ⟨g, 0, none⟩), .slice (some ⟨b, o, none⟩) n c, .int .i64 1] [.blk g [.int .i64 (many : Int)] 339] (fun W => Rd W (some ⟨b, o, none⟩) (bs (UInt8.ofNat id :: (x :: (d ++ rest)))) ∧ b ≠ g) (X := Option Addr × Nat) (fun z => d.length ≤ z.2) (fun z => .tuple #[.agg #[.int .u8 (id : Int), .int .u8 0, .slice z.1 d.length z.2, .slice none 0 0], .slice (some ⟨b, (sliceOff (c - 1) (1 + d.length) (o + 1) 1), none⟩) rest.length (c - 1 - (1 + d.length)), .int .i64 0]) (fun z => [.blk g [.int .i64 ((many + 1 : Nat) : Int)] 339, .row (.slice z.1 d.length z.2) 5 1 d.length (bs d)]) := by
 refine Does.enter Tryz.func220 rfl (m := 96) rfl (by simp) ?_
 rintro W0 ⟨hro, hbg⟩
 refine VC.seq ?_
 refine VC.region ?_
 refine VL.eff (O.alloc zo176 (by decide) ?_)
 intro g6
 refine VL.q (Q.assign rfl) ?_
 refine VL.q (Q.assign rfl) ?_
 refine VL.nil ?_
 refine VE.seq ?_
 refine VC.seq ?_
 refine VC.seq ?_
 refine VC.region ?_
 refine VL.q (Q.move rfl) ?_
 refine VL.q (Q.nilCheck rfl) ?_
 refine VL.q (Q.fieldAddr fa339_0 rfl) ?_
 refine VL.q (Q.load1 ty3 rfl zM rfl) ?_
 refine VL.quietE (v' := .bool false) (by decide) (Q.eq rfl rfl) (congrArg Value.bool (decide_eq_false (by omega))) ?_
 refine VL.nil ?_
 refine VE.seq ?_
 refine VC.condF rfl ?_
 refine VC.skip ?_
 refine VE.seq ?_
 refine VC.seq ?_
 refine VC.region ?_
 refine VL.q (Q.move rfl) ?_
 refine VL.q (Q.nilCheck rfl) ?_
 refine VL.q (Q.fieldAddr fa339_0 rfl) ?_
 refine VL.q (Q.load1 ty3 rfl zM rfl) ?_
 refine VL.q ((by first | exact Q.addI rfl rfl (by omega) (by omega) | exact Q.add rfl rfl)) ?_
 refine VL.q (Q.nilCheck rfl) ?_
 refine VL.q (Q.fieldAddr fa339_0 rfl) ?_
 refine VL.eff (O.store ty3 rfl rfl rfl rfl zU zP ?_)
 refine VL.nil ?_
 refine VE.seq ?_
 refine VC.seq ?_
 refine VC.seq ?_
 refine VC.region ?_
 refine VL.q (Q.move rfl) ?_
 refine VL.q (Q.indexAddr sl23 (j := 0) rfl rfl rfl (by omega)) ?_
 refine VL.q (Q.load0 (v := .int .u8 (id : Int)) ty5 rfl (by have := Rd.at (j := 0 * 1) hro (v := .int .u8 ((UInt8.ofNat id).toNat : Int)) rfl; rw [u8_id id (by omega)] at this; exact this) (by simpa [Rs.ids] using hbg)) ?_
 refine VL.quietE (v' := .bool false) (by decide) (Q.eq rfl rfl) (congrArg Value.bool (by simp; omega)) ?_
 refine VL.nil ?_
 refine VE.seq ?_
 refine VC.condF rfl ?_
 refine VC.skip ?_
 refine VE.seq ?_
 refine VC.seq ?_
 refine VC.region ?_
 refine VL.q (Q.move rfl) ?_
 refine VL.q (Q.indexAddr sl23 (j := 0) rfl rfl rfl (by omega)) ?_
 refine VL.q (Q.load0 (v := .int .u8 (id : Int)) ty5 rfl (by have := Rd.at (j := 0 * 1) hro (v := .int .u8 ((UInt8.ofNat id).toNat : Int)) rfl; rw [u8_id id (by omega)] at this; exact this) (by simpa [Rs.ids] using hbg)) ?_
 refine VL.q (Q.fieldAddr fa176_0 rfl) ?_
 refine VL.eff (O.store ty5 rfl rfl rfl rfl zU zP ?_)
 refine VL.nil ?_
 refine VE.seq ?_
 refine VC.seq ?_
 refine VC.region ?_
 refine VL.q (Q.move rfl) ?_
 refine VL.q (Q.slcL sl23 (l := 1) (h := n) rfl ⟨_, _, rfl, rfl⟩ rfl (by omega) (by omega) (by omega)) ?_
 refine VL.eff (O.call0 ok230 rfl rfl (by decide) (content_c b (o + 1 * 1) (n - 1) (c - 1) x d rest hx hd (by omega) (by omega) (by omega)) (fun _ ho _ => by have := (hro.only ho (fun q e => by cases e; simpa [Rs.ids] using hbg)).drop 1; exact this) ?_)
 intro x36 y36
 refine VL.q (Q.move rfl) ?_
 refine VL.q (Q.extract rfl rfl) ?_
 refine VL.q (Q.extract rfl rfl) ?_
 refine VL.q (Q.extract rfl rfl) ?_
 refine VL.q (Q.assign rfl) ?_
 refine VL.q (Q.assign rfl) ?_
 refine VL.q (Q.assign rfl) ?_
 refine VL.nil ?_
 refine VE.seq ?_
 refine VC.seq ?_
 refine VC.seq ?_
 refine VC.region ?_
 refine VL.q (Q.move rfl) ?_
 refine VL.quietE (v' := .bool false) (by decide) (Q.ne rfl rfl) (by rfl) ?_
 refine VL.nil ?_
 refine VE.seq ?_
 refine VC.condF rfl ?_
 refine VC.skip ?_
 refine VE.seq ?_
 refine VC.seq ?_
 refine VC.region ?_
 refine VL.q (Q.assign rfl) ?_
 refine VL.nil ?_
 refine VE.seq ?_
 refine VC.seq ?_
 refine VC.seq ?_
 refine VC.region ?_
 refine VL.q (Q.fieldAddr fa176_0 rfl) ?_
 refine VL.q (Q.load1 ty5 rfl zM rfl) ?_
 refine VL.quietE (v' := .bool false) (by decide) (Q.eq rfl rfl) (congrArg Value.bool (by simp; omega)) ?_
 refine VL.nil ?_
 refine VE.seq ?_
 refine VC.condF rfl ?_
 refine VC.skip ?_
 refine VE.seq ?_
 refine VC.seq ?_
 refine VC.seq ?_
 refine VK.keep (by exact .cons (i := 0) rfl (.cons (i := 2) rfl (.cons (i := 6) rfl (.cons (i := 7) rfl (.cons (i := 8) rfl (.cons (i := 9) rfl (.cons (i := 10) rfl ( .nil)))))))) ?_
 refine VC.region ?_
 refine VL.q (Q.move rfl) ?_
 refine VL.q (Q.len sl23 rfl) ?_
 refine VL.q (Q.move rfl) ?_
 refine VL.quietE (v' := .bool false) (by decide) (Q.gt rfl rfl) (congrArg Value.bool (decide_eq_false (by omega))) ?_
 refine VL.nil ?_
 refine VE.seq ?_
 refine VC.condF rfl ?_
 refine VC.skip ?_
 refine VE.seq ?_
 refine VC.seq ?_
 refine VC.seq ?_
 refine VC.region ?_
 refine VL.q (Q.fieldAddr fa176_0 rfl) ?_
 refine VL.q (Q.load1 ty5 rfl zM rfl) ?_
 refine VL.quietE (v' := .bool false) (by decide) (Q.eq rfl rfl) (congrArg Value.bool (by simp; omega)) ?_
 refine VL.nil ?_
 refine VE.seq ?_
 refine VC.condF rfl ?_
 refine VC.skip ?_
 refine VE.seq ?_
 refine VC.seq ?_
 refine VC.seq ?_
 refine VC.region ?_
 refine VL.q (Q.fieldAddr fa176_0 rfl) ?_
 refine VL.q (Q.load1 ty5 rfl zM rfl) ?_
 refine VL.eff (O.call0 ok227 rfl rfl (by decide) (container_c id hid) (fun _ _ _ => trivial) ?_)
 intro x69 y69
 refine VL.quietE (v' := .bool true) (by decide) (Q.not rfl) (by rfl) ?_
 refine VL.nil ?_
 refine VE.seq ?_
 refine VC.condT rfl ?_
 refine VC.seq ?_
 refine VC.region ?_
 refine VL.q (Q.move rfl) ?_
 refine VL.eff (O.call0 ok168 rfl rfl (by decide) (clone_byte x36.1 d.length x36.2 (bs d) (by rw [bs_length]; omega) (bs_one d) (by omega)) (fun _ _ hW => Rd.row hW zM) ?_)
 intro x72 y72
 refine VL.q (Q.fieldAddr fa176_2 rfl) ?_
 refine VL.eff (O.store ty23 rfl rfl rfl rfl zU zP ?_)
 refine VL.nil ?_
 refine VE.seq ?_
 refine VC.seq ?_
 refine VC.region ?_
 refine VL.q (Q.loadA ty176 rfl zM zS) ?_
 refine VL.q (Q.move rfl) ?_
 refine VL.eff (O.store ty176 rfl rfl rfl rfl zU zP ?_)
 refine VL.q (Q.assign rfl) ?_
 refine VL.q (Q.assign rfl) ?_
 refine VL.nil ?_
 refine VE.seq ?_
 refine VC.ret ?_
 refine VE.then_ret ?_
 refine VK.picks (Lin := [.blk g [.int .i64 ((many + 1 : Nat) : Int)] 339, .row (.slice x72.1 d.length x72.2) 5 1 d.length (bs d), .blk g6 [.int .u8 (id : Int), .int .u8 0, .slice x72.1 d.length x72.2, .slice none 0 0] 176]) zM2 ?_
 exact VE.ret rfl (.cell ty176 rfl zM rfl (.tmp rfl (.tmp rfl .nil))) x72 y72 rfl zB

theorem dlist_c (g b o n c : Nat) (els : List El) (hok : ∀ e ∈ els, ElOk e) (hln : els.length ≤ 10) (hn : (encE els).length = n) (hn2 : n ≤ 3000) (hc : n ≤ c) :
  Does Tryz.prog 205 [.pointer (some ⟨g, 0, none⟩), .slice (some ⟨b, o, none⟩) n c, .int .i64 1] [.blk g [.int .i64 ((0 : Nat) : Int)] 339] (fun W => Rd W (some ⟨b, o, none⟩) (bs (encE els)) ∧ b ≠ g) (X := Dx) (fun x => x.els.map elK = els.map elK ∧ x.els.length = els.length) (fun x => .tuple #[.slice x.p x.els.length x.c, .int .i64 0]) (fun x => [.blk g [.int .i64 ((els.length : Nat) : Int)] 339, .frz x.ids (RdE x.p x.els)]) := by
 subst hn
 refine Does.enter Tryz.func205 rfl (m := 35) rfl (by simp) ?_
 rintro W0 ⟨hro, hbg⟩
 refine VC.seq ?_
 refine VC.region ?_
 refine VL.q (Q.assign rfl) ?_
 refine VL.q (Q.assign rfl) ?_
 refine VL.nil ?_
 refine VE.seq ?_
 refine VC.seq ?_
 refine VC.region ?_
 refine VL.q (Q.move rfl) ?_
 refine VL.q (Q.makeFunc rfl rfl) ?_
 refine VL.q (Q.assign rfl) ?_
 refine VL.nil ?_
 refine VE.seq ?_
 refine VC.seq ?_
 refine VC.region ?_
 refine VL.q (Q.assign rfl) ?_
 refine VL.nil ?_
 refine VE.seq ?_
 refine VC.seq ?_
 refine VC.block ?_
 refine VK.addNil 176 4 ?_
 refine VK.frzNil (RdD []) (fun _ _ hr => by cases hr) ?_
 intro ids0
 refine VK.picks (Lin := [.blk g [.int .i64 ((0 : Nat) : Int)] 339, .row (.slice none 0 0) 176 4 0 (([] : List El).flatMap elC), .frz ids0 (RdD ([] : List El))]) zM2 ?_
 refine VC.loop (X := Dx) (fun x => [(0, .pointer (some ⟨g, 0, none⟩)), (1, .slice (some ⟨b, x.o, none⟩) (encE (els.drop x.k)).length x.d), (2, .int .i64 1), (8, .func (.func 220) #[.pointer (some ⟨g, 0, none⟩)] #[]), (9, .slice x.p x.k x.c)]) (fun x => [.blk g [.int .i64 ((x.k : Nat) : Int)] 339, .row (.slice x.p x.k x.c) 176 4 x.k (x.els.flatMap elC), .frz x.ids (RdD x.els)]) (fun x => x.k ≤ els.length ∧ x.els.length = x.k ∧ x.els.map elK = (els.map elK).take x.k ∧ Rd W0 (some ⟨b, x.o, none⟩) (bs (encE (els.drop x.k))) ∧ (encE (els.drop x.k)).length ≤ x.d ∧ (encE (els.drop x.k)).length ≤ 3000) (fun x => els.length - x.k) ⟨0, none, 0, [], ids0, o, c⟩ ⟨Nat.zero_le _, rfl, rfl, hro, hc, hn2⟩ ?_ ?_
 ·
  exact VS.mk zE (List.Sublist.refl _)
 ·
  rintro x ⟨hk, hel, hmap, hrd, hcd, hn3⟩
  refine VC.seq ?_
  refine VC.seq ?_
  refine VC.region ?_
  refine VL.q (Q.move rfl) ?_
  refine VL.q (Q.len sl23 rfl) ?_
  refine VL.q (Q.gt rfl rfl) ?_
  refine VL.nil ?_
  refine VE.seq ?_
  refine VC.cond rfl ?_ ?_
  ·
   intro h17
   have hlt : x.k < els.length := by rw [enc_pos] at h17; exact of_decide_eq_true h17
   obtain ⟨he1, he2, he3⟩ := hok els[x.k] (List.getElem_mem hlt)
   have hcons := encE_cons els x.k hlt
   have hclen : (encE (els.drop x.k)).length = 2 + els[x.k].d.length + (encE (els.drop (x.k + 1))).length := by rw [hcons]; simp; omega
   have hrest : Rd W0 (some ⟨b, (sliceOff (x.d - 1) (1 + els[x.k].d.length) (x.o + 1) 1), none⟩) (bs (encE (els.drop (x.k + 1)))) := by
    rw [hcons] at hrd
    have h1 := hrd.drop 1
    rw [← bs_drop] at h1
    exact rd_rest (A := UInt8.ofNat els[x.k].d.length :: els[x.k].d) (n := 1 + els[x.k].d.length + (encE (els.drop (x.k + 1))).length) h1 (by simp; omega) (by omega) (by omega)
   refine VC.skip ?_
   refine VE.seq ?_
   refine VC.block ?_
   refine VC.seq ?_
   refine VC.region ?_
   refine VL.q (Q.move rfl) ?_
   refine VL.q (Q.move rfl) ?_
   refine VL.q (Q.move rfl) ?_
   refine VL.eff (O.callP (first := [.pointer (some ⟨g, 0, none⟩)]) (capt := []) ok220 rfl rfl (by decide) (one_c g x.k b x.o (encE (els.drop x.k)).length x.d (by omega) els[x.k].id he1 (UInt8.ofNat els[x.k].d.length) els[x.k].d (encE (els.drop (x.k + 1))) (u8_id _ (by omega)) he2 (by omega) (by omega) hcd) zM2 (fun _ ho _ => ⟨by rw [← hcons]; exact hrd.only ho (fun q e => by cases e; simpa [Rs.ids] using hbg), hbg⟩) ?_)
   rintro ⟨q22, d22⟩ y22
   refine VL.q (Q.move rfl) ?_
   refine VL.q (Q.extract rfl rfl) ?_
   refine VL.q (Q.extract rfl rfl) ?_
   refine VL.q (Q.extract rfl rfl) ?_
   refine VL.eff (O.alloc zo176 (by decide) ?_)
   intro g10
   refine VL.eff (O.store ty176 rfl rfl rfl rfl zU zP ?_)
   refine VL.q (Q.assign rfl) ?_
   refine VL.q (Q.assign rfl) ?_
   refine VL.nil ?_
   refine VE.seq ?_
   refine VC.seq ?_
   refine VC.seq ?_
   refine VC.region ?_
   refine VL.q (Q.move rfl) ?_
   refine VL.quietE (v' := .bool false) (by decide) (Q.ne rfl rfl) (by rfl) ?_
   refine VL.nil ?_
   refine VE.seq ?_
   refine VC.condF rfl ?_
   refine VC.skip ?_
   refine VE.seq ?_
   refine VC.region ?_
   refine VL.q (Q.move rfl) ?_
   refine VL.q (Q.loadA ty176 rfl zM zS) ?_
   refine VL.eff (O.buildSlice sl109 ze176 (by decide) zF (by decide) ?_)
   intro g31
   refine VL.eff (O.appendS sl109 ze176 rfl (by decide) rfl rfl zM zS rfl (by decide) (by unfold maxLen; omega) (by omega) zA ?_)
   intro p32 c32 hc32
   rw [show x.els.flatMap elC ++ [.int .u8 (els[x.k].id : Int), .int .u8 0, .slice q22 els[x.k].d.length d22, .slice none 0 0] = (x.els ++ [(⟨els[x.k].id, q22, d22, els[x.k].d⟩ : El)]).flatMap elC from (fm_snoc (f := elC) x.els (⟨els[x.k].id, q22, d22, els[x.k].d⟩ : El)).symm]
   refine VL.q (Q.move rfl) ?_
   refine VL.q (Q.assign rfl) ?_
   refine VL.q (Q.assign rfl) ?_
   refine VL.nil ?_
   refine VE.block_normal ?_
   refine VE.then_normal ?_
   refine VK.freeze (A := [.frz x.ids (RdD x.els), .row (.slice q22 els[x.k].d.length d22) 5 1 els[x.k].d.length (bs els[x.k].d)]) (RdD (x.els ++ [(⟨els[x.k].id, q22, d22, els[x.k].d⟩ : El)])) zM2 (fun W hW => rdd_snoc (e := (⟨els[x.k].id, q22, d22, els[x.k].d⟩ : El)) (t := 5) hW (.head _) (.tail _ (.head _))) ?_
   intro ids1
   refine VK.picks (Lin := [.blk g [.int .i64 (((x.k + 1) : Nat) : Int)] 339, .row (.slice p32 (x.k + 1) c32) 176 4 (x.k + 1) ((x.els ++ [(⟨els[x.k].id, q22, d22, els[x.k].d⟩ : El)]).flatMap elC), .frz ids1 (RdD (x.els ++ [(⟨els[x.k].id, q22, d22, els[x.k].d⟩ : El)]))]) zM2 ?_
   refine VE.round (⟨x.k + 1, p32, c32, x.els ++ [(⟨els[x.k].id, q22, d22, els[x.k].d⟩ : El)], ids1, (sliceOff (x.d - 1) (1 + els[x.k].d.length) (x.o + 1) 1), x.d - 1 - (1 + els[x.k].d.length)⟩ : Dx) ?_ ?_ ?_ (List.Sublist.refl _)
   ·
    refine ⟨hlt, by show (x.els ++ [_]).length = x.k + 1; rw [List.length_append, hel]; rfl, elK_snoc hmap hlt rfl, ?_, ?_, ?_⟩
    ·
     exact hrest
    ·
     show (encE (els.drop (x.k + 1))).length ≤ x.d - 1 - (1 + els[x.k].d.length)
     omega
    ·
     show (encE (els.drop (x.k + 1))).length ≤ 3000
     omega
   ·
    show els.length - (x.k + 1) < els.length - x.k
    omega
   ·
    exact zE
  ·
   intro h17
   have hke : x.k = els.length := by rw [enc_pos] at h17; have := of_decide_eq_false h17; omega
   obtain ⟨k, qp, qc, eels, ids, qo, qd⟩ := x
   obtain rfl : k = els.length := hke
   dsimp only at hel hmap
   dsimp only
   refine VC.exit ?_
   refine VE.then_exit ?_
   refine VE.then_exit ?_
   refine VE.block_here ?_
   refine VE.seq ?_
   refine VC.seq ?_
   refine VC.region ?_
   refine VL.q (Q.move rfl) ?_
   refine VL.q (Q.assign rfl) ?_
   refine VL.q (Q.assign rfl) ?_
   refine VL.nil ?_
   refine VE.seq ?_
   refine VC.ret ?_
   refine VK.freeze (A := [.row (.slice qp els.length qc) 176 4 els.length (eels.flatMap elC), .frz ids (RdD eels)]) (RdE qp eels) zM2 (fun W hW => ⟨Rd.row hW (.head _), Rd.frz hW (.tail _ (.head _))⟩) ?_
   intro ids2
   refine VK.picks (Lin := [.blk g [.int .i64 ((els.length : Nat) : Int)] 339, .frz ids2 (RdE qp eels)]) zM2 ?_
   exact VE.ret rfl (.tmp rfl (.tmp rfl .nil)) ⟨els.length, qp, qc, eels, ids2, qo, qd⟩ ⟨by rw [hmap]; exact List.take_of_length_le (by simp), hel⟩ (by show _ = Value.tuple _; rw [hel]; rfl) zB

theorem eldecode_c (b o n c : Nat) (els : List El) (hok : ∀ e ∈ els, ElOk e) (hln : els.length ≤ 10) (hn : (encE els).length = n) (h0 : 0 < n) (hn2 : n ≤ 3000) (hc : n ≤ c) :
  Does Tryz.prog 159 [.slice (some ⟨b, o, none⟩) n c] [] (fun W => Rd W (some ⟨b, o, none⟩) (bs (encE els))) (X := Dx) (fun x => x.els.map elK = els.map elK ∧ x.els.length = els.length) (fun x => .tuple #[.slice x.p x.els.length x.c, .int .i64 0]) (fun x => [.frz x.ids (RdE x.p x.els)]) := by
 refine Does.enter Tryz.func159 rfl (m := 9) rfl (by simp) ?_
 intro W0 hro
 have hb := hro.lt (by rw [bs_length]; omega)
 refine VC.seq ?_
 refine VC.region ?_
 refine VL.q (Q.assign rfl) ?_
 refine VL.q (Q.assign rfl) ?_
 refine VL.nil ?_
 refine VE.seq ?_
 refine VC.seq ?_
 refine VC.region ?_
 refine VL.eff (O.alloc zo339 (by decide) ?_)
 intro g4
 refine VL.q (Q.move rfl) ?_
 refine VK.freshR (r := .blk g4 [.int .i64 0] 339) zM ?_
 intro f4
 have d4 : W0.heap.size ≤ g4 := by simpa [Rs.ids] using f4
 refine VL.eff (O.callP (first := []) (capt := []) ok205 rfl rfl (by decide) (dlist_c g4 b o n c els hok hln hn hn2 hc) zM2 (fun _ ho _ => ⟨hro.only0 ho, by omega⟩) ?_)
 intro x6 y6
 refine VL.q (Q.extract rfl rfl) ?_
 refine VL.q (Q.extract rfl rfl) ?_
 refine VL.q (Q.assign rfl) ?_
 refine VL.q (Q.assign rfl) ?_
 refine VL.nil ?_
 refine VE.seq ?_
 refine VC.ret ?_
 exact VE.ret rfl (.tmp rfl (.tmp rfl .nil)) x6 y6 rfl zB

end Go.Proofs.YtencghlmckbmlaaGreat
