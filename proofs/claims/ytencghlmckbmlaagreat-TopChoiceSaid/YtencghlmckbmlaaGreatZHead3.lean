/- The contracts of package header for the frames that the mesh makes: Decode. Conditions: those that each bears. -/
import Derived.Test.YtencghlmckbmlaaGreatRows
import Derived.Test.YtencghlmckbmlaaGreatZHead2
namespace Go.Proofs.YtencghlmckbmlaaGreat
open Go Go.RowKit Go.Sx
set_option maxRecDepth 100000

theorem fa189_0 : tyField Tryz.prog 189 0 = some 0 := by kernel_rfl
theorem fa189_1 : tyField Tryz.prog 189 1 = some 1 := by kernel_rfl
theorem lay105 : laysOf Tryz.prog 105 = some ([.int .u8 0, .int .u8 0, .bool false, .bool false, .bool false, .bool false, .bool false, .bool false, .bool false, .int .i64 0, .int .u8 0, .int .u8 0, .int .u8 0, .int .u8 0, .int .u8 0, .int .u8 0, .int .u8 0, .int .u8 0, .int .u8 0, .int .u8 0, .int .u8 0, .int .u8 0, .int .u8 0, .int .u8 0, .int .u8 0, .int .u8 0, .int .u8 0, .int .u8 0, .int .u8 0, .int .u8 0, .int .u8 0, .int .u8 0, .int .u8 0, .int .u8 0, .int .i64 0, .int .i64 0, .int .i64 0, .int .u8 0, .bool false, .bool false, .slice none 0 0], [(0, 40), (40, 1)]) := by kernel_rfl
theorem lay189 : laysOf Tryz.prog 189 = some ([.slice none 0 0, .bool false], [(0, 1), (1, 1)]) := by kernel_rfl
theorem ok71 : okFunc Tryz.prog 71 = true := by kernel_rfl
theorem ok72 : okFunc Tryz.prog 72 = true := by kernel_rfl
theorem ok74 : okFunc Tryz.prog 74 = true := by kernel_rfl
theorem ty105 : tySz Tryz.prog 105 = some (true, 41) := by kernel_rfl
theorem zo105 : tyZero Tryz.prog 105 = some [.int .u8 0, .int .u8 0, .bool false, .bool false, .bool false, .bool false, .bool false, .bool false, .bool false, .int .i64 0, .int .u8 0, .int .u8 0, .int .u8 0, .int .u8 0, .int .u8 0, .int .u8 0, .int .u8 0, .int .u8 0, .int .u8 0, .int .u8 0, .int .u8 0, .int .u8 0, .int .u8 0, .int .u8 0, .int .u8 0, .int .u8 0, .int .u8 0, .int .u8 0, .int .u8 0, .int .u8 0, .int .u8 0, .int .u8 0, .int .u8 0, .int .u8 0, .int .i64 0, .int .i64 0, .int .i64 0, .int .u8 0, .bool false, .bool false, .slice none 0 0] := by kernel_rfl

theorem take_c (g b o m c n o2 : Nat) (hle : n ≤ m) (hmc : m ≤ c) (ho : sliceOff c n o 1 = o2) :
  Does Tryz.prog 72 [.pointer (some ⟨g, 0, none⟩), .int .i64 (n : Int)] [.blk g [.slice (some ⟨b, o, none⟩) m c, .bool false] 189] (fun _ => True) (X := Unit) (fun _ => True) (fun _ => .slice (some ⟨b, o, none⟩) n c) (fun _ => [.blk g [.slice (some ⟨b, o2, none⟩) (m - n) (c - n), .bool false] 189]) := by
 subst ho
 refine Does.enter Tryz.func72 rfl (m := 37) rfl (by simp) ?_
 intro W0 hro
 refine VC.seq ?_
 refine VC.region ?_
 refine VL.q (Q.assign rfl) ?_
 refine VL.nil ?_
 refine VE.seq ?_
 refine VC.seq ?_
 refine VC.seq ?_
 refine VC.region ?_
 refine VL.q (Q.move rfl) ?_
 refine VL.q (Q.nilCheck rfl) ?_
 refine VL.q (Q.fieldAddr fa189_0 rfl) ?_
 refine VL.q (Q.load1 ty23 rfl zM rfl) ?_
 refine VL.q (Q.len sl23 rfl) ?_
 refine VL.q (Q.move rfl) ?_
 refine VL.q (Q.lt rfl rfl) ?_
 refine VL.nil ?_
 refine VE.seq ?_
 refine VC.cond rfl ?_ ?_
 ·
  intro h12
  exfalso
  have := of_decide_eq_true h12
  omega
 ·
  intro h12
  refine VC.skip ?_
  refine VE.seq ?_
  refine VC.seq ?_
  refine VC.region ?_
  refine VL.q (Q.move rfl) ?_
  refine VL.q (Q.nilCheck rfl) ?_
  refine VL.q (Q.fieldAddr fa189_0 rfl) ?_
  refine VL.q (Q.load1 ty23 rfl zM rfl) ?_
  refine VL.q (Q.move rfl) ?_
  refine VL.q (Q.slc0 sl23 (h := n) rfl ⟨_, _, rfl, rfl⟩ (by omega)) ?_
  refine VL.q (Q.assign rfl) ?_
  refine VL.nil ?_
  refine VE.seq ?_
  refine VC.seq ?_
  refine VC.region ?_
  refine VL.q (Q.move rfl) ?_
  refine VL.q (Q.move rfl) ?_
  refine VL.q (Q.nilCheck rfl) ?_
  refine VL.q (Q.fieldAddr fa189_0 rfl) ?_
  refine VL.q (Q.load1 ty23 rfl zM rfl) ?_
  refine VL.q (Q.move rfl) ?_
  refine VL.q (Q.slc sl23 (l := n) (h := m) rfl ⟨_, _, rfl, rfl⟩ rfl (by omega) (by omega)) ?_
  refine VL.q (Q.nilCheck rfl) ?_
  refine VL.q (Q.fieldAddr fa189_0 rfl) ?_
  refine VL.eff (O.store ty23 rfl rfl rfl rfl zU zP ?_)
  refine VL.nil ?_
  refine VE.seq ?_
  refine VC.seq ?_
  refine VC.region ?_
  refine VL.q (Q.move rfl) ?_
  refine VL.q (Q.assign rfl) ?_
  refine VL.nil ?_
  refine VE.seq ?_
  refine VC.ret ?_
  refine VE.ret rfl (.tmp rfl .nil) () ?_ ?_ (List.Sublist.refl _)
  ·
   trivial
  ·
   first | rfl | (exfalso; simp at *; omega)

theorem or_bytes (b0 b1 : Int) (h0 : 0 ≤ b0 ∧ b0 ≤ 255) (h1 : 0 ≤ b1 ∧ b1 ≤ 255) : ((b0.toNat ||| (b1 * 256).toNat : Nat) : Int) = b0 + 256 * b1 := by
  obtain ⟨x, rfl⟩ := Int.eq_ofNat_of_zero_le h0.1
  obtain ⟨y, rfl⟩ := Int.eq_ofNat_of_zero_le h1.1
  have e := Nat.two_pow_add_eq_or_of_lt (i := 8) (b := x) (by omega) y
  have e1 : ((x : Int)).toNat = x := by omega
  have e2 : ((y : Int) * 256).toNat = 2 ^ 8 * y := by omega
  rw [e1, e2, Nat.or_comm, ← e]
  omega

theorem two_c (g b o m c o2 : Nat) (b0 b1 v : Int) (h0 : 0 ≤ b0 ∧ b0 ≤ 255) (h1 : 0 ≤ b1 ∧ b1 ≤ 255) (hv : v = b0 + 256 * b1) (hne : b ≠ g) (hle : 2 ≤ m) (hmc : m ≤ c) (ho : sliceOff c 2 o 1 = o2) :
  Does Tryz.prog 74 [.pointer (some ⟨g, 0, none⟩)] [.blk g [.slice (some ⟨b, o, none⟩) m c, .bool false] 189] (fun W => Rd W (some ⟨b, o, none⟩) [.int .u8 b0, .int .u8 b1]) (X := Unit) (fun _ => True) (fun _ => .int .i64 v) (fun _ => [.blk g [.slice (some ⟨b, o2, none⟩) (m - 2) (c - 2), .bool false] 189]) := by
 refine Does.enter Tryz.func74 rfl (m := 16) rfl (by simp) ?_
 intro W0 hro
 refine VC.seq ?_
 refine VC.region ?_
 refine VL.q (Q.assign rfl) ?_
 refine VL.nil ?_
 refine VE.seq ?_
 refine VC.seq ?_
 refine VC.region ?_
 refine VL.q (Q.move rfl) ?_
 refine VL.eff (O.callB ok72 rfl rfl (by decide) (take_c _ _ _ _ _ 2 _ hle hmc ho) zK (fun _ _ _ => trivial) ?_)
 intro x5 y5
 have hk0 := Rd.at (j := 0) hro rfl
 have hk1 := Rd.at (j := 1) hro rfl
 refine VL.q (Q.assign rfl) ?_
 refine VL.nil ?_
 refine VE.seq ?_
 refine VC.seq ?_
 refine VA.start (Ls := []) (Cs := []) mixed ?_
 refine VA.take 0 rfl (by kernel_rfl) (by kernel_rfl) (by kernel_rfl) (Still.then Still.body) (List.nil_sublist _) Cells.nil (by decide) (Quiet.c (Q.move rfl)) ?_
 refine VA.take 1 rfl (by kernel_rfl) (by kernel_rfl) (by kernel_rfl) (Still.then Still.body) (List.nil_sublist _) Cells.nil (by decide) (Quiet.c (Q.indexAddr sl23 (j := 0) rfl rfl rfl (by omega))) ?_
 refine VA.take 2 rfl (by kernel_rfl) (by kernel_rfl) (by kernel_rfl) (Still.then Still.body) (List.nil_sublist _) Cells.nil (by decide) (Quiet.c (Q.load0 ty5 rfl hk0 (by simpa [Rs.ids] using hne))) ?_
 refine VA.take 3 rfl (by kernel_rfl) (by kernel_rfl) (by kernel_rfl) (Still.then Still.body) (List.nil_sublist _) Cells.nil (by decide) (Quiet.c ((by first | exact Q.convF ti5 ti3 rfl (by simp only [klo]; omega) (by simp only [khi]; omega) | exact Q.convM (M := 0) ti5 ti3 rfl rfl rfl | exact Q.conv ti5 ti3 rfl))) ?_
 refine VA.take 4 rfl (by kernel_rfl) (by kernel_rfl) (by kernel_rfl) (Still.then Still.body) (List.nil_sublist _) Cells.nil (by decide) (Quiet.c (Q.move rfl)) ?_
 refine VA.take 5 rfl (by kernel_rfl) (by kernel_rfl) (by kernel_rfl) (Still.then Still.body) (List.nil_sublist _) Cells.nil (by decide) (Quiet.c (Q.indexAddr sl23 (j := 1) rfl rfl rfl (by omega))) ?_
 refine VA.take 6 rfl (by kernel_rfl) (by kernel_rfl) (by kernel_rfl) (Still.then Still.body) (List.nil_sublist _) Cells.nil (by decide) (Quiet.c (Q.load0 ty5 rfl hk1 (by simpa [Rs.ids] using hne))) ?_
 refine VA.take 7 rfl (by kernel_rfl) (by kernel_rfl) (by kernel_rfl) (Still.then Still.body) (List.nil_sublist _) Cells.nil (by decide) (Quiet.c ((by first | exact Q.convF ti5 ti3 rfl (by simp only [klo]; omega) (by simp only [khi]; omega) | exact Q.convM (M := 0) ti5 ti3 rfl rfl rfl | exact Q.conv ti5 ti3 rfl))) ?_
 refine VA.take 8 rfl (by kernel_rfl) (by kernel_rfl) (by kernel_rfl) (Still.then Still.body) (List.nil_sublist _) Cells.nil (by decide) (Quiet.c (Q.shlF (s := 8) (m := 256) rfl rfl (by decide) (by decide) (by simp only [klo]; omega) (by simp only [khi]; omega))) ?_
 refine VA.take 9 rfl (by kernel_rfl) (by kernel_rfl) (by kernel_rfl) (Still.then Still.body) (List.nil_sublist _) Cells.nil (by decide) (Quiet.c (Q.or rfl rfl (by omega) (by simp only [khi]; omega) (by omega) (by simp only [khi]; omega))) ?_
 refine VA.take 10 rfl (by kernel_rfl) (by kernel_rfl) (by kernel_rfl) (Still.then Still.body) (List.nil_sublist _) Cells.nil (by decide) (Quiet.c (Q.assign rfl)) ?_
 refine VA.done (by kernel_rfl) ?_
 refine VE.seq ?_
 refine VC.ret ?_
 refine VE.ret rfl (.tmp rfl .nil) () ?_ ?_ (List.Sublist.refl _)
 ·
  trivial
 ·
  exact congrArg (Value.int .i64) (by rw [hv]; exact or_bytes b0 b1 h0 h1)

theorem rd_body {W : World} {L : List Rs} {gr N m c o2 : Nat} {cells : List Value} {l : List UInt8} (hw : Own W L) (hm : Rs.row (.slice (some ⟨gr, 0, none⟩) (N + m) c) 5 1 (N + m) (cells ++ bs l) ∈ L) (hN : cells.length = N) (hl : l.length = m) (ho : m ≠ 0 → o2 = N) : Rd W (some ⟨gr, o2, none⟩) (bs l) := by
  by_cases h0 : m = 0
  · have : l = [] := List.eq_nil_of_length_eq_zero (by omega)
    subst this
    exact Rd.nil
  · rw [ho h0]
    have := (Rd.row hw hm).drop N
    rw [Nat.zero_add, List.drop_append_of_le_length (by omega), List.drop_of_length_le (by omega)] at this
    exact this

theorem verify_bcn (D : Nat) (hD : D ≤ 32767) (t f : Nat) (ht : t ≤ 255) (hf : f ≤ 255) (p : Option Addr) (m c : Nat) (l : List UInt8) (hl : l.length = m) (hm : m ≤ 2304) (hc : ((hb_bcn D t f ++ l) ++ crcBytes (hb_bcn D t f ++ l)).length ≤ c) : Does Tryz.prog 71 [.slice p ((hb_bcn D t f ++ l) ++ crcBytes (hb_bcn D t f ++ l)).length c] [] (fun W => Rd W p (bs ((hb_bcn D t f ++ l) ++ crcBytes (hb_bcn D t f ++ l)))) (X := Option Addr × Nat) (fun x => 24 + m ≤ x.2) (fun x => .tuple #[.slice x.1 (24 + m) x.2, .int .i64 0]) (fun x => [.row (.slice x.1 (24 + m) x.2) 5 1 (24 + m) ([.int .u8 128, .int .u8 0, .int .u8 ((D : Int) % 256), .int .u8 ((D : Int) / 256), .int .u8 255, .int .u8 255, .int .u8 255, .int .u8 255, .int .u8 255, .int .u8 255, .int .u8 2, .int .u8 0, .int .u8 0, .int .u8 0, .int .u8 1, .int .u8 (f : Int), .int .u8 2, .int .u8 0, .int .u8 0, .int .u8 0, .int .u8 1, .int .u8 (f : Int), .int .u8 0, .int .u8 0] ++ bs l)]) := by
  have h := verify_c p ((hb_bcn D t f ++ l) ++ crcBytes (hb_bcn D t f ++ l)).length c ((hb_bcn D t f ++ l) ++ crcBytes (hb_bcn D t f ++ l)) rfl (by simp only [List.length_append, hbl_bcn, hl]; have h4 : (crcBytes (hb_bcn D t f ++ l)).length = 4 := rfl; omega) hc
  rw [verifyP_crc] at h
  dsimp only at h
  have e2 : bs (hb_bcn D t f ++ l) = [.int .u8 128, .int .u8 0, .int .u8 ((D : Int) % 256), .int .u8 ((D : Int) / 256), .int .u8 255, .int .u8 255, .int .u8 255, .int .u8 255, .int .u8 255, .int .u8 255, .int .u8 2, .int .u8 0, .int .u8 0, .int .u8 0, .int .u8 1, .int .u8 (f : Int), .int .u8 2, .int .u8 0, .int .u8 0, .int .u8 0, .int .u8 1, .int .u8 (f : Int), .int .u8 0, .int .u8 0] ++ bs l := by rw [bs_append, hbs_bcn D t f hD ht hf]
  rw [e2, show (hb_bcn D t f ++ l).length = 24 + m from by rw [List.length_append, hbl_bcn, hl]] at h
  exact h

theorem decode_bcn (D : Nat) (hD : D ≤ 32767) (t f : Nat) (ht : t ≤ 255) (hf : f ≤ 255) (p : Option Addr) (m c : Nat) (l : List UInt8) (hl : l.length = m) (hm : m ≤ 2304) (hc : ((hb_bcn D t f ++ l) ++ crcBytes (hb_bcn D t f ++ l)).length ≤ c) :
  Does Tryz.prog 25 [.slice p ((hb_bcn D t f ++ l) ++ crcBytes (hb_bcn D t f ++ l)).length c] [] (fun W => Rd W p (bs ((hb_bcn D t f ++ l) ++ crcBytes (hb_bcn D t f ++ l)))) (X := Option Addr × Nat) (fun x => m ≤ x.2) (fun x => .tuple #[.agg #[.int .u8 0, .int .u8 8, .bool false, .bool false, .bool false, .bool false, .bool false, .bool false, .bool false, .int .i64 (D : Int), .int .u8 255, .int .u8 255, .int .u8 255, .int .u8 255, .int .u8 255, .int .u8 255, .int .u8 2, .int .u8 0, .int .u8 0, .int .u8 0, .int .u8 1, .int .u8 (f : Int), .int .u8 2, .int .u8 0, .int .u8 0, .int .u8 0, .int .u8 1, .int .u8 (f : Int), .int .u8 0, .int .u8 0, .int .u8 0, .int .u8 0, .int .u8 0, .int .u8 0, .int .i64 0, .int .i64 0, .int .i64 0, .int .u8 0, .bool false, .bool false, .slice x.1 m x.2], .int .i64 0]) (fun x => [.row (.slice x.1 m x.2) 5 1 m (bs l)]) := by
 refine Does.enter Tryz.func25 rfl (m := 213) rfl (by simp) ?_
 intro W0 hro
 refine VC.seq ?_
 refine VC.region ?_
 refine VL.eff (O.alloc zo105 (by decide) ?_)
 intro g2
 refine VL.q (Q.assign rfl) ?_
 refine VL.nil ?_
 refine VE.seq ?_
 refine VC.seq ?_
 refine VC.region ?_
 refine VL.q (Q.move rfl) ?_
 refine VL.eff (O.call0 ok71 rfl rfl (by decide) (verify_bcn D hD t f ht hf p m c l hl hm hc) (fun _ ho _ => hro.only0 ho) ?_)
 intro x22 y22
 obtain ⟨p22, c22⟩ := x22
 refine VK.rowHead (m := (24 + m)) zM (by omega) ?_
 intro gr hgr hmc hcm
 dsimp only at hgr hmc hcm
 subst hgr
 refine VL.q (Q.move rfl) ?_
 refine VL.q (Q.extract rfl rfl) ?_
 refine VL.q (Q.extract rfl rfl) ?_
 refine VL.q (Q.assign rfl) ?_
 refine VL.q (Q.assign rfl) ?_
 refine VL.nil ?_
 refine VE.seq ?_
 refine VC.seq ?_
 refine VC.seq ?_
 refine VC.region ?_
 refine VL.q (Q.move rfl) ?_
 refine VL.quietE (v' := .bool false) (by decide) (Q.ne rfl rfl) (by rfl) ?_
 refine VL.nil ?_
 refine VE.seq ?_
 refine VC.condF rfl ?_
 refine VC.skip ?_
 refine VE.seq ?_
 refine VC.seq ?_
 refine VC.region ?_
 refine VL.q (Q.move rfl) ?_
 refine VL.q (Q.build lay189 zF) ?_
 refine VL.eff (O.box rfl rfl (by decide) ?_)
 intro g31
 refine VK.apart (r := .row (.slice (some ⟨gr, 0, none⟩) (24 + m) c22) 5 1 (24 + m) ([.int .u8 128, .int .u8 0, .int .u8 ((D : Int) % 256), .int .u8 ((D : Int) / 256), .int .u8 255, .int .u8 255, .int .u8 255, .int .u8 255, .int .u8 255, .int .u8 255, .int .u8 2, .int .u8 0, .int .u8 0, .int .u8 0, .int .u8 1, .int .u8 (f : Int), .int .u8 2, .int .u8 0, .int .u8 0, .int .u8 0, .int .u8 1, .int .u8 (f : Int), .int .u8 0, .int .u8 0] ++ bs l)) (r' := .blk g31 [.slice (some ⟨gr, 0, none⟩) (24 + m) c22, .bool false] 189) (Two.swap zM) ?_
 intro hap
 have hne : gr ≠ g31 := by simpa [Rs.ids, Value.ownBlock] using hap
 refine VL.q (Q.assign rfl) ?_
 refine VL.nil ?_
 refine VE.seq ?_
 refine VC.seq ?_
 refine VC.region ?_
 refine VL.q (Q.move rfl) ?_
 refine VL.eff (O.callB ok72 rfl rfl (by decide) (take_c _ gr 0 (24 + m) c22 2 _ (by omega) (by omega) (sliceOff_lt (by omega))) zK (fun _ _ _ => trivial) ?_)
 intro x33 y33
 refine VL.q (Q.assign rfl) ?_
 refine VL.nil ?_
 refine VE.seq ?_
 refine VC.seq ?_
 refine VC.seq ?_
 refine VC.region ?_
 refine VL.q (Q.move rfl) ?_
 refine VL.q (Q.nilCheck rfl) ?_
 refine VL.q (Q.fieldAddr fa189_1 rfl) ?_
 refine VL.q (Q.load1 ty4 rfl zM rfl) ?_
 refine VL.nil ?_
 refine VE.seq ?_
 refine VC.condF rfl ?_
 refine VC.skip ?_
 refine VE.seq ?_
 refine VC.seq ?_
 refine VC.region ?_
 refine VL.q (Q.move rfl) ?_
 refine VL.q (Q.indexAddr sl23 (j := 1) rfl rfl rfl (by omega)) ?_
 refine VL.q (Q.loadRow ty5 rfl zM rfl) ?_
 refine VL.q (Q.assign rfl) ?_
 refine VL.nil ?_
 refine VE.seq ?_
 refine VC.seq ?_
 refine VA.start (Ls := [.row (.slice (some ⟨gr, 0, none⟩) (24 + m) c22) 5 1 (24 + m) ([.int .u8 128, .int .u8 0, .int .u8 ((D : Int) % 256), .int .u8 ((D : Int) / 256), .int .u8 255, .int .u8 255, .int .u8 255, .int .u8 255, .int .u8 255, .int .u8 255, .int .u8 2, .int .u8 0, .int .u8 0, .int .u8 0, .int .u8 1, .int .u8 (f : Int), .int .u8 2, .int .u8 0, .int .u8 0, .int .u8 0, .int .u8 1, .int .u8 (f : Int), .int .u8 0, .int .u8 0] ++ bs l)]) (Cs := []) mixed ?_
 refine VA.take 0 rfl (by kernel_rfl) (by kernel_rfl) (by kernel_rfl) (Still.then Still.body) (List.singleton_sublist.2 zM) Cells.nil (by decide) (Quiet.c (Q.move rfl)) ?_
 refine VA.take 1 rfl (by kernel_rfl) (by kernel_rfl) (by kernel_rfl) (Still.then Still.body) (List.singleton_sublist.2 zM) Cells.nil (by decide) (Quiet.c (Q.indexAddr sl23 (j := 0) rfl rfl rfl (by omega))) ?_
 refine VA.take 2 rfl (by kernel_rfl) (by kernel_rfl) (by kernel_rfl) (Still.then Still.body) (List.singleton_sublist.2 zM) Cells.nil (by decide) (Quiet.c (Q.loadRow ty5 rfl zM rfl)) ?_
 refine VA.take 3 rfl (by kernel_rfl) (by kernel_rfl) (by kernel_rfl) (Still.then Still.body) (List.singleton_sublist.2 zM) Cells.nil (by decide) (Quiet.c (Q.shrC (s := 2) (m := 4) rfl rfl (by decide) (by decide))) ?_
 refine VA.take 4 rfl (by kernel_rfl) (by kernel_rfl) (by kernel_rfl) (Still.then Still.body) (List.singleton_sublist.2 zM) Cells.nil (by decide) (Quiet.c (Q.and rfl rfl (by omega) (by simp only [khi]; omega) (by omega) (by simp only [khi]; omega))) ?_
 refine VA.take 5 rfl (by kernel_rfl) (by kernel_rfl) (by kernel_rfl) (Still.then Still.body) (List.singleton_sublist.2 zM) Cells.nil (by decide) (Quiet.c (Q.move rfl)) ?_
 refine VA.take 6 rfl (by kernel_rfl) (by kernel_rfl) (by kernel_rfl) (Still.then Still.body) (List.singleton_sublist.2 zM) Cells.nil (by decide) (Quiet.c (Q.indexAddr sl23 (j := 0) rfl rfl rfl (by omega))) ?_
 refine VA.take 7 rfl (by kernel_rfl) (by kernel_rfl) (by kernel_rfl) (Still.then Still.body) (List.singleton_sublist.2 zM) Cells.nil (by decide) (Quiet.c (Q.loadRow ty5 rfl zM rfl)) ?_
 refine VA.take 8 rfl (by kernel_rfl) (by kernel_rfl) (by kernel_rfl) (Still.then Still.body) (List.singleton_sublist.2 zM) Cells.nil (by decide) (Quiet.c (Q.shrC (s := 4) (m := 16) rfl rfl (by decide) (by decide))) ?_
 refine VA.take 9 rfl (by kernel_rfl) (by kernel_rfl) (by kernel_rfl) (Still.then Still.body) (List.singleton_sublist.2 zM) Cells.nil (by decide) (Quiet.c (Q.build lay103 zF)) ?_
 refine VA.all (rs := [10]) (by kernel_rfl) (by simp) ?_
 refine VA.forall1 ?_
 ·
  refine VA.eff rfl ?_
  refine id (O.alloc zo103 (by decide) ?_)
  intro g8
  refine VA.next (List.singleton_sublist.2 zM) Cells.nil ?_
  refine VA.all (rs := [11]) (by kernel_rfl) (by simp) ?_
  refine VA.forall1 ?_
  ·
   refine VA.eff rfl ?_
   refine id (O.store ty103 rfl rfl rfl rfl zU zP ?_)
   refine VA.next (List.singleton_sublist.2 zM) Cells.nil ?_
   refine VA.done (by kernel_rfl) ?_
   refine VE.seq ?_
   refine VC.seq ?_
   refine VC.region ?_
   refine VL.q (Q.fieldAddr fa103_0 rfl) ?_
   refine VL.q (Q.load1 ty5 rfl zM rfl) ?_
   refine VL.q (Q.fieldAddr fa103_1 rfl) ?_
   refine VL.q (Q.load1 ty5 rfl zM rfl) ?_
   refine VL.eff (O.call0 ok73 rfl rfl (by decide) (known_bcn) (fun _ _ _ => trivial) ?_)
   intro x57 y57
   refine VL.q (Q.move rfl) ?_
   refine VL.q (Q.extract rfl rfl) ?_
   refine VL.q (Q.extract rfl rfl) ?_
   refine VL.eff (O.alloc zo193 (by decide) ?_)
   intro g9
   refine VL.eff (O.store ty193 rfl rfl rfl rfl zU zP ?_)
   refine VL.q (Q.assign rfl) ?_
   refine VL.nil ?_
   refine VE.seq ?_
   refine VC.seq ?_
   refine VC.seq ?_
   refine VK.keep (by exact .cons (i := 2) rfl (.cons (i := 3) rfl (.cons (i := 5) rfl (.cons (i := 6) rfl (.cons (i := 7) rfl (.cons (i := 8) rfl (.cons (i := 9) rfl (.cons (i := 10) rfl ( .nil))))))))) ?_
   refine VC.region ?_
   refine VL.q (Q.move rfl) ?_
   refine VL.quietE (v' := .bool false) (by decide) (Q.not rfl) (by rfl) ?_
   refine VL.q (Q.move rfl) ?_
   refine VL.yes rfl rfl ?_
   refine VL.q (Q.move rfl) ?_
   refine VL.yes rfl rfl ?_
   refine VL.q (Q.indexAddr sl23 (j := 0) rfl rfl rfl (by omega)) ?_
   refine VL.yes rfl rfl ?_
   refine VL.q (Q.loadRow ty5 rfl zM rfl) ?_
   refine VL.yes rfl rfl ?_
   refine VL.quietE (v' := .int .u8 0) (by decide) (Q.and rfl rfl (by omega) (by simp only [khi]; omega) (by omega) (by simp only [khi]; omega)) (by rfl) ?_
   refine VL.yes rfl rfl ?_
   refine VL.quietE (v' := .bool false) (by decide) (Q.ne rfl rfl) (by rfl) ?_
   refine VL.quietE (v' := .bool false) (by decide) (Q.pick_false rfl rfl) (by rfl) ?_
   refine VL.q (Q.move rfl) ?_
   refine VL.yes rfl rfl ?_
   refine VL.q (Q.move rfl) ?_
   refine VL.yes rfl rfl ?_
   refine VL.quietE (v' := .int .u8 0) (by decide) (Q.and rfl rfl (by omega) (by simp only [khi]; omega) (by omega) (by simp only [khi]; omega)) (by rfl) ?_
   refine VL.yes rfl rfl ?_
   refine VL.quietE (v' := .bool false) (by decide) (Q.ne rfl rfl) (by rfl) ?_
   refine VL.quietE (v' := .bool false) (by decide) (Q.pick_false rfl rfl) (by rfl) ?_
   refine VL.nil ?_
   refine VE.seq ?_
   refine VC.condF rfl ?_
   refine VC.skip ?_
   refine VE.seq ?_
   refine VC.seq ?_
   refine VC.region ?_
   refine VL.q (Q.move rfl) ?_
   refine VL.quietE (v' := .int .u8 0) (by decide) (Q.and rfl rfl (by omega) (by simp only [khi]; omega) (by omega) (by simp only [khi]; omega)) (by rfl) ?_
   refine VL.quietE (v' := .bool false) (by decide) (Q.ne rfl rfl) (by rfl) ?_
   refine VL.q (Q.move rfl) ?_
   refine VL.quietE (v' := .int .u8 0) (by decide) (Q.and rfl rfl (by omega) (by simp only [khi]; omega) (by omega) (by simp only [khi]; omega)) (by rfl) ?_
   refine VL.quietE (v' := .bool false) (by decide) (Q.ne rfl rfl) (by rfl) ?_
   refine VL.q (Q.move rfl) ?_
   refine VL.quietE (v' := .int .u8 0) (by decide) (Q.and rfl rfl (by omega) (by simp only [khi]; omega) (by omega) (by simp only [khi]; omega)) (by rfl) ?_
   refine VL.quietE (v' := .bool false) (by decide) (Q.ne rfl rfl) (by rfl) ?_
   refine VL.q (Q.move rfl) ?_
   refine VL.quietE (v' := .int .u8 0) (by decide) (Q.and rfl rfl (by omega) (by simp only [khi]; omega) (by omega) (by simp only [khi]; omega)) (by rfl) ?_
   refine VL.quietE (v' := .bool false) (by decide) (Q.ne rfl rfl) (by rfl) ?_
   refine VL.q (Q.fieldAddr fa103_2 rfl) ?_
   refine VL.eff (O.store ty4 rfl rfl rfl rfl zU zP ?_)
   refine VL.q (Q.fieldAddr fa103_3 rfl) ?_
   refine VL.eff (O.store ty4 rfl rfl rfl rfl zU zP ?_)
   refine VL.q (Q.fieldAddr fa103_4 rfl) ?_
   refine VL.eff (O.store ty4 rfl rfl rfl rfl zU zP ?_)
   refine VL.q (Q.fieldAddr fa103_5 rfl) ?_
   refine VL.eff (O.store ty4 rfl rfl rfl rfl zU zP ?_)
   refine VL.nil ?_
   refine VE.seq ?_
   refine VC.seq ?_
   refine VC.region ?_
   refine VL.q (Q.move rfl) ?_
   refine VL.quietE (v' := .int .u8 0) (by decide) (Q.and rfl rfl (by omega) (by simp only [khi]; omega) (by omega) (by simp only [khi]; omega)) (by rfl) ?_
   refine VL.quietE (v' := .bool false) (by decide) (Q.ne rfl rfl) (by rfl) ?_
   refine VL.q (Q.move rfl) ?_
   refine VL.quietE (v' := .int .u8 0) (by decide) (Q.and rfl rfl (by omega) (by simp only [khi]; omega) (by omega) (by simp only [khi]; omega)) (by rfl) ?_
   refine VL.quietE (v' := .bool false) (by decide) (Q.ne rfl rfl) (by rfl) ?_
   refine VL.q (Q.move rfl) ?_
   refine VL.quietE (v' := .int .u8 0) (by decide) (Q.and rfl rfl (by omega) (by simp only [khi]; omega) (by omega) (by simp only [khi]; omega)) (by rfl) ?_
   refine VL.quietE (v' := .bool false) (by decide) (Q.ne rfl rfl) (by rfl) ?_
   refine VL.q (Q.fieldAddr fa103_6 rfl) ?_
   refine VL.eff (O.store ty4 rfl rfl rfl rfl zU zP ?_)
   refine VL.q (Q.fieldAddr fa103_7 rfl) ?_
   refine VL.eff (O.store ty4 rfl rfl rfl rfl zU zP ?_)
   refine VL.q (Q.fieldAddr fa103_8 rfl) ?_
   refine VL.eff (O.store ty4 rfl rfl rfl rfl zU zP ?_)
   refine VL.nil ?_
   refine VE.seq ?_
   refine VC.seq ?_
   refine VK.keep (by exact .cons (i := 2) rfl (.cons (i := 3) rfl (.cons (i := 5) rfl (.cons (i := 8) rfl (.cons (i := 9) rfl ( .nil)))))) ?_
   refine VC.region ?_
   refine VL.q (Q.move rfl) ?_
   refine VL.eff (O.callB ok74 rfl rfl (by decide) (two_c _ gr 2 ((24 + m) - 2) (c22 - 2) _ ((D : Int) % 256) ((D : Int) / 256) (D : Int) (by omega) (by omega) (by omega) hne (by omega) (by omega) (sliceOff_lt (by omega))) zK (fun _ _ hw => Rd.rowP hw zM zS) ?_)
   intro x104 y104
   refine VL.q (Q.fieldAddr fa103_9 rfl) ?_
   refine VL.eff (O.store ty3 rfl rfl rfl rfl zU zP ?_)
   refine VL.nil ?_
   refine VE.seq ?_
   refine VC.seq ?_
   refine VC.region ?_
   refine VL.eff (O.call0 ok75 rfl rfl (by decide) (places_bcn _) (fun _ _ hw => Rd.seg hw zM zS) ?_)
   intro x107 y107
   refine VL.q (Q.move rfl) ?_
   refine VL.q (Q.extract rfl rfl) ?_
   refine VL.q (Q.extract rfl rfl) ?_
   refine VL.q (Q.assign rfl) ?_
   refine VL.q (Q.assign rfl) ?_
   refine VL.nil ?_
   refine VE.seq ?_
   refine VC.seq ?_
   refine VC.seq ?_
   refine VC.region ?_
   refine VL.q (Q.move rfl) ?_
   refine VL.q (Q.len sl196 rfl) ?_
   refine VL.q (Q.move rfl) ?_
   refine VL.nil ?_
   refine VE.seq ?_
   refine VC.block ?_
   refine VC.rounds 40 ?_
   refine VC.rnd (m := 39) ?_
   refine VC.seq ?_
   refine VC.region ?_
   refine VL.q (Q.lt rfl rfl) ?_
   refine VL.nil ?_
   refine VE.seq ?_
   refine VC.seq ?_
   refine VC.condT rfl ?_
   refine VC.skip ?_
   refine VE.seq ?_
   refine VC.seq ?_
   refine VC.block ?_
   refine VC.seq ?_
   refine VC.region ?_
   refine VL.q (Q.indexAddr sl196 (j := 0) rfl rfl rfl (by omega)) ?_
   refine VL.q (Q.load1 ty200 rfl zM rfl) ?_
   refine VL.q (Q.assign rfl) ?_
   refine VL.nil ?_
   refine VE.seq ?_
   refine VA.start (Ls := []) (Cs := []) mixed ?_
   refine VA.take 0 rfl (by kernel_rfl) (by kernel_rfl) (by kernel_rfl) (Still.block (Still.then (Still.then (Still.block (Still.then Still.body))))) (List.nil_sublist _) Cells.nil (by decide) (Quiet.c (Q.move rfl)) ?_
   refine VA.take 1 rfl (by kernel_rfl) (by kernel_rfl) (by kernel_rfl) (Still.block (Still.then (Still.then (Still.block (Still.then Still.body))))) (List.nil_sublist _) Cells.nil (by decide) (Quiet.c (Q.nilCheck rfl)) ?_
   refine VA.take 2 rfl (by kernel_rfl) (by kernel_rfl) (by kernel_rfl) (Still.block (Still.then (Still.then (Still.block (Still.then Still.body))))) (List.nil_sublist _) Cells.nil (by decide) (Quiet.c (Q.slcA0 ar44 (h := _) rfl rfl (by omega))) ?_
   refine VA.take 3 rfl (by kernel_rfl) (by kernel_rfl) (by kernel_rfl) (Still.block (Still.then (Still.then (Still.block (Still.then Still.body))))) (List.nil_sublist _) Cells.nil (by decide) (Quiet.c (Q.move rfl)) ?_
   refine VA.all (rs := [4]) (by kernel_rfl) (by simp) ?_
   refine VA.forall1 ?_
   ·
    refine VA.eff rfl ?_
    refine id (O.callB ok72 rfl rfl (by decide) (take_c _ gr 4 (((24 + m) - 2) - 2) ((c22 - 2) - 2) 6 _ (by omega) (by omega) (sliceOff_lt (by omega))) zK (fun _ _ _ => trivial) ?_)
    intro x120 y120
    refine VA.next (List.nil_sublist _) Cells.nil ?_
    refine VA.all (rs := [5]) (by kernel_rfl) (by simp) ?_
    refine VA.forall1 ?_
    ·
     refine VA.eff rfl ?_
     refine id (O.copyR sl23 rfl rfl zM zS rfl (by decide) zU zP ?_)
     refine VA.next (List.nil_sublist _) Cells.nil ?_
     refine VA.done (by kernel_rfl) ?_
     refine VE.block_normal ?_
     refine VE.seq ?_
     refine VC.region ?_
     refine VL.quietE (v' := .int .i64 1) (by decide) ((by first | exact Q.addI rfl rfl (by omega) (by omega) | exact Q.add rfl rfl)) (by rfl) ?_
     refine VL.q (Q.move rfl) ?_
     refine VL.nil ?_
     refine VE.then_normal ?_
     refine VC.rnd (m := 38) ?_
     refine VC.seq ?_
     refine VC.region ?_
     refine VL.q (Q.lt rfl rfl) ?_
     refine VL.nil ?_
     refine VE.seq ?_
     refine VC.seq ?_
     refine VC.condT rfl ?_
     refine VC.skip ?_
     refine VE.seq ?_
     refine VC.seq ?_
     refine VC.block ?_
     refine VC.seq ?_
     refine VC.region ?_
     refine VL.q (Q.indexAddr sl196 (j := 1) rfl rfl rfl (by omega)) ?_
     refine VL.q (Q.load1 ty200 rfl zM rfl) ?_
     refine VL.q (Q.assign rfl) ?_
     refine VL.nil ?_
     refine VE.seq ?_
     refine VA.start (Ls := []) (Cs := []) mixed ?_
     refine VA.take 0 rfl (by kernel_rfl) (by kernel_rfl) (by kernel_rfl) (Still.block (Still.then (Still.then (Still.block (Still.then Still.body))))) (List.nil_sublist _) Cells.nil (by decide) (Quiet.c (Q.move rfl)) ?_
     refine VA.take 1 rfl (by kernel_rfl) (by kernel_rfl) (by kernel_rfl) (Still.block (Still.then (Still.then (Still.block (Still.then Still.body))))) (List.nil_sublist _) Cells.nil (by decide) (Quiet.c (Q.nilCheck rfl)) ?_
     refine VA.take 2 rfl (by kernel_rfl) (by kernel_rfl) (by kernel_rfl) (Still.block (Still.then (Still.then (Still.block (Still.then Still.body))))) (List.nil_sublist _) Cells.nil (by decide) (Quiet.c (Q.slcA0 ar44 (h := _) rfl rfl (by omega))) ?_
     refine VA.take 3 rfl (by kernel_rfl) (by kernel_rfl) (by kernel_rfl) (Still.block (Still.then (Still.then (Still.block (Still.then Still.body))))) (List.nil_sublist _) Cells.nil (by decide) (Quiet.c (Q.move rfl)) ?_
     refine VA.all (rs := [4]) (by kernel_rfl) (by simp) ?_
     refine VA.forall1 ?_
     ·
      refine VA.eff rfl ?_
      refine id (O.callB ok72 rfl rfl (by decide) (take_c _ gr 10 ((((24 + m) - 2) - 2) - 6) (((c22 - 2) - 2) - 6) 6 _ (by omega) (by omega) (sliceOff_lt (by omega))) zK (fun _ _ _ => trivial) ?_)
      intro x120_1 y120_1
      refine VA.next (List.nil_sublist _) Cells.nil ?_
      refine VA.all (rs := [5]) (by kernel_rfl) (by simp) ?_
      refine VA.forall1 ?_
      ·
       refine VA.eff rfl ?_
       refine id (O.copyR sl23 rfl rfl zM zS rfl (by decide) zU zP ?_)
       refine VA.next (List.nil_sublist _) Cells.nil ?_
       refine VA.done (by kernel_rfl) ?_
       refine VE.block_normal ?_
       refine VE.seq ?_
       refine VC.region ?_
       refine VL.quietE (v' := .int .i64 2) (by decide) ((by first | exact Q.addI rfl rfl (by omega) (by omega) | exact Q.add rfl rfl)) (by rfl) ?_
       refine VL.q (Q.move rfl) ?_
       refine VL.nil ?_
       refine VE.then_normal ?_
       refine VC.rnd (m := 37) ?_
       refine VC.seq ?_
       refine VC.region ?_
       refine VL.q (Q.lt rfl rfl) ?_
       refine VL.nil ?_
       refine VE.seq ?_
       refine VC.seq ?_
       refine VC.condT rfl ?_
       refine VC.skip ?_
       refine VE.seq ?_
       refine VC.seq ?_
       refine VC.block ?_
       refine VC.seq ?_
       refine VC.region ?_
       refine VL.q (Q.indexAddr sl196 (j := 2) rfl rfl rfl (by omega)) ?_
       refine VL.q (Q.load1 ty200 rfl zM rfl) ?_
       refine VL.q (Q.assign rfl) ?_
       refine VL.nil ?_
       refine VE.seq ?_
       refine VA.start (Ls := []) (Cs := []) mixed ?_
       refine VA.take 0 rfl (by kernel_rfl) (by kernel_rfl) (by kernel_rfl) (Still.block (Still.then (Still.then (Still.block (Still.then Still.body))))) (List.nil_sublist _) Cells.nil (by decide) (Quiet.c (Q.move rfl)) ?_
       refine VA.take 1 rfl (by kernel_rfl) (by kernel_rfl) (by kernel_rfl) (Still.block (Still.then (Still.then (Still.block (Still.then Still.body))))) (List.nil_sublist _) Cells.nil (by decide) (Quiet.c (Q.nilCheck rfl)) ?_
       refine VA.take 2 rfl (by kernel_rfl) (by kernel_rfl) (by kernel_rfl) (Still.block (Still.then (Still.then (Still.block (Still.then Still.body))))) (List.nil_sublist _) Cells.nil (by decide) (Quiet.c (Q.slcA0 ar44 (h := _) rfl rfl (by omega))) ?_
       refine VA.take 3 rfl (by kernel_rfl) (by kernel_rfl) (by kernel_rfl) (Still.block (Still.then (Still.then (Still.block (Still.then Still.body))))) (List.nil_sublist _) Cells.nil (by decide) (Quiet.c (Q.move rfl)) ?_
       refine VA.all (rs := [4]) (by kernel_rfl) (by simp) ?_
       refine VA.forall1 ?_
       ·
        refine VA.eff rfl ?_
        refine id (O.callB ok72 rfl rfl (by decide) (take_c _ gr 16 (((((24 + m) - 2) - 2) - 6) - 6) ((((c22 - 2) - 2) - 6) - 6) 6 _ (by omega) (by omega) (sliceOff_lt (by omega))) zK (fun _ _ _ => trivial) ?_)
        intro x120_2 y120_2
        refine VA.next (List.nil_sublist _) Cells.nil ?_
        refine VA.all (rs := [5]) (by kernel_rfl) (by simp) ?_
        refine VA.forall1 ?_
        ·
         refine VA.eff rfl ?_
         refine id (O.copyR sl23 rfl rfl zM zS rfl (by decide) zU zP ?_)
         refine VA.next (List.nil_sublist _) Cells.nil ?_
         refine VA.done (by kernel_rfl) ?_
         refine VE.block_normal ?_
         refine VE.seq ?_
         refine VC.region ?_
         refine VL.quietE (v' := .int .i64 3) (by decide) ((by first | exact Q.addI rfl rfl (by omega) (by omega) | exact Q.add rfl rfl)) (by rfl) ?_
         refine VL.q (Q.move rfl) ?_
         refine VL.nil ?_
         refine VE.then_normal ?_
         refine VC.rnd (m := 36) ?_
         refine VC.seq ?_
         refine VC.region ?_
         refine VL.q (Q.lt rfl rfl) ?_
         refine VL.nil ?_
         refine VE.seq ?_
         refine VC.seq ?_
         refine VC.condF rfl ?_
         refine VC.exit ?_
         refine VE.then_exit ?_
         refine VE.then_exit ?_
         refine VE.block_here ?_
         refine VE.seq ?_
         refine VC.seq ?_
         refine VC.seq ?_
         refine VC.region ?_
         refine VL.q (Q.fieldAddr fa193_1 rfl) ?_
         refine VL.q (Q.load1 ty4 rfl zM rfl) ?_
         refine VL.nil ?_
         refine VE.seq ?_
         refine VC.condT rfl ?_
         refine VC.seq ?_
         refine VC.region ?_
         refine VL.q (Q.move rfl) ?_
         refine VL.eff (O.callB ok74 rfl rfl (by decide) (two_c _ gr 22 ((((((24 + m) - 2) - 2) - 6) - 6) - 6) (((((c22 - 2) - 2) - 6) - 6) - 6) _ 0 0 0 (by omega) (by omega) (by omega) hne (by omega) (by omega) rfl) zK (fun _ _ hw => Rd.rowP hw zM zS) ?_)
         intro x126 y126
         refine VL.q (Q.assign rfl) ?_
         refine VL.nil ?_
         refine VE.seq ?_
         refine VC.region ?_
         refine VL.q (Q.move rfl) ?_
         refine VL.quietE (v' := .int .i64 0) (by decide) (Q.and rfl rfl (by omega) (by simp only [khi]; omega) (by omega) (by simp only [khi]; omega)) (by rfl) ?_
         refine VL.q (Q.move rfl) ?_
         refine VL.quietE (v' := .int .i64 0) (by decide) (Q.shrC (s := 4) (m := 16) rfl rfl (by decide) (by decide)) (by rfl) ?_
         refine VL.q (Q.fieldAddr fa103_15 rfl) ?_
         refine VL.eff (O.store ty3 rfl rfl rfl rfl zU zP ?_)
         refine VL.q (Q.fieldAddr fa103_14 rfl) ?_
         refine VL.eff (O.store ty3 rfl rfl rfl rfl zU zP ?_)
         refine VL.nil ?_
         refine VE.seq ?_
         refine VC.seq ?_
         refine VC.seq ?_
         refine VC.region ?_
         refine VL.q (Q.move rfl) ?_
         refine VL.q (Q.len sl196 rfl) ?_
         refine VL.q (Q.move rfl) ?_
         refine VL.nil ?_
         refine VE.seq ?_
         refine VC.block ?_
         refine VC.rounds 40 ?_
         refine VC.rnd (m := 39) ?_
         refine VC.seq ?_
         refine VK.keep (by exact .cons (i := 2) rfl (.cons (i := 3) rfl (.cons (i := 5) rfl (.cons (i := 8) rfl (.cons (i := 9) rfl (.cons (i := 133) rfl (.cons (i := 134) rfl (.cons (i := 135) rfl ( .nil))))))))) ?_
         refine VC.region ?_
         refine VL.q (Q.lt rfl rfl) ?_
         refine VL.nil ?_
         refine VE.seq ?_
         refine VC.seq ?_
         refine VC.condF rfl ?_
         refine VC.exit ?_
         refine VE.then_exit ?_
         refine VE.then_exit ?_
         refine VE.block_here ?_
         refine VE.seq ?_
         refine VC.seq ?_
         refine VC.region ?_
         refine VL.q (Q.assign rfl) ?_
         refine VL.nil ?_
         refine VE.seq ?_
         refine VC.seq ?_
         refine VC.seq ?_
         refine VC.region ?_
         refine VL.q (Q.fieldAddr fa193_2 rfl) ?_
         refine VL.q (Q.load1 ty4 rfl zM rfl) ?_
         refine VL.nil ?_
         refine VE.seq ?_
         refine VC.condF rfl ?_
         refine VC.skip ?_
         refine VE.seq ?_
         refine VC.seq ?_
         refine VC.seq ?_
         refine VC.region ?_
         refine VL.q (Q.move rfl) ?_
         refine VL.q (Q.nilCheck rfl) ?_
         refine VL.q (Q.fieldAddr fa189_1 rfl) ?_
         refine VL.q (Q.load1 ty4 rfl zM rfl) ?_
         refine VL.nil ?_
         refine VE.seq ?_
         refine VC.condF rfl ?_
         refine VC.skip ?_
         refine VE.seq ?_
         refine VC.seq ?_
         refine VC.seq ?_
         refine VC.region ?_
         refine VL.q (Q.move rfl) ?_
         refine VL.q (Q.move rfl) ?_
         refine VL.yes rfl rfl ?_
         refine VL.q (Q.loadA ty103 rfl zM zS) ?_
         refine VL.yes rfl rfl ?_
         refine VL.eff (O.call0 ok76 rfl rfl (by decide) (check_bcn D hD t f ht hf) (fun _ _ _ => trivial) ?_)
         intro x182 y182
         refine VL.yes rfl rfl ?_
         refine VL.quietE (v' := .bool false) (by decide) (Q.ne rfl rfl) (by rfl) ?_
         refine VL.quietE (v' := .bool false) (by decide) (Q.pick_false rfl rfl) (by rfl) ?_
         refine VL.q (Q.move rfl) ?_
         refine VL.yes rfl rfl ?_
         refine VL.q (Q.loadA ty103 rfl zM zS) ?_
         refine VL.yes rfl rfl ?_
         refine VL.eff (O.call0 ok77 rfl rfl (by decide) (bare_bcn D t f ht hf) (fun _ _ _ => trivial) ?_)
         intro x187 y187
         refine VL.yes rfl rfl ?_
         refine VL.q (Q.move rfl) ?_
         refine VL.no (by simp) rfl rfl (.inl rfl) ?_
         refine VL.no (by simp) rfl rfl (.inl rfl) ?_
         refine VL.no (by simp) rfl rfl (.inl rfl) ?_
         refine VL.no (by simp) rfl rfl (.inl rfl) ?_
         refine VL.no (by simp) rfl rfl (.inl rfl) ?_
         refine VL.no (by simp) rfl rfl (.inl rfl) ?_
         refine VL.yes rfl rfl ?_
         refine VL.quietE (v' := .bool false) (by decide) (Q.pick_false rfl rfl) (by rfl) ?_
         refine VL.quietE (v' := .bool false) (by decide) (Q.pick_false rfl rfl) (by rfl) ?_
         refine VL.nil ?_
         refine VE.seq ?_
         refine VC.condF rfl ?_
         refine VC.skip ?_
         refine VE.seq ?_
         refine VC.seq ?_
         refine VC.seq ?_
         refine VC.region ?_
         refine VL.q (Q.move rfl) ?_
         refine VL.q (Q.nilCheck rfl) ?_
         refine VL.q (Q.fieldAddr fa189_0 rfl) ?_
         refine VL.q (Q.load1 ty23 rfl zM rfl) ?_
         refine VL.q (Q.len sl23 rfl) ?_
         refine VL.quietE (v' := .bool false) (by decide) (Q.gt rfl rfl) (congrArg Value.bool (decide_eq_false (by omega))) ?_
         refine VL.nil ?_
         refine VE.seq ?_
         refine VC.condF rfl ?_
         refine VC.skip ?_
         refine VE.seq ?_
         refine VC.seq ?_
         refine VK.keep (by exact .cons (i := 2) rfl (.cons (i := 3) rfl (.cons (i := 5) rfl (.cons (i := 8) rfl ( .nil))))) ?_
         refine VA.start (Ls := [.blk g31 [.slice (some ⟨gr, sliceOff (((((c22 - 2) - 2) - 6) - 6) - 6) 2 22 1, none⟩) (((((((24 + m) - 2) - 2) - 6) - 6) - 6) - 2) ((((((c22 - 2) - 2) - 6) - 6) - 6) - 2), .bool false] 189, .blk g8 [.int .u8 0, .int .u8 8, .bool false, .bool false, .bool false, .bool false, .bool false, .bool false, .bool false, .int .i64 (D : Int), .int .u8 255, .int .u8 255, .int .u8 255, .int .u8 255, .int .u8 255, .int .u8 255, .int .u8 2, .int .u8 0, .int .u8 0, .int .u8 0, .int .u8 1, .int .u8 (f : Int), .int .u8 2, .int .u8 0, .int .u8 0, .int .u8 0, .int .u8 1, .int .u8 (f : Int), .int .u8 0, .int .u8 0, .int .u8 0, .int .u8 0, .int .u8 0, .int .u8 0, .int .i64 0, .int .i64 0, .int .i64 0, .int .u8 0, .bool false, .bool false] 103]) (Cs := []) mixed ?_
         refine VA.take 0 rfl (by kernel_rfl) (by kernel_rfl) (by kernel_rfl) (Still.then Still.body) zB Cells.nil (by decide) (Quiet.c (Q.loadA ty103 rfl zM zS)) ?_
         refine VA.take 2 rfl (by kernel_rfl) (by kernel_rfl) (by kernel_rfl) (Still.then Still.body) zB Cells.nil (by decide) (Quiet.c (Q.move rfl)) ?_
         refine VA.take 3 rfl (by kernel_rfl) (by kernel_rfl) (by kernel_rfl) (Still.then Still.body) zB Cells.nil (by decide) (Quiet.c (Q.nilCheck rfl)) ?_
         refine VA.take 4 rfl (by kernel_rfl) (by kernel_rfl) (by kernel_rfl) (Still.then Still.body) zB Cells.nil (by decide) (Quiet.c (Q.fieldAddr fa189_0 rfl)) ?_
         refine VA.take 5 rfl (by kernel_rfl) (by kernel_rfl) (by kernel_rfl) (Still.then Still.body) zB Cells.nil (by decide) (Quiet.c (Q.load1 ty23 rfl zM rfl)) ?_
         refine VA.all (rs := [1]) (by kernel_rfl) (by simp) ?_
         refine VA.forall1 ?_
         ·
          refine VA.eff rfl ?_
          refine id (O.buildSlice0 sl23 (by decide) ?_)
          intro g206
          refine VK.toRow (g := g206) (s := 1) (m := 0) (c := 0) zU rfl (by omega) (by unfold maxLen; omega) ?_
          refine VA.next zB Cells.nil ?_
          refine VA.all (rs := [6]) (by kernel_rfl) (by simp) ?_
          refine VA.forall1 ?_
          ·
           refine VA.eff rfl ?_
           refine id (O.append sl23 ze5 rfl (by decide) rfl rfl (by rw [bs_length]; omega) (bs_one l) (by decide) (by unfold maxLen; omega) (by omega) zA (fun _ _ hw => rd_body (N := 24) (m := m) (c := c22) (cells := [.int .u8 128, .int .u8 0, .int .u8 ((D : Int) % 256), .int .u8 ((D : Int) / 256), .int .u8 255, .int .u8 255, .int .u8 255, .int .u8 255, .int .u8 255, .int .u8 255, .int .u8 2, .int .u8 0, .int .u8 0, .int .u8 0, .int .u8 1, .int .u8 (f : Int), .int .u8 2, .int .u8 0, .int .u8 0, .int .u8 0, .int .u8 1, .int .u8 (f : Int), .int .u8 0, .int .u8 0]) hw zM rfl hl (fun h => by rw [sliceOff_lt (by omega)])) ?_)
           intro p211 c211 hc211
           rw [show 0 + (((((((24 + m) - 2) - 2) - 6) - 6) - 6) - 2) = m from by omega]
           refine VA.next zB Cells.nil ?_
           refine VA.take 7 rfl (by kernel_rfl) (by kernel_rfl) (by kernel_rfl) (Still.then Still.body) zB Cells.nil (by decide) (Quiet.c (Q.build lay105 zF)) ?_
           refine VA.all (rs := [8]) (by kernel_rfl) (by simp) ?_
           refine VA.forall1 ?_
           ·
            refine VA.eff rfl ?_
            refine id (O.store ty105 rfl rfl rfl rfl zU zP ?_)
            refine VA.next zB Cells.nil ?_
            refine VA.take 9 rfl (by kernel_rfl) (by kernel_rfl) (by kernel_rfl) (Still.then Still.body) zB Cells.nil (by decide) (Quiet.c (Q.assign rfl)) ?_
            refine VA.done (by kernel_rfl) ?_
            refine VE.seq ?_
            refine VC.ret ?_
            exact VE.ret rfl (.cell ty105 rfl zM rfl (.tmp rfl .nil)) (p211, c211) (by omega) rfl (by repeat (first | exact List.Sublist.refl _ | exact .cons_cons _ (List.nil_sublist _) | apply List.Sublist.cons))

end Go.Proofs.YtencghlmckbmlaaGreat
