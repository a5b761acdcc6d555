/- The contracts of package header, for the shapes of headers that the seat makes. Conditions: those that each bears. -/
import Derived.Test.YtencghlmckbmlaaDoorRows
import Derived.Test.YtencghlmckbmlaaDoorHead2
namespace Go.Proofs.YtencghlmckbmlaaDoor
open Go Go.RowKit Go.Sx
set_option maxRecDepth 100000

theorem fa86_0 : tyField Tryd.prog 86 0 = some 0 := by kernel_rfl
theorem fa86_1 : tyField Tryd.prog 86 1 = some 1 := by kernel_rfl
theorem lay58 : laysOf Tryd.prog 58 = some ([.int .u8 0, .int .u8 0, .bool false, .bool false, .bool false, .bool false, .bool false, .bool false, .bool false, .int .i64 0, .int .u8 0, .int .u8 0, .int .u8 0, .int .u8 0, .int .u8 0, .int .u8 0, .int .u8 0, .int .u8 0, .int .u8 0, .int .u8 0, .int .u8 0, .int .u8 0, .int .u8 0, .int .u8 0, .int .u8 0, .int .u8 0, .int .u8 0, .int .u8 0, .int .u8 0, .int .u8 0, .int .u8 0, .int .u8 0, .int .u8 0, .int .u8 0, .int .i64 0, .int .i64 0, .int .i64 0, .int .u8 0, .bool false, .bool false, .slice none 0 0], [(0, 40), (40, 1)]) := by kernel_rfl
theorem lay86 : laysOf Tryd.prog 86 = some ([.slice none 0 0, .bool false], [(0, 1), (1, 1)]) := by kernel_rfl
theorem ok32 : okFunc Tryd.prog 32 = true := by kernel_rfl
theorem ok33 : okFunc Tryd.prog 33 = true := by kernel_rfl
theorem ok35 : okFunc Tryd.prog 35 = true := by kernel_rfl
theorem ty58 : tySz Tryd.prog 58 = some (true, 41) := by kernel_rfl
theorem zo58 : tyZero Tryd.prog 58 = some [.int .u8 0, .int .u8 0, .bool false, .bool false, .bool false, .bool false, .bool false, .bool false, .bool false, .int .i64 0, .int .u8 0, .int .u8 0, .int .u8 0, .int .u8 0, .int .u8 0, .int .u8 0, .int .u8 0, .int .u8 0, .int .u8 0, .int .u8 0, .int .u8 0, .int .u8 0, .int .u8 0, .int .u8 0, .int .u8 0, .int .u8 0, .int .u8 0, .int .u8 0, .int .u8 0, .int .u8 0, .int .u8 0, .int .u8 0, .int .u8 0, .int .u8 0, .int .i64 0, .int .i64 0, .int .i64 0, .int .u8 0, .bool false, .bool false, .slice none 0 0] := by kernel_rfl

theorem take_c (g b o m c n o2 : Nat) (hle : n ≤ m) (hmc : m ≤ c) (ho : sliceOff c n o 1 = o2) :
    Does Tryd.prog 33 [.pointer (some ⟨g, 0, none⟩), .int .i64 (n : Int)] [.blk g [.slice (some ⟨b, o, none⟩) m c, .bool false] 86] (fun _ => True) (X := Unit) (fun _ => True) (fun _ => .slice (some ⟨b, o, none⟩) n c) (fun _ => [.blk g [.slice (some ⟨b, o2, none⟩) (m - n) (c - n), .bool false] 86]) := by
  subst ho
  refine Does.enter Tryd.func33 rfl (m := 37) rfl (by simp) ?_
  intro W0 hro
  refine VC.seq ?_
  refine VC.region ?_
  refine VL.q (Q.assign rfl) ?_
  refine VL.nil ?_
  refine VE.seq ?_
  refine VC.seq ?_
  refine VC.seq ?_
  refine VC.region ?_
  refine VL.q (Q.move rfl) ?_
  refine VL.q (Q.nilCheck rfl) ?_
  refine VL.q (Q.fieldAddr fa86_0 rfl) ?_
  refine VL.q (Q.load1 ty54 rfl zM rfl) ?_
  refine VL.q (Q.len sl54 rfl) ?_
  refine VL.q (Q.move rfl) ?_
  refine VL.q (Q.lt rfl rfl) ?_
  refine VL.nil ?_
  refine VE.seq ?_
  refine VC.cond rfl ?_ ?_
  · intro h12
    exfalso
    have := of_decide_eq_true h12
    omega
  · intro h12
    refine VC.skip ?_
    refine VE.seq ?_
    refine VC.seq ?_
    refine VC.region ?_
    refine VL.q (Q.move rfl) ?_
    refine VL.q (Q.nilCheck rfl) ?_
    refine VL.q (Q.fieldAddr fa86_0 rfl) ?_
    refine VL.q (Q.load1 ty54 rfl zM rfl) ?_
    refine VL.q (Q.move rfl) ?_
    refine VL.q (Q.slc0 sl54 (h := n) rfl ⟨_, _, rfl, rfl⟩ (by omega)) ?_
    refine VL.q (Q.assign rfl) ?_
    refine VL.nil ?_
    refine VE.seq ?_
    refine VC.seq ?_
    refine VC.region ?_
    refine VL.q (Q.move rfl) ?_
    refine VL.q (Q.move rfl) ?_
    refine VL.q (Q.nilCheck rfl) ?_
    refine VL.q (Q.fieldAddr fa86_0 rfl) ?_
    refine VL.q (Q.load1 ty54 rfl zM rfl) ?_
    refine VL.q (Q.move rfl) ?_
    refine VL.q (Q.slc sl54 (l := n) (h := m) rfl ⟨_, _, rfl, rfl⟩ rfl (by omega) (by omega)) ?_
    refine VL.q (Q.nilCheck rfl) ?_
    refine VL.q (Q.fieldAddr fa86_0 rfl) ?_
    refine VL.eff (O.store ty54 rfl rfl rfl rfl zU zP ?_)
    refine VL.nil ?_
    refine VE.seq ?_
    refine VC.seq ?_
    refine VC.region ?_
    refine VL.q (Q.move rfl) ?_
    refine VL.q (Q.assign rfl) ?_
    refine VL.nil ?_
    refine VE.seq ?_
    refine VC.ret ?_
    refine VE.ret rfl (.tmp rfl .nil) () ?_ ?_ (List.Sublist.refl _)
    · trivial
    · first | rfl | (exfalso; simp at *; omega)

theorem or_bytes (b0 b1 : Int) (h0 : 0 ≤ b0 ∧ b0 ≤ 255) (h1 : 0 ≤ b1 ∧ b1 ≤ 255) : ((b0.toNat ||| (b1 * 256).toNat : Nat) : Int) = b0 + 256 * b1 := by
  obtain ⟨x, rfl⟩ := Int.eq_ofNat_of_zero_le h0.1
  obtain ⟨y, rfl⟩ := Int.eq_ofNat_of_zero_le h1.1
  have e := Nat.two_pow_add_eq_or_of_lt (i := 8) (b := x) (by omega) y
  have e1 : ((x : Int)).toNat = x := by omega
  have e2 : ((y : Int) * 256).toNat = 2 ^ 8 * y := by omega
  rw [e1, e2, Nat.or_comm, ← e]
  omega

theorem two_c (g b o m c o2 : Nat) (b0 b1 v : Int) (h0 : 0 ≤ b0 ∧ b0 ≤ 255) (h1 : 0 ≤ b1 ∧ b1 ≤ 255) (hv : v = b0 + 256 * b1) (hne : b ≠ g) (hle : 2 ≤ m) (hmc : m ≤ c) (ho : sliceOff c 2 o 1 = o2) :
    Does Tryd.prog 35 [.pointer (some ⟨g, 0, none⟩)] [.blk g [.slice (some ⟨b, o, none⟩) m c, .bool false] 86] (fun W => Rd W (some ⟨b, o, none⟩) [.int .u8 b0, .int .u8 b1]) (X := Unit) (fun _ => True) (fun _ => .int .i64 v) (fun _ => [.blk g [.slice (some ⟨b, o2, none⟩) (m - 2) (c - 2), .bool false] 86]) := by
  refine Does.enter Tryd.func35 rfl (m := 16) rfl (by simp) ?_
  intro W0 hro
  refine VC.seq ?_
  refine VC.region ?_
  refine VL.q (Q.assign rfl) ?_
  refine VL.nil ?_
  refine VE.seq ?_
  refine VC.seq ?_
  refine VC.region ?_
  refine VL.q (Q.move rfl) ?_
  refine VL.eff (O.callB ok33 rfl rfl (by decide) (take_c _ _ _ _ _ 2 _ hle hmc ho) zK (fun _ _ _ => trivial) ?_)
  intro x5 y5
  have hk0 := Rd.at (j := 0) hro rfl
  have hk1 := Rd.at (j := 1) hro rfl
  refine VL.q (Q.assign rfl) ?_
  refine VL.nil ?_
  refine VE.seq ?_
  refine VC.seq ?_
  refine VA.start (Ls := []) (Cs := []) mixed ?_
  refine VA.take 0 rfl (by kernel_rfl) (by kernel_rfl) (by kernel_rfl) (Still.then Still.body) (List.nil_sublist _) Cells.nil (by decide) (Quiet.c (Q.move rfl)) ?_
  refine VA.take 1 rfl (by kernel_rfl) (by kernel_rfl) (by kernel_rfl) (Still.then Still.body) (List.nil_sublist _) Cells.nil (by decide) (Quiet.c (Q.indexAddr sl54 (j := 0) rfl rfl rfl (by omega))) ?_
  refine VA.take 2 rfl (by kernel_rfl) (by kernel_rfl) (by kernel_rfl) (Still.then Still.body) (List.nil_sublist _) Cells.nil (by decide) (Quiet.c (Q.load0 ty5 rfl hk0 (by simpa [Rs.ids] using hne))) ?_
  refine VA.take 3 rfl (by kernel_rfl) (by kernel_rfl) (by kernel_rfl) (Still.then Still.body) (List.nil_sublist _) Cells.nil (by decide) (Quiet.c ((by first | exact Q.convF ti5 ti3 rfl (by simp only [klo]; omega) (by simp only [khi]; omega) | exact Q.convM (M := 0) ti5 ti3 rfl rfl rfl | exact Q.conv ti5 ti3 rfl))) ?_
  refine VA.take 4 rfl (by kernel_rfl) (by kernel_rfl) (by kernel_rfl) (Still.then Still.body) (List.nil_sublist _) Cells.nil (by decide) (Quiet.c (Q.move rfl)) ?_
  refine VA.take 5 rfl (by kernel_rfl) (by kernel_rfl) (by kernel_rfl) (Still.then Still.body) (List.nil_sublist _) Cells.nil (by decide) (Quiet.c (Q.indexAddr sl54 (j := 1) rfl rfl rfl (by omega))) ?_
  refine VA.take 6 rfl (by kernel_rfl) (by kernel_rfl) (by kernel_rfl) (Still.then Still.body) (List.nil_sublist _) Cells.nil (by decide) (Quiet.c (Q.load0 ty5 rfl hk1 (by simpa [Rs.ids] using hne))) ?_
  refine VA.take 7 rfl (by kernel_rfl) (by kernel_rfl) (by kernel_rfl) (Still.then Still.body) (List.nil_sublist _) Cells.nil (by decide) (Quiet.c ((by first | exact Q.convF ti5 ti3 rfl (by simp only [klo]; omega) (by simp only [khi]; omega) | exact Q.convM (M := 0) ti5 ti3 rfl rfl rfl | exact Q.conv ti5 ti3 rfl))) ?_
  refine VA.take 8 rfl (by kernel_rfl) (by kernel_rfl) (by kernel_rfl) (Still.then Still.body) (List.nil_sublist _) Cells.nil (by decide) (Quiet.c (Q.shlF (s := 8) (m := 256) rfl rfl (by decide) (by decide) (by simp only [klo]; omega) (by simp only [khi]; omega))) ?_
  refine VA.take 9 rfl (by kernel_rfl) (by kernel_rfl) (by kernel_rfl) (Still.then Still.body) (List.nil_sublist _) Cells.nil (by decide) (Quiet.c (Q.or rfl rfl (by omega) (by simp only [khi]; omega) (by omega) (by simp only [khi]; omega))) ?_
  refine VA.take 10 rfl (by kernel_rfl) (by kernel_rfl) (by kernel_rfl) (Still.then Still.body) (List.nil_sublist _) Cells.nil (by decide) (Quiet.c (Q.assign rfl)) ?_
  refine VA.done (by kernel_rfl) ?_
  refine VE.seq ?_
  refine VC.ret ?_
  refine VE.ret rfl (.tmp rfl .nil) () ?_ ?_ (List.Sublist.refl _)
  · trivial
  · exact congrArg (Value.int .i64) (by rw [hv]; exact or_bytes b0 b1 h0 h1)

theorem verify_rts (D : Nat) (hD : D ≤ 32767) (p : Option Addr) (c : Nat) (hc : 20 ≤ c) : Does Tryd.prog 32 [.slice p 20 c] [] (fun W => Rd W p (bs (hb_rts D ++ crcBytes (hb_rts D)))) (X := Option Addr × Nat) (fun x => 16 ≤ x.2) (fun x => .tuple #[.slice x.1 16 x.2, .int .i64 0]) (fun x => [.row (.slice x.1 16 x.2) 5 1 16 [.int .u8 180, .int .u8 0, .int .u8 ((D : Int) % 256), .int .u8 ((D : Int) / 256), .int .u8 2, .int .u8 0, .int .u8 0, .int .u8 0, .int .u8 0, .int .u8 1, .int .u8 2, .int .u8 0, .int .u8 0, .int .u8 0, .int .u8 0, .int .u8 2]]) := by
  have h := verify_c p 20 c (hb_rts D ++ crcBytes (hb_rts D)) rfl (by decide) hc
  rw [verifyP_crc] at h
  dsimp only at h
  rw [hbs_rts D hD] at h
  exact h

theorem decode_rts (D : Nat) (hD : D ≤ 32767) (p : Option Addr) (c : Nat) (hc : 20 ≤ c) :
    Does Tryd.prog 16 [.slice p 20 c] [] (fun W => Rd W p (bs (hb_rts D ++ crcBytes (hb_rts D)))) (X := Nat) (fun _ => True) (fun x => .tuple #[.agg #[.int .u8 1, .int .u8 11, .bool false, .bool false, .bool false, .bool false, .bool false, .bool false, .bool false, .int .i64 (D : Int), .int .u8 2, .int .u8 0, .int .u8 0, .int .u8 0, .int .u8 0, .int .u8 1, .int .u8 2, .int .u8 0, .int .u8 0, .int .u8 0, .int .u8 0, .int .u8 2, .int .u8 0, .int .u8 0, .int .u8 0, .int .u8 0, .int .u8 0, .int .u8 0, .int .u8 0, .int .u8 0, .int .u8 0, .int .u8 0, .int .u8 0, .int .u8 0, .int .i64 0, .int .i64 0, .int .i64 0, .int .u8 0, .bool false, .bool false, .slice (some ⟨x, 0, none⟩) 0 0], .int .i64 0]) (fun _ => []) := by
  refine Does.enter Tryd.func16 rfl (m := 213) rfl (by simp) ?_
  intro W0 hro
  refine VC.seq ?_
  refine VC.region ?_
  refine VL.eff (O.alloc zo58 (by decide) ?_)
  intro g2
  refine VL.q (Q.assign rfl) ?_
  refine VL.nil ?_
  refine VE.seq ?_
  refine VC.seq ?_
  refine VC.region ?_
  refine VL.q (Q.move rfl) ?_
  refine VL.eff (O.call0 ok32 rfl rfl (by decide) (verify_rts D hD p c hc) (fun _ ho _ => hro.only0 ho) ?_)
  intro x22 y22
  obtain ⟨p22, c22⟩ := x22
  refine VK.rowHead (m := 16) zM (by decide) ?_
  intro gr hgr hmc hcm
  dsimp only at hgr hmc hcm
  subst hgr
  refine VL.q (Q.move rfl) ?_
  refine VL.q (Q.extract rfl rfl) ?_
  refine VL.q (Q.extract rfl rfl) ?_
  refine VL.q (Q.assign rfl) ?_
  refine VL.q (Q.assign rfl) ?_
  refine VL.nil ?_
  refine VE.seq ?_
  refine VC.seq ?_
  refine VC.seq ?_
  refine VC.region ?_
  refine VL.q (Q.move rfl) ?_
  refine VL.quietE (v' := .bool false) (by decide) (Q.ne rfl rfl) (by rfl) ?_
  refine VL.nil ?_
  refine VE.seq ?_
  refine VC.condF rfl ?_
  refine VC.skip ?_
  refine VE.seq ?_
  refine VC.seq ?_
  refine VC.region ?_
  refine VL.q (Q.move rfl) ?_
  refine VL.q (Q.build lay86 zF) ?_
  refine VL.eff (O.box rfl rfl (by decide) ?_)
  intro g31
  refine VK.apart (r := .row (.slice (some ⟨gr, 0, none⟩) 16 c22) 5 1 16 [.int .u8 180, .int .u8 0, .int .u8 ((D : Int) % 256), .int .u8 ((D : Int) / 256), .int .u8 2, .int .u8 0, .int .u8 0, .int .u8 0, .int .u8 0, .int .u8 1, .int .u8 2, .int .u8 0, .int .u8 0, .int .u8 0, .int .u8 0, .int .u8 2]) (r' := .blk g31 [.slice (some ⟨gr, 0, none⟩) 16 c22, .bool false] 86) (Two.swap zM) ?_
  intro hap
  have hne : gr ≠ g31 := by simpa [Rs.ids, Value.ownBlock] using hap
  refine VL.q (Q.assign rfl) ?_
  refine VL.nil ?_
  refine VE.seq ?_
  refine VC.seq ?_
  refine VC.region ?_
  refine VL.q (Q.move rfl) ?_
  refine VL.eff (O.callB ok33 rfl rfl (by decide) (take_c _ gr 0 16 c22 2 _ (by omega) (by omega) (sliceOff_lt (by omega))) zK (fun _ _ _ => trivial) ?_)
  intro x33 y33
  refine VL.q (Q.assign rfl) ?_
  refine VL.nil ?_
  refine VE.seq ?_
  refine VC.seq ?_
  refine VC.seq ?_
  refine VC.region ?_
  refine VL.q (Q.move rfl) ?_
  refine VL.q (Q.nilCheck rfl) ?_
  refine VL.q (Q.fieldAddr fa86_1 rfl) ?_
  refine VL.q (Q.load1 ty4 rfl zM rfl) ?_
  refine VL.nil ?_
  refine VE.seq ?_
  refine VC.condF rfl ?_
  refine VC.skip ?_
  refine VE.seq ?_
  refine VC.seq ?_
  refine VC.region ?_
  refine VL.q (Q.move rfl) ?_
  refine VL.q (Q.indexAddr sl54 (j := 1) rfl rfl rfl (by omega)) ?_
  refine VL.q (Q.loadRow ty5 rfl zM rfl) ?_
  refine VL.q (Q.assign rfl) ?_
  refine VL.nil ?_
  refine VE.seq ?_
  refine VC.seq ?_
  refine VA.start (Ls := [.row (.slice (some ⟨gr, 0, none⟩) 16 c22) 5 1 16 [.int .u8 180, .int .u8 0, .int .u8 ((D : Int) % 256), .int .u8 ((D : Int) / 256), .int .u8 2, .int .u8 0, .int .u8 0, .int .u8 0, .int .u8 0, .int .u8 1, .int .u8 2, .int .u8 0, .int .u8 0, .int .u8 0, .int .u8 0, .int .u8 2]]) (Cs := []) mixed ?_
  refine VA.take 0 rfl (by kernel_rfl) (by kernel_rfl) (by kernel_rfl) (Still.then Still.body) (List.singleton_sublist.2 zM) Cells.nil (by decide) (Quiet.c (Q.move rfl)) ?_
  refine VA.take 1 rfl (by kernel_rfl) (by kernel_rfl) (by kernel_rfl) (Still.then Still.body) (List.singleton_sublist.2 zM) Cells.nil (by decide) (Quiet.c (Q.indexAddr sl54 (j := 0) rfl rfl rfl (by omega))) ?_
  refine VA.take 2 rfl (by kernel_rfl) (by kernel_rfl) (by kernel_rfl) (Still.then Still.body) (List.singleton_sublist.2 zM) Cells.nil (by decide) (Quiet.c (Q.loadRow ty5 rfl zM rfl)) ?_
  refine VA.take 3 rfl (by kernel_rfl) (by kernel_rfl) (by kernel_rfl) (Still.then Still.body) (List.singleton_sublist.2 zM) Cells.nil (by decide) (Quiet.c (Q.shrC (s := 2) (m := 4) rfl rfl (by decide) (by decide))) ?_
  refine VA.take 4 rfl (by kernel_rfl) (by kernel_rfl) (by kernel_rfl) (Still.then Still.body) (List.singleton_sublist.2 zM) Cells.nil (by decide) (Quiet.c (Q.and rfl rfl (by omega) (by simp only [khi]; omega) (by omega) (by simp only [khi]; omega))) ?_
  refine VA.take 5 rfl (by kernel_rfl) (by kernel_rfl) (by kernel_rfl) (Still.then Still.body) (List.singleton_sublist.2 zM) Cells.nil (by decide) (Quiet.c (Q.move rfl)) ?_
  refine VA.take 6 rfl (by kernel_rfl) (by kernel_rfl) (by kernel_rfl) (Still.then Still.body) (List.singleton_sublist.2 zM) Cells.nil (by decide) (Quiet.c (Q.indexAddr sl54 (j := 0) rfl rfl rfl (by omega))) ?_
  refine VA.take 7 rfl (by kernel_rfl) (by kernel_rfl) (by kernel_rfl) (Still.then Still.body) (List.singleton_sublist.2 zM) Cells.nil (by decide) (Quiet.c (Q.loadRow ty5 rfl zM rfl)) ?_
  refine VA.take 8 rfl (by kernel_rfl) (by kernel_rfl) (by kernel_rfl) (Still.then Still.body) (List.singleton_sublist.2 zM) Cells.nil (by decide) (Quiet.c (Q.shrC (s := 4) (m := 16) rfl rfl (by decide) (by decide))) ?_
  refine VA.take 9 rfl (by kernel_rfl) (by kernel_rfl) (by kernel_rfl) (Still.then Still.body) (List.singleton_sublist.2 zM) Cells.nil (by decide) (Quiet.c (Q.build lay50 zF)) ?_
  refine VA.all (rs := [10]) (by kernel_rfl) (by simp) ?_
  refine VA.forall1 ?_
  · skip
    refine VA.eff rfl ?_
    refine id (O.alloc zo50 (by decide) ?_)
    intro g8
    refine VA.next (List.singleton_sublist.2 zM) Cells.nil ?_
    refine VA.all (rs := [11]) (by kernel_rfl) (by simp) ?_
    refine VA.forall1 ?_
    · skip
      refine VA.eff rfl ?_
      refine id (O.store ty50 rfl rfl rfl rfl zU zP ?_)
      refine VA.next (List.singleton_sublist.2 zM) Cells.nil ?_
      refine VA.done (by kernel_rfl) ?_
      refine VE.seq ?_
      refine VC.seq ?_
      refine VC.region ?_
      refine VL.q (Q.fieldAddr fa50_0 rfl) ?_
      refine VL.q (Q.load1 ty5 rfl zM rfl) ?_
      refine VL.q (Q.fieldAddr fa50_1 rfl) ?_
      refine VL.q (Q.load1 ty5 rfl zM rfl) ?_
      refine VL.eff (O.call0 ok34 rfl rfl (by decide) (known_rts) (fun _ _ _ => trivial) ?_)
      intro x57 y57
      refine VL.q (Q.move rfl) ?_
      refine VL.q (Q.extract rfl rfl) ?_
      refine VL.q (Q.extract rfl rfl) ?_
      refine VL.eff (O.alloc zo90 (by decide) ?_)
      intro g9
      refine VL.eff (O.store ty90 rfl rfl rfl rfl zU zP ?_)
      refine VL.q (Q.assign rfl) ?_
      refine VL.nil ?_
      refine VE.seq ?_
      refine VC.seq ?_
      refine VC.seq ?_
      refine VK.keep (by exact .cons (i := 2) rfl (.cons (i := 3) rfl (.cons (i := 5) rfl (.cons (i := 6) rfl (.cons (i := 7) rfl (.cons (i := 8) rfl (.cons (i := 9) rfl (.cons (i := 10) rfl ( .nil))))))))) ?_
      refine VC.region ?_
      refine VL.q (Q.move rfl) ?_
      refine VL.quietE (v' := .bool false) (by decide) (Q.not rfl) (by rfl) ?_
      refine VL.q (Q.move rfl) ?_
      refine VL.yes rfl rfl ?_
      refine VL.q (Q.move rfl) ?_
      refine VL.yes rfl rfl ?_
      refine VL.q (Q.indexAddr sl54 (j := 0) rfl rfl rfl (by omega)) ?_
      refine VL.yes rfl rfl ?_
      refine VL.q (Q.loadRow ty5 rfl zM rfl) ?_
      refine VL.yes rfl rfl ?_
      refine VL.quietE (v' := .int .u8 0) (by decide) (Q.and rfl rfl (by omega) (by simp only [khi]; omega) (by omega) (by simp only [khi]; omega)) (by rfl) ?_
      refine VL.yes rfl rfl ?_
      refine VL.quietE (v' := .bool false) (by decide) (Q.ne rfl rfl) (by rfl) ?_
      refine VL.quietE (v' := .bool false) (by decide) (Q.pick_false rfl rfl) (by rfl) ?_
      refine VL.q (Q.move rfl) ?_
      refine VL.yes rfl rfl ?_
      refine VL.q (Q.move rfl) ?_
      refine VL.yes rfl rfl ?_
      refine VL.quietE (v' := .int .u8 0) (by decide) (Q.and rfl rfl (by omega) (by simp only [khi]; omega) (by omega) (by simp only [khi]; omega)) (by rfl) ?_
      refine VL.yes rfl rfl ?_
      refine VL.quietE (v' := .bool false) (by decide) (Q.ne rfl rfl) (by rfl) ?_
      refine VL.quietE (v' := .bool false) (by decide) (Q.pick_false rfl rfl) (by rfl) ?_
      refine VL.nil ?_
      refine VE.seq ?_
      refine VC.condF rfl ?_
      refine VC.skip ?_
      refine VE.seq ?_
      refine VC.seq ?_
      refine VC.region ?_
      refine VL.q (Q.move rfl) ?_
      refine VL.quietE (v' := .int .u8 0) (by decide) (Q.and rfl rfl (by omega) (by simp only [khi]; omega) (by omega) (by simp only [khi]; omega)) (by rfl) ?_
      refine VL.quietE (v' := .bool false) (by decide) (Q.ne rfl rfl) (by rfl) ?_
      refine VL.q (Q.move rfl) ?_
      refine VL.quietE (v' := .int .u8 0) (by decide) (Q.and rfl rfl (by omega) (by simp only [khi]; omega) (by omega) (by simp only [khi]; omega)) (by rfl) ?_
      refine VL.quietE (v' := .bool false) (by decide) (Q.ne rfl rfl) (by rfl) ?_
      refine VL.q (Q.move rfl) ?_
      refine VL.quietE (v' := .int .u8 0) (by decide) (Q.and rfl rfl (by omega) (by simp only [khi]; omega) (by omega) (by simp only [khi]; omega)) (by rfl) ?_
      refine VL.quietE (v' := .bool false) (by decide) (Q.ne rfl rfl) (by rfl) ?_
      refine VL.q (Q.move rfl) ?_
      refine VL.quietE (v' := .int .u8 0) (by decide) (Q.and rfl rfl (by omega) (by simp only [khi]; omega) (by omega) (by simp only [khi]; omega)) (by rfl) ?_
      refine VL.quietE (v' := .bool false) (by decide) (Q.ne rfl rfl) (by rfl) ?_
      refine VL.q (Q.fieldAddr fa50_2 rfl) ?_
      refine VL.eff (O.store ty4 rfl rfl rfl rfl zU zP ?_)
      refine VL.q (Q.fieldAddr fa50_3 rfl) ?_
      refine VL.eff (O.store ty4 rfl rfl rfl rfl zU zP ?_)
      refine VL.q (Q.fieldAddr fa50_4 rfl) ?_
      refine VL.eff (O.store ty4 rfl rfl rfl rfl zU zP ?_)
      refine VL.q (Q.fieldAddr fa50_5 rfl) ?_
      refine VL.eff (O.store ty4 rfl rfl rfl rfl zU zP ?_)
      refine VL.nil ?_
      refine VE.seq ?_
      refine VC.seq ?_
      refine VC.region ?_
      refine VL.q (Q.move rfl) ?_
      refine VL.quietE (v' := .int .u8 0) (by decide) (Q.and rfl rfl (by omega) (by simp only [khi]; omega) (by omega) (by simp only [khi]; omega)) (by rfl) ?_
      refine VL.quietE (v' := .bool false) (by decide) (Q.ne rfl rfl) (by rfl) ?_
      refine VL.q (Q.move rfl) ?_
      refine VL.quietE (v' := .int .u8 0) (by decide) (Q.and rfl rfl (by omega) (by simp only [khi]; omega) (by omega) (by simp only [khi]; omega)) (by rfl) ?_
      refine VL.quietE (v' := .bool false) (by decide) (Q.ne rfl rfl) (by rfl) ?_
      refine VL.q (Q.move rfl) ?_
      refine VL.quietE (v' := .int .u8 0) (by decide) (Q.and rfl rfl (by omega) (by simp only [khi]; omega) (by omega) (by simp only [khi]; omega)) (by rfl) ?_
      refine VL.quietE (v' := .bool false) (by decide) (Q.ne rfl rfl) (by rfl) ?_
      refine VL.q (Q.fieldAddr fa50_6 rfl) ?_
      refine VL.eff (O.store ty4 rfl rfl rfl rfl zU zP ?_)
      refine VL.q (Q.fieldAddr fa50_7 rfl) ?_
      refine VL.eff (O.store ty4 rfl rfl rfl rfl zU zP ?_)
      refine VL.q (Q.fieldAddr fa50_8 rfl) ?_
      refine VL.eff (O.store ty4 rfl rfl rfl rfl zU zP ?_)
      refine VL.nil ?_
      refine VE.seq ?_
      refine VC.seq ?_
      refine VK.keep (by exact .cons (i := 2) rfl (.cons (i := 3) rfl (.cons (i := 5) rfl (.cons (i := 8) rfl (.cons (i := 9) rfl ( .nil)))))) ?_
      refine VC.region ?_
      refine VL.q (Q.move rfl) ?_
      refine VL.eff (O.callB ok35 rfl rfl (by decide) (two_c _ gr 2 14 (c22 - 2) _ ((D : Int) % 256) ((D : Int) / 256) (D : Int) (by omega) (by omega) (by omega) hne (by omega) (by omega) (sliceOff_lt (by omega))) zK (fun _ _ hw => Rd.rowP hw zM zS) ?_)
      intro x104 y104
      refine VL.q (Q.fieldAddr fa50_9 rfl) ?_
      refine VL.eff (O.store ty3 rfl rfl rfl rfl zU zP ?_)
      refine VL.nil ?_
      refine VE.seq ?_
      refine VC.seq ?_
      refine VC.region ?_
      refine VL.eff (O.call0 ok36 rfl rfl (by decide) (places_rts _) (fun _ _ hw => Rd.seg hw zM zS) ?_)
      intro x107 y107
      refine VL.q (Q.move rfl) ?_
      refine VL.q (Q.extract rfl rfl) ?_
      refine VL.q (Q.extract rfl rfl) ?_
      refine VL.q (Q.assign rfl) ?_
      refine VL.q (Q.assign rfl) ?_
      refine VL.nil ?_
      refine VE.seq ?_
      refine VC.seq ?_
      refine VC.seq ?_
      refine VC.region ?_
      refine VL.q (Q.move rfl) ?_
      refine VL.q (Q.len sl93 rfl) ?_
      refine VL.q (Q.move rfl) ?_
      refine VL.nil ?_
      refine VE.seq ?_
      refine VC.block ?_
      refine VC.rounds 40 ?_
      refine VC.rnd (m := 39) ?_
      refine VC.seq ?_
      refine VC.region ?_
      refine VL.q (Q.lt rfl rfl) ?_
      refine VL.nil ?_
      refine VE.seq ?_
      refine VC.seq ?_
      refine VC.condT rfl ?_
      refine VC.skip ?_
      refine VE.seq ?_
      refine VC.seq ?_
      refine VC.block ?_
      refine VC.seq ?_
      refine VC.region ?_
      refine VL.q (Q.indexAddr sl93 (j := 0) rfl rfl rfl (by omega)) ?_
      refine VL.q (Q.load1 ty97 rfl zM rfl) ?_
      refine VL.q (Q.assign rfl) ?_
      refine VL.nil ?_
      refine VE.seq ?_
      refine VA.start (Ls := []) (Cs := []) mixed ?_
      refine VA.take 0 rfl (by kernel_rfl) (by kernel_rfl) (by kernel_rfl) (Still.block (Still.then (Still.then (Still.block (Still.then Still.body))))) (List.nil_sublist _) Cells.nil (by decide) (Quiet.c (Q.move rfl)) ?_
      refine VA.take 1 rfl (by kernel_rfl) (by kernel_rfl) (by kernel_rfl) (Still.block (Still.then (Still.then (Still.block (Still.then Still.body))))) (List.nil_sublist _) Cells.nil (by decide) (Quiet.c (Q.nilCheck rfl)) ?_
      refine VA.take 2 rfl (by kernel_rfl) (by kernel_rfl) (by kernel_rfl) (Still.block (Still.then (Still.then (Still.block (Still.then Still.body))))) (List.nil_sublist _) Cells.nil (by decide) (Quiet.c (Q.slcA0 ar43 (h := _) rfl rfl (by omega))) ?_
      refine VA.take 3 rfl (by kernel_rfl) (by kernel_rfl) (by kernel_rfl) (Still.block (Still.then (Still.then (Still.block (Still.then Still.body))))) (List.nil_sublist _) Cells.nil (by decide) (Quiet.c (Q.move rfl)) ?_
      refine VA.all (rs := [4]) (by kernel_rfl) (by simp) ?_
      refine VA.forall1 ?_
      · skip
        refine VA.eff rfl ?_
        refine id (O.callB ok33 rfl rfl (by decide) (take_c _ gr 4 12 ((c22 - 2) - 2) 6 _ (by omega) (by omega) (sliceOff_lt (by omega))) zK (fun _ _ _ => trivial) ?_)
        intro x120 y120
        refine VA.next (List.nil_sublist _) Cells.nil ?_
        refine VA.all (rs := [5]) (by kernel_rfl) (by simp) ?_
        refine VA.forall1 ?_
        · skip
          refine VA.eff rfl ?_
          refine id (O.copyR sl54 rfl rfl zM zS rfl (by decide) zU zP ?_)
          refine VA.next (List.nil_sublist _) Cells.nil ?_
          refine VA.done (by kernel_rfl) ?_
          refine VE.block_normal ?_
          refine VE.seq ?_
          refine VC.region ?_
          refine VL.quietE (v' := .int .i64 1) (by decide) ((by first | exact Q.addI rfl rfl (by omega) (by omega) | exact Q.add rfl rfl)) (by rfl) ?_
          refine VL.q (Q.move rfl) ?_
          refine VL.nil ?_
          refine VE.then_normal ?_
          refine VC.rnd (m := 38) ?_
          refine VC.seq ?_
          refine VC.region ?_
          refine VL.q (Q.lt rfl rfl) ?_
          refine VL.nil ?_
          refine VE.seq ?_
          refine VC.seq ?_
          refine VC.condT rfl ?_
          refine VC.skip ?_
          refine VE.seq ?_
          refine VC.seq ?_
          refine VC.block ?_
          refine VC.seq ?_
          refine VC.region ?_
          refine VL.q (Q.indexAddr sl93 (j := 1) rfl rfl rfl (by omega)) ?_
          refine VL.q (Q.load1 ty97 rfl zM rfl) ?_
          refine VL.q (Q.assign rfl) ?_
          refine VL.nil ?_
          refine VE.seq ?_
          refine VA.start (Ls := []) (Cs := []) mixed ?_
          refine VA.take 0 rfl (by kernel_rfl) (by kernel_rfl) (by kernel_rfl) (Still.block (Still.then (Still.then (Still.block (Still.then Still.body))))) (List.nil_sublist _) Cells.nil (by decide) (Quiet.c (Q.move rfl)) ?_
          refine VA.take 1 rfl (by kernel_rfl) (by kernel_rfl) (by kernel_rfl) (Still.block (Still.then (Still.then (Still.block (Still.then Still.body))))) (List.nil_sublist _) Cells.nil (by decide) (Quiet.c (Q.nilCheck rfl)) ?_
          refine VA.take 2 rfl (by kernel_rfl) (by kernel_rfl) (by kernel_rfl) (Still.block (Still.then (Still.then (Still.block (Still.then Still.body))))) (List.nil_sublist _) Cells.nil (by decide) (Quiet.c (Q.slcA0 ar43 (h := _) rfl rfl (by omega))) ?_
          refine VA.take 3 rfl (by kernel_rfl) (by kernel_rfl) (by kernel_rfl) (Still.block (Still.then (Still.then (Still.block (Still.then Still.body))))) (List.nil_sublist _) Cells.nil (by decide) (Quiet.c (Q.move rfl)) ?_
          refine VA.all (rs := [4]) (by kernel_rfl) (by simp) ?_
          refine VA.forall1 ?_
          · skip
            refine VA.eff rfl ?_
            refine id (O.callB ok33 rfl rfl (by decide) (take_c _ gr 10 6 (((c22 - 2) - 2) - 6) 6 _ (by omega) (by omega) rfl) zK (fun _ _ _ => trivial) ?_)
            intro x120_1 y120_1
            refine VA.next (List.nil_sublist _) Cells.nil ?_
            refine VA.all (rs := [5]) (by kernel_rfl) (by simp) ?_
            refine VA.forall1 ?_
            · skip
              refine VA.eff rfl ?_
              refine id (O.copyR sl54 rfl rfl zM zS rfl (by decide) zU zP ?_)
              refine VA.next (List.nil_sublist _) Cells.nil ?_
              refine VA.done (by kernel_rfl) ?_
              refine VE.block_normal ?_
              refine VE.seq ?_
              refine VC.region ?_
              refine VL.quietE (v' := .int .i64 2) (by decide) ((by first | exact Q.addI rfl rfl (by omega) (by omega) | exact Q.add rfl rfl)) (by rfl) ?_
              refine VL.q (Q.move rfl) ?_
              refine VL.nil ?_
              refine VE.then_normal ?_
              refine VC.rnd (m := 37) ?_
              refine VC.seq ?_
              refine VC.region ?_
              refine VL.q (Q.lt rfl rfl) ?_
              refine VL.nil ?_
              refine VE.seq ?_
              refine VC.seq ?_
              refine VC.condF rfl ?_
              refine VC.exit ?_
              refine VE.then_exit ?_
              refine VE.then_exit ?_
              refine VE.block_here ?_
              refine VE.seq ?_
              refine VC.seq ?_
              refine VC.seq ?_
              refine VC.region ?_
              refine VL.q (Q.fieldAddr fa90_1 rfl) ?_
              refine VL.q (Q.load1 ty4 rfl zM rfl) ?_
              refine VL.nil ?_
              refine VE.seq ?_
              refine VC.condF rfl ?_
              refine VC.skip ?_
              refine VE.seq ?_
              refine VC.seq ?_
              refine VC.seq ?_
              refine VC.region ?_
              refine VL.q (Q.move rfl) ?_
              refine VL.q (Q.len sl93 rfl) ?_
              refine VL.q (Q.move rfl) ?_
              refine VL.nil ?_
              refine VE.seq ?_
              refine VC.block ?_
              refine VC.rounds 40 ?_
              refine VC.rnd (m := 39) ?_
              refine VC.seq ?_
              refine VC.region ?_
              refine VL.q (Q.lt rfl rfl) ?_
              refine VL.nil ?_
              refine VE.seq ?_
              refine VC.seq ?_
              refine VC.condF rfl ?_
              refine VC.exit ?_
              refine VE.then_exit ?_
              refine VE.then_exit ?_
              refine VE.block_here ?_
              refine VE.seq ?_
              refine VC.seq ?_
              refine VC.region ?_
              refine VL.q (Q.assign rfl) ?_
              refine VL.nil ?_
              refine VE.seq ?_
              refine VC.seq ?_
              refine VC.seq ?_
              refine VC.region ?_
              refine VL.q (Q.fieldAddr fa90_2 rfl) ?_
              refine VL.q (Q.load1 ty4 rfl zM rfl) ?_
              refine VL.nil ?_
              refine VE.seq ?_
              refine VC.condF rfl ?_
              refine VC.skip ?_
              refine VE.seq ?_
              refine VC.seq ?_
              refine VC.seq ?_
              refine VC.region ?_
              refine VL.q (Q.move rfl) ?_
              refine VL.q (Q.nilCheck rfl) ?_
              refine VL.q (Q.fieldAddr fa86_1 rfl) ?_
              refine VL.q (Q.load1 ty4 rfl zM rfl) ?_
              refine VL.nil ?_
              refine VE.seq ?_
              refine VC.condF rfl ?_
              refine VC.skip ?_
              refine VE.seq ?_
              refine VC.seq ?_
              refine VC.seq ?_
              refine VK.keep (by exact .cons (i := 2) rfl (.cons (i := 3) rfl (.cons (i := 5) rfl (.cons (i := 8) rfl (.cons (i := 18) rfl ( .nil)))))) ?_
              refine VC.region ?_
              refine VL.q (Q.move rfl) ?_
              refine VL.q (Q.move rfl) ?_
              refine VL.yes rfl rfl ?_
              refine VL.q (Q.loadA ty50 rfl zM zS) ?_
              refine VL.yes rfl rfl ?_
              refine VL.eff (O.call0 ok28 rfl rfl (by decide) (check_rts D hD) (fun _ _ _ => trivial) ?_)
              intro x182 y182
              refine VL.yes rfl rfl ?_
              refine VL.quietE (v' := .bool false) (by decide) (Q.ne rfl rfl) (by rfl) ?_
              refine VL.quietE (v' := .bool false) (by decide) (Q.pick_false rfl rfl) (by rfl) ?_
              refine VL.q (Q.move rfl) ?_
              refine VL.yes rfl rfl ?_
              refine VL.q (Q.loadA ty50 rfl zM zS) ?_
              refine VL.yes rfl rfl ?_
              refine VL.eff (O.call0 ok29 rfl rfl (by decide) (bare_rts D) (fun _ _ _ => trivial) ?_)
              intro x187 y187
              refine VL.yes rfl rfl ?_
              refine VL.q (Q.move rfl) ?_
              refine VL.yes rfl rfl ?_
              refine VL.q (Q.move rfl) ?_
              refine VL.yes rfl rfl ?_
              refine VL.q (Q.nilCheck rfl) ?_
              refine VL.yes rfl rfl ?_
              refine VL.q (Q.fieldAddr fa86_0 rfl) ?_
              refine VL.yes rfl rfl ?_
              refine VL.q (Q.load1 ty54 rfl zM rfl) ?_
              refine VL.yes rfl rfl ?_
              refine VL.q (Q.len sl54 rfl) ?_
              refine VL.yes rfl rfl ?_
              refine VL.quietE (v' := .bool false) (by decide) (Q.gt rfl rfl) (by rfl) ?_
              refine VL.yes rfl rfl ?_
              refine VL.quietE (v' := .bool false) (by decide) (Q.pick_true rfl rfl) (by rfl) ?_
              refine VL.quietE (v' := .bool false) (by decide) (Q.pick_false rfl rfl) (by rfl) ?_
              refine VL.nil ?_
              refine VE.seq ?_
              refine VC.condF rfl ?_
              refine VC.skip ?_
              refine VE.seq ?_
              refine VC.seq ?_
              refine VC.seq ?_
              refine VC.region ?_
              refine VL.q (Q.move rfl) ?_
              refine VL.q (Q.nilCheck rfl) ?_
              refine VL.q (Q.fieldAddr fa86_0 rfl) ?_
              refine VL.q (Q.load1 ty54 rfl zM rfl) ?_
              refine VL.q (Q.len sl54 rfl) ?_
              refine VL.quietE (v' := .bool false) (by decide) (Q.gt rfl rfl) (by rfl) ?_
              refine VL.nil ?_
              refine VE.seq ?_
              refine VC.condF rfl ?_
              refine VC.skip ?_
              refine VE.seq ?_
              refine VC.seq ?_
              refine VA.start (Ls := [.blk g31 [.slice (some ⟨gr, sliceOff (((c22 - 2) - 2) - 6) 6 10 1, none⟩) (6 - 6) ((((c22 - 2) - 2) - 6) - 6), .bool false] 86, .blk g8 [.int .u8 1, .int .u8 11, .bool false, .bool false, .bool false, .bool false, .bool false, .bool false, .bool false, .int .i64 (D : Int), .int .u8 2, .int .u8 0, .int .u8 0, .int .u8 0, .int .u8 0, .int .u8 1, .int .u8 2, .int .u8 0, .int .u8 0, .int .u8 0, .int .u8 0, .int .u8 2, .int .u8 0, .int .u8 0, .int .u8 0, .int .u8 0, .int .u8 0, .int .u8 0, .int .u8 0, .int .u8 0, .int .u8 0, .int .u8 0, .int .u8 0, .int .u8 0, .int .i64 0, .int .i64 0, .int .i64 0, .int .u8 0, .bool false, .bool false] 50]) (Cs := []) mixed ?_
              refine VA.take 0 rfl (by kernel_rfl) (by kernel_rfl) (by kernel_rfl) (Still.then Still.body) zB Cells.nil (by decide) (Quiet.c (Q.loadA ty50 rfl zM zS)) ?_
              refine VA.take 2 rfl (by kernel_rfl) (by kernel_rfl) (by kernel_rfl) (Still.then Still.body) zB Cells.nil (by decide) (Quiet.c (Q.move rfl)) ?_
              refine VA.take 3 rfl (by kernel_rfl) (by kernel_rfl) (by kernel_rfl) (Still.then Still.body) zB Cells.nil (by decide) (Quiet.c (Q.nilCheck rfl)) ?_
              refine VA.take 4 rfl (by kernel_rfl) (by kernel_rfl) (by kernel_rfl) (Still.then Still.body) zB Cells.nil (by decide) (Quiet.c (Q.fieldAddr fa86_0 rfl)) ?_
              refine VA.take 5 rfl (by kernel_rfl) (by kernel_rfl) (by kernel_rfl) (Still.then Still.body) zB Cells.nil (by decide) (Quiet.c (Q.load1 ty54 rfl zM rfl)) ?_
              refine VA.all (rs := [1]) (by kernel_rfl) (by simp) ?_
              refine VA.forall1 ?_
              · skip
                refine VA.eff rfl ?_
                refine id (O.buildSlice0 sl54 (by decide) ?_)
                intro g206
                refine VA.next zB Cells.nil ?_
                refine VA.take 6 rfl (by kernel_rfl) (by kernel_rfl) (by kernel_rfl) (Still.then Still.body) zB Cells.nil (by decide) (Quiet.c (Q.append0 sl54 rfl rfl (by omega))) ?_
                refine VA.take 7 rfl (by kernel_rfl) (by kernel_rfl) (by kernel_rfl) (Still.then Still.body) zB Cells.nil (by decide) (Quiet.c (Q.build lay58 zF)) ?_
                refine VA.all (rs := [8]) (by kernel_rfl) (by simp) ?_
                refine VA.forall1 ?_
                · skip
                  refine VA.eff rfl ?_
                  refine id (O.store ty58 rfl rfl rfl rfl zU zP ?_)
                  refine VA.next zB Cells.nil ?_
                  refine VA.take 9 rfl (by kernel_rfl) (by kernel_rfl) (by kernel_rfl) (Still.then Still.body) zB Cells.nil (by decide) (Quiet.c (Q.assign rfl)) ?_
                  refine VA.done (by kernel_rfl) ?_
                  refine VE.seq ?_
                  refine VC.ret ?_
                  exact VE.ret rfl (.cell ty58 rfl zM rfl (.tmp rfl .nil)) g206 trivial rfl (List.nil_sublist _)

theorem verify_cts (D : Nat) (hD : D ≤ 32767) (p : Option Addr) (c : Nat) (hc : 14 ≤ c) : Does Tryd.prog 32 [.slice p 14 c] [] (fun W => Rd W p (bs (hb_cts D ++ crcBytes (hb_cts D)))) (X := Option Addr × Nat) (fun x => 10 ≤ x.2) (fun x => .tuple #[.slice x.1 10 x.2, .int .i64 0]) (fun x => [.row (.slice x.1 10 x.2) 5 1 10 [.int .u8 196, .int .u8 0, .int .u8 ((D : Int) % 256), .int .u8 ((D : Int) / 256), .int .u8 2, .int .u8 0, .int .u8 0, .int .u8 0, .int .u8 0, .int .u8 2]]) := by
  have h := verify_c p 14 c (hb_cts D ++ crcBytes (hb_cts D)) rfl (by decide) hc
  rw [verifyP_crc] at h
  dsimp only at h
  rw [hbs_cts D hD] at h
  exact h

theorem decode_cts (D : Nat) (hD : D ≤ 32767) (p : Option Addr) (c : Nat) (hc : 14 ≤ c) :
    Does Tryd.prog 16 [.slice p 14 c] [] (fun W => Rd W p (bs (hb_cts D ++ crcBytes (hb_cts D)))) (X := Nat) (fun _ => True) (fun x => .tuple #[.agg #[.int .u8 1, .int .u8 12, .bool false, .bool false, .bool false, .bool false, .bool false, .bool false, .bool false, .int .i64 (D : Int), .int .u8 2, .int .u8 0, .int .u8 0, .int .u8 0, .int .u8 0, .int .u8 2, .int .u8 0, .int .u8 0, .int .u8 0, .int .u8 0, .int .u8 0, .int .u8 0, .int .u8 0, .int .u8 0, .int .u8 0, .int .u8 0, .int .u8 0, .int .u8 0, .int .u8 0, .int .u8 0, .int .u8 0, .int .u8 0, .int .u8 0, .int .u8 0, .int .i64 0, .int .i64 0, .int .i64 0, .int .u8 0, .bool false, .bool false, .slice (some ⟨x, 0, none⟩) 0 0], .int .i64 0]) (fun _ => []) := by
  refine Does.enter Tryd.func16 rfl (m := 213) rfl (by simp) ?_
  intro W0 hro
  refine VC.seq ?_
  refine VC.region ?_
  refine VL.eff (O.alloc zo58 (by decide) ?_)
  intro g2
  refine VL.q (Q.assign rfl) ?_
  refine VL.nil ?_
  refine VE.seq ?_
  refine VC.seq ?_
  refine VC.region ?_
  refine VL.q (Q.move rfl) ?_
  refine VL.eff (O.call0 ok32 rfl rfl (by decide) (verify_cts D hD p c hc) (fun _ ho _ => hro.only0 ho) ?_)
  intro x22 y22
  obtain ⟨p22, c22⟩ := x22
  refine VK.rowHead (m := 10) zM (by decide) ?_
  intro gr hgr hmc hcm
  dsimp only at hgr hmc hcm
  subst hgr
  refine VL.q (Q.move rfl) ?_
  refine VL.q (Q.extract rfl rfl) ?_
  refine VL.q (Q.extract rfl rfl) ?_
  refine VL.q (Q.assign rfl) ?_
  refine VL.q (Q.assign rfl) ?_
  refine VL.nil ?_
  refine VE.seq ?_
  refine VC.seq ?_
  refine VC.seq ?_
  refine VC.region ?_
  refine VL.q (Q.move rfl) ?_
  refine VL.quietE (v' := .bool false) (by decide) (Q.ne rfl rfl) (by rfl) ?_
  refine VL.nil ?_
  refine VE.seq ?_
  refine VC.condF rfl ?_
  refine VC.skip ?_
  refine VE.seq ?_
  refine VC.seq ?_
  refine VC.region ?_
  refine VL.q (Q.move rfl) ?_
  refine VL.q (Q.build lay86 zF) ?_
  refine VL.eff (O.box rfl rfl (by decide) ?_)
  intro g31
  refine VK.apart (r := .row (.slice (some ⟨gr, 0, none⟩) 10 c22) 5 1 10 [.int .u8 196, .int .u8 0, .int .u8 ((D : Int) % 256), .int .u8 ((D : Int) / 256), .int .u8 2, .int .u8 0, .int .u8 0, .int .u8 0, .int .u8 0, .int .u8 2]) (r' := .blk g31 [.slice (some ⟨gr, 0, none⟩) 10 c22, .bool false] 86) (Two.swap zM) ?_
  intro hap
  have hne : gr ≠ g31 := by simpa [Rs.ids, Value.ownBlock] using hap
  refine VL.q (Q.assign rfl) ?_
  refine VL.nil ?_
  refine VE.seq ?_
  refine VC.seq ?_
  refine VC.region ?_
  refine VL.q (Q.move rfl) ?_
  refine VL.eff (O.callB ok33 rfl rfl (by decide) (take_c _ gr 0 10 c22 2 _ (by omega) (by omega) (sliceOff_lt (by omega))) zK (fun _ _ _ => trivial) ?_)
  intro x33 y33
  refine VL.q (Q.assign rfl) ?_
  refine VL.nil ?_
  refine VE.seq ?_
  refine VC.seq ?_
  refine VC.seq ?_
  refine VC.region ?_
  refine VL.q (Q.move rfl) ?_
  refine VL.q (Q.nilCheck rfl) ?_
  refine VL.q (Q.fieldAddr fa86_1 rfl) ?_
  refine VL.q (Q.load1 ty4 rfl zM rfl) ?_
  refine VL.nil ?_
  refine VE.seq ?_
  refine VC.condF rfl ?_
  refine VC.skip ?_
  refine VE.seq ?_
  refine VC.seq ?_
  refine VC.region ?_
  refine VL.q (Q.move rfl) ?_
  refine VL.q (Q.indexAddr sl54 (j := 1) rfl rfl rfl (by omega)) ?_
  refine VL.q (Q.loadRow ty5 rfl zM rfl) ?_
  refine VL.q (Q.assign rfl) ?_
  refine VL.nil ?_
  refine VE.seq ?_
  refine VC.seq ?_
  refine VA.start (Ls := [.row (.slice (some ⟨gr, 0, none⟩) 10 c22) 5 1 10 [.int .u8 196, .int .u8 0, .int .u8 ((D : Int) % 256), .int .u8 ((D : Int) / 256), .int .u8 2, .int .u8 0, .int .u8 0, .int .u8 0, .int .u8 0, .int .u8 2]]) (Cs := []) mixed ?_
  refine VA.take 0 rfl (by kernel_rfl) (by kernel_rfl) (by kernel_rfl) (Still.then Still.body) (List.singleton_sublist.2 zM) Cells.nil (by decide) (Quiet.c (Q.move rfl)) ?_
  refine VA.take 1 rfl (by kernel_rfl) (by kernel_rfl) (by kernel_rfl) (Still.then Still.body) (List.singleton_sublist.2 zM) Cells.nil (by decide) (Quiet.c (Q.indexAddr sl54 (j := 0) rfl rfl rfl (by omega))) ?_
  refine VA.take 2 rfl (by kernel_rfl) (by kernel_rfl) (by kernel_rfl) (Still.then Still.body) (List.singleton_sublist.2 zM) Cells.nil (by decide) (Quiet.c (Q.loadRow ty5 rfl zM rfl)) ?_
  refine VA.take 3 rfl (by kernel_rfl) (by kernel_rfl) (by kernel_rfl) (Still.then Still.body) (List.singleton_sublist.2 zM) Cells.nil (by decide) (Quiet.c (Q.shrC (s := 2) (m := 4) rfl rfl (by decide) (by decide))) ?_
  refine VA.take 4 rfl (by kernel_rfl) (by kernel_rfl) (by kernel_rfl) (Still.then Still.body) (List.singleton_sublist.2 zM) Cells.nil (by decide) (Quiet.c (Q.and rfl rfl (by omega) (by simp only [khi]; omega) (by omega) (by simp only [khi]; omega))) ?_
  refine VA.take 5 rfl (by kernel_rfl) (by kernel_rfl) (by kernel_rfl) (Still.then Still.body) (List.singleton_sublist.2 zM) Cells.nil (by decide) (Quiet.c (Q.move rfl)) ?_
  refine VA.take 6 rfl (by kernel_rfl) (by kernel_rfl) (by kernel_rfl) (Still.then Still.body) (List.singleton_sublist.2 zM) Cells.nil (by decide) (Quiet.c (Q.indexAddr sl54 (j := 0) rfl rfl rfl (by omega))) ?_
  refine VA.take 7 rfl (by kernel_rfl) (by kernel_rfl) (by kernel_rfl) (Still.then Still.body) (List.singleton_sublist.2 zM) Cells.nil (by decide) (Quiet.c (Q.loadRow ty5 rfl zM rfl)) ?_
  refine VA.take 8 rfl (by kernel_rfl) (by kernel_rfl) (by kernel_rfl) (Still.then Still.body) (List.singleton_sublist.2 zM) Cells.nil (by decide) (Quiet.c (Q.shrC (s := 4) (m := 16) rfl rfl (by decide) (by decide))) ?_
  refine VA.take 9 rfl (by kernel_rfl) (by kernel_rfl) (by kernel_rfl) (Still.then Still.body) (List.singleton_sublist.2 zM) Cells.nil (by decide) (Quiet.c (Q.build lay50 zF)) ?_
  refine VA.all (rs := [10]) (by kernel_rfl) (by simp) ?_
  refine VA.forall1 ?_
  · skip
    refine VA.eff rfl ?_
    refine id (O.alloc zo50 (by decide) ?_)
    intro g8
    refine VA.next (List.singleton_sublist.2 zM) Cells.nil ?_
    refine VA.all (rs := [11]) (by kernel_rfl) (by simp) ?_
    refine VA.forall1 ?_
    · skip
      refine VA.eff rfl ?_
      refine id (O.store ty50 rfl rfl rfl rfl zU zP ?_)
      refine VA.next (List.singleton_sublist.2 zM) Cells.nil ?_
      refine VA.done (by kernel_rfl) ?_
      refine VE.seq ?_
      refine VC.seq ?_
      refine VC.region ?_
      refine VL.q (Q.fieldAddr fa50_0 rfl) ?_
      refine VL.q (Q.load1 ty5 rfl zM rfl) ?_
      refine VL.q (Q.fieldAddr fa50_1 rfl) ?_
      refine VL.q (Q.load1 ty5 rfl zM rfl) ?_
      refine VL.eff (O.call0 ok34 rfl rfl (by decide) (known_cts) (fun _ _ _ => trivial) ?_)
      intro x57 y57
      refine VL.q (Q.move rfl) ?_
      refine VL.q (Q.extract rfl rfl) ?_
      refine VL.q (Q.extract rfl rfl) ?_
      refine VL.eff (O.alloc zo90 (by decide) ?_)
      intro g9
      refine VL.eff (O.store ty90 rfl rfl rfl rfl zU zP ?_)
      refine VL.q (Q.assign rfl) ?_
      refine VL.nil ?_
      refine VE.seq ?_
      refine VC.seq ?_
      refine VC.seq ?_
      refine VK.keep (by exact .cons (i := 2) rfl (.cons (i := 3) rfl (.cons (i := 5) rfl (.cons (i := 6) rfl (.cons (i := 7) rfl (.cons (i := 8) rfl (.cons (i := 9) rfl (.cons (i := 10) rfl ( .nil))))))))) ?_
      refine VC.region ?_
      refine VL.q (Q.move rfl) ?_
      refine VL.quietE (v' := .bool false) (by decide) (Q.not rfl) (by rfl) ?_
      refine VL.q (Q.move rfl) ?_
      refine VL.yes rfl rfl ?_
      refine VL.q (Q.move rfl) ?_
      refine VL.yes rfl rfl ?_
      refine VL.q (Q.indexAddr sl54 (j := 0) rfl rfl rfl (by omega)) ?_
      refine VL.yes rfl rfl ?_
      refine VL.q (Q.loadRow ty5 rfl zM rfl) ?_
      refine VL.yes rfl rfl ?_
      refine VL.quietE (v' := .int .u8 0) (by decide) (Q.and rfl rfl (by omega) (by simp only [khi]; omega) (by omega) (by simp only [khi]; omega)) (by rfl) ?_
      refine VL.yes rfl rfl ?_
      refine VL.quietE (v' := .bool false) (by decide) (Q.ne rfl rfl) (by rfl) ?_
      refine VL.quietE (v' := .bool false) (by decide) (Q.pick_false rfl rfl) (by rfl) ?_
      refine VL.q (Q.move rfl) ?_
      refine VL.yes rfl rfl ?_
      refine VL.q (Q.move rfl) ?_
      refine VL.yes rfl rfl ?_
      refine VL.quietE (v' := .int .u8 0) (by decide) (Q.and rfl rfl (by omega) (by simp only [khi]; omega) (by omega) (by simp only [khi]; omega)) (by rfl) ?_
      refine VL.yes rfl rfl ?_
      refine VL.quietE (v' := .bool false) (by decide) (Q.ne rfl rfl) (by rfl) ?_
      refine VL.quietE (v' := .bool false) (by decide) (Q.pick_false rfl rfl) (by rfl) ?_
      refine VL.nil ?_
      refine VE.seq ?_
      refine VC.condF rfl ?_
      refine VC.skip ?_
      refine VE.seq ?_
      refine VC.seq ?_
      refine VC.region ?_
      refine VL.q (Q.move rfl) ?_
      refine VL.quietE (v' := .int .u8 0) (by decide) (Q.and rfl rfl (by omega) (by simp only [khi]; omega) (by omega) (by simp only [khi]; omega)) (by rfl) ?_
      refine VL.quietE (v' := .bool false) (by decide) (Q.ne rfl rfl) (by rfl) ?_
      refine VL.q (Q.move rfl) ?_
      refine VL.quietE (v' := .int .u8 0) (by decide) (Q.and rfl rfl (by omega) (by simp only [khi]; omega) (by omega) (by simp only [khi]; omega)) (by rfl) ?_
      refine VL.quietE (v' := .bool false) (by decide) (Q.ne rfl rfl) (by rfl) ?_
      refine VL.q (Q.move rfl) ?_
      refine VL.quietE (v' := .int .u8 0) (by decide) (Q.and rfl rfl (by omega) (by simp only [khi]; omega) (by omega) (by simp only [khi]; omega)) (by rfl) ?_
      refine VL.quietE (v' := .bool false) (by decide) (Q.ne rfl rfl) (by rfl) ?_
      refine VL.q (Q.move rfl) ?_
      refine VL.quietE (v' := .int .u8 0) (by decide) (Q.and rfl rfl (by omega) (by simp only [khi]; omega) (by omega) (by simp only [khi]; omega)) (by rfl) ?_
      refine VL.quietE (v' := .bool false) (by decide) (Q.ne rfl rfl) (by rfl) ?_
      refine VL.q (Q.fieldAddr fa50_2 rfl) ?_
      refine VL.eff (O.store ty4 rfl rfl rfl rfl zU zP ?_)
      refine VL.q (Q.fieldAddr fa50_3 rfl) ?_
      refine VL.eff (O.store ty4 rfl rfl rfl rfl zU zP ?_)
      refine VL.q (Q.fieldAddr fa50_4 rfl) ?_
      refine VL.eff (O.store ty4 rfl rfl rfl rfl zU zP ?_)
      refine VL.q (Q.fieldAddr fa50_5 rfl) ?_
      refine VL.eff (O.store ty4 rfl rfl rfl rfl zU zP ?_)
      refine VL.nil ?_
      refine VE.seq ?_
      refine VC.seq ?_
      refine VC.region ?_
      refine VL.q (Q.move rfl) ?_
      refine VL.quietE (v' := .int .u8 0) (by decide) (Q.and rfl rfl (by omega) (by simp only [khi]; omega) (by omega) (by simp only [khi]; omega)) (by rfl) ?_
      refine VL.quietE (v' := .bool false) (by decide) (Q.ne rfl rfl) (by rfl) ?_
      refine VL.q (Q.move rfl) ?_
      refine VL.quietE (v' := .int .u8 0) (by decide) (Q.and rfl rfl (by omega) (by simp only [khi]; omega) (by omega) (by simp only [khi]; omega)) (by rfl) ?_
      refine VL.quietE (v' := .bool false) (by decide) (Q.ne rfl rfl) (by rfl) ?_
      refine VL.q (Q.move rfl) ?_
      refine VL.quietE (v' := .int .u8 0) (by decide) (Q.and rfl rfl (by omega) (by simp only [khi]; omega) (by omega) (by simp only [khi]; omega)) (by rfl) ?_
      refine VL.quietE (v' := .bool false) (by decide) (Q.ne rfl rfl) (by rfl) ?_
      refine VL.q (Q.fieldAddr fa50_6 rfl) ?_
      refine VL.eff (O.store ty4 rfl rfl rfl rfl zU zP ?_)
      refine VL.q (Q.fieldAddr fa50_7 rfl) ?_
      refine VL.eff (O.store ty4 rfl rfl rfl rfl zU zP ?_)
      refine VL.q (Q.fieldAddr fa50_8 rfl) ?_
      refine VL.eff (O.store ty4 rfl rfl rfl rfl zU zP ?_)
      refine VL.nil ?_
      refine VE.seq ?_
      refine VC.seq ?_
      refine VK.keep (by exact .cons (i := 2) rfl (.cons (i := 3) rfl (.cons (i := 5) rfl (.cons (i := 8) rfl (.cons (i := 9) rfl ( .nil)))))) ?_
      refine VC.region ?_
      refine VL.q (Q.move rfl) ?_
      refine VL.eff (O.callB ok35 rfl rfl (by decide) (two_c _ gr 2 8 (c22 - 2) _ ((D : Int) % 256) ((D : Int) / 256) (D : Int) (by omega) (by omega) (by omega) hne (by omega) (by omega) (sliceOff_lt (by omega))) zK (fun _ _ hw => Rd.rowP hw zM zS) ?_)
      intro x104 y104
      refine VL.q (Q.fieldAddr fa50_9 rfl) ?_
      refine VL.eff (O.store ty3 rfl rfl rfl rfl zU zP ?_)
      refine VL.nil ?_
      refine VE.seq ?_
      refine VC.seq ?_
      refine VC.region ?_
      refine VL.eff (O.call0 ok36 rfl rfl (by decide) (places_cts _) (fun _ _ hw => Rd.seg hw zM zS) ?_)
      intro x107 y107
      refine VL.q (Q.move rfl) ?_
      refine VL.q (Q.extract rfl rfl) ?_
      refine VL.q (Q.extract rfl rfl) ?_
      refine VL.q (Q.assign rfl) ?_
      refine VL.q (Q.assign rfl) ?_
      refine VL.nil ?_
      refine VE.seq ?_
      refine VC.seq ?_
      refine VC.seq ?_
      refine VC.region ?_
      refine VL.q (Q.move rfl) ?_
      refine VL.q (Q.len sl93 rfl) ?_
      refine VL.q (Q.move rfl) ?_
      refine VL.nil ?_
      refine VE.seq ?_
      refine VC.block ?_
      refine VC.rounds 40 ?_
      refine VC.rnd (m := 39) ?_
      refine VC.seq ?_
      refine VC.region ?_
      refine VL.q (Q.lt rfl rfl) ?_
      refine VL.nil ?_
      refine VE.seq ?_
      refine VC.seq ?_
      refine VC.condT rfl ?_
      refine VC.skip ?_
      refine VE.seq ?_
      refine VC.seq ?_
      refine VC.block ?_
      refine VC.seq ?_
      refine VC.region ?_
      refine VL.q (Q.indexAddr sl93 (j := 0) rfl rfl rfl (by omega)) ?_
      refine VL.q (Q.load1 ty97 rfl zM rfl) ?_
      refine VL.q (Q.assign rfl) ?_
      refine VL.nil ?_
      refine VE.seq ?_
      refine VA.start (Ls := []) (Cs := []) mixed ?_
      refine VA.take 0 rfl (by kernel_rfl) (by kernel_rfl) (by kernel_rfl) (Still.block (Still.then (Still.then (Still.block (Still.then Still.body))))) (List.nil_sublist _) Cells.nil (by decide) (Quiet.c (Q.move rfl)) ?_
      refine VA.take 1 rfl (by kernel_rfl) (by kernel_rfl) (by kernel_rfl) (Still.block (Still.then (Still.then (Still.block (Still.then Still.body))))) (List.nil_sublist _) Cells.nil (by decide) (Quiet.c (Q.nilCheck rfl)) ?_
      refine VA.take 2 rfl (by kernel_rfl) (by kernel_rfl) (by kernel_rfl) (Still.block (Still.then (Still.then (Still.block (Still.then Still.body))))) (List.nil_sublist _) Cells.nil (by decide) (Quiet.c (Q.slcA0 ar43 (h := _) rfl rfl (by omega))) ?_
      refine VA.take 3 rfl (by kernel_rfl) (by kernel_rfl) (by kernel_rfl) (Still.block (Still.then (Still.then (Still.block (Still.then Still.body))))) (List.nil_sublist _) Cells.nil (by decide) (Quiet.c (Q.move rfl)) ?_
      refine VA.all (rs := [4]) (by kernel_rfl) (by simp) ?_
      refine VA.forall1 ?_
      · skip
        refine VA.eff rfl ?_
        refine id (O.callB ok33 rfl rfl (by decide) (take_c _ gr 4 6 ((c22 - 2) - 2) 6 _ (by omega) (by omega) rfl) zK (fun _ _ _ => trivial) ?_)
        intro x120 y120
        refine VA.next (List.nil_sublist _) Cells.nil ?_
        refine VA.all (rs := [5]) (by kernel_rfl) (by simp) ?_
        refine VA.forall1 ?_
        · skip
          refine VA.eff rfl ?_
          refine id (O.copyR sl54 rfl rfl zM zS rfl (by decide) zU zP ?_)
          refine VA.next (List.nil_sublist _) Cells.nil ?_
          refine VA.done (by kernel_rfl) ?_
          refine VE.block_normal ?_
          refine VE.seq ?_
          refine VC.region ?_
          refine VL.quietE (v' := .int .i64 1) (by decide) ((by first | exact Q.addI rfl rfl (by omega) (by omega) | exact Q.add rfl rfl)) (by rfl) ?_
          refine VL.q (Q.move rfl) ?_
          refine VL.nil ?_
          refine VE.then_normal ?_
          refine VC.rnd (m := 38) ?_
          refine VC.seq ?_
          refine VC.region ?_
          refine VL.q (Q.lt rfl rfl) ?_
          refine VL.nil ?_
          refine VE.seq ?_
          refine VC.seq ?_
          refine VC.condF rfl ?_
          refine VC.exit ?_
          refine VE.then_exit ?_
          refine VE.then_exit ?_
          refine VE.block_here ?_
          refine VE.seq ?_
          refine VC.seq ?_
          refine VC.seq ?_
          refine VC.region ?_
          refine VL.q (Q.fieldAddr fa90_1 rfl) ?_
          refine VL.q (Q.load1 ty4 rfl zM rfl) ?_
          refine VL.nil ?_
          refine VE.seq ?_
          refine VC.condF rfl ?_
          refine VC.skip ?_
          refine VE.seq ?_
          refine VC.seq ?_
          refine VC.seq ?_
          refine VC.region ?_
          refine VL.q (Q.move rfl) ?_
          refine VL.q (Q.len sl93 rfl) ?_
          refine VL.q (Q.move rfl) ?_
          refine VL.nil ?_
          refine VE.seq ?_
          refine VC.block ?_
          refine VC.rounds 40 ?_
          refine VC.rnd (m := 39) ?_
          refine VC.seq ?_
          refine VC.region ?_
          refine VL.q (Q.lt rfl rfl) ?_
          refine VL.nil ?_
          refine VE.seq ?_
          refine VC.seq ?_
          refine VC.condF rfl ?_
          refine VC.exit ?_
          refine VE.then_exit ?_
          refine VE.then_exit ?_
          refine VE.block_here ?_
          refine VE.seq ?_
          refine VC.seq ?_
          refine VC.region ?_
          refine VL.q (Q.assign rfl) ?_
          refine VL.nil ?_
          refine VE.seq ?_
          refine VC.seq ?_
          refine VC.seq ?_
          refine VC.region ?_
          refine VL.q (Q.fieldAddr fa90_2 rfl) ?_
          refine VL.q (Q.load1 ty4 rfl zM rfl) ?_
          refine VL.nil ?_
          refine VE.seq ?_
          refine VC.condF rfl ?_
          refine VC.skip ?_
          refine VE.seq ?_
          refine VC.seq ?_
          refine VC.seq ?_
          refine VC.region ?_
          refine VL.q (Q.move rfl) ?_
          refine VL.q (Q.nilCheck rfl) ?_
          refine VL.q (Q.fieldAddr fa86_1 rfl) ?_
          refine VL.q (Q.load1 ty4 rfl zM rfl) ?_
          refine VL.nil ?_
          refine VE.seq ?_
          refine VC.condF rfl ?_
          refine VC.skip ?_
          refine VE.seq ?_
          refine VC.seq ?_
          refine VC.seq ?_
          refine VK.keep (by exact .cons (i := 2) rfl (.cons (i := 3) rfl (.cons (i := 5) rfl (.cons (i := 8) rfl (.cons (i := 18) rfl ( .nil)))))) ?_
          refine VC.region ?_
          refine VL.q (Q.move rfl) ?_
          refine VL.q (Q.move rfl) ?_
          refine VL.yes rfl rfl ?_
          refine VL.q (Q.loadA ty50 rfl zM zS) ?_
          refine VL.yes rfl rfl ?_
          refine VL.eff (O.call0 ok28 rfl rfl (by decide) (check_cts D hD) (fun _ _ _ => trivial) ?_)
          intro x182 y182
          refine VL.yes rfl rfl ?_
          refine VL.quietE (v' := .bool false) (by decide) (Q.ne rfl rfl) (by rfl) ?_
          refine VL.quietE (v' := .bool false) (by decide) (Q.pick_false rfl rfl) (by rfl) ?_
          refine VL.q (Q.move rfl) ?_
          refine VL.yes rfl rfl ?_
          refine VL.q (Q.loadA ty50 rfl zM zS) ?_
          refine VL.yes rfl rfl ?_
          refine VL.eff (O.call0 ok29 rfl rfl (by decide) (bare_cts D) (fun _ _ _ => trivial) ?_)
          intro x187 y187
          refine VL.yes rfl rfl ?_
          refine VL.q (Q.move rfl) ?_
          refine VL.yes rfl rfl ?_
          refine VL.q (Q.move rfl) ?_
          refine VL.yes rfl rfl ?_
          refine VL.q (Q.nilCheck rfl) ?_
          refine VL.yes rfl rfl ?_
          refine VL.q (Q.fieldAddr fa86_0 rfl) ?_
          refine VL.yes rfl rfl ?_
          refine VL.q (Q.load1 ty54 rfl zM rfl) ?_
          refine VL.yes rfl rfl ?_
          refine VL.q (Q.len sl54 rfl) ?_
          refine VL.yes rfl rfl ?_
          refine VL.quietE (v' := .bool false) (by decide) (Q.gt rfl rfl) (by rfl) ?_
          refine VL.yes rfl rfl ?_
          refine VL.quietE (v' := .bool false) (by decide) (Q.pick_true rfl rfl) (by rfl) ?_
          refine VL.quietE (v' := .bool false) (by decide) (Q.pick_false rfl rfl) (by rfl) ?_
          refine VL.nil ?_
          refine VE.seq ?_
          refine VC.condF rfl ?_
          refine VC.skip ?_
          refine VE.seq ?_
          refine VC.seq ?_
          refine VC.seq ?_
          refine VC.region ?_
          refine VL.q (Q.move rfl) ?_
          refine VL.q (Q.nilCheck rfl) ?_
          refine VL.q (Q.fieldAddr fa86_0 rfl) ?_
          refine VL.q (Q.load1 ty54 rfl zM rfl) ?_
          refine VL.q (Q.len sl54 rfl) ?_
          refine VL.quietE (v' := .bool false) (by decide) (Q.gt rfl rfl) (by rfl) ?_
          refine VL.nil ?_
          refine VE.seq ?_
          refine VC.condF rfl ?_
          refine VC.skip ?_
          refine VE.seq ?_
          refine VC.seq ?_
          refine VA.start (Ls := [.blk g31 [.slice (some ⟨gr, sliceOff ((c22 - 2) - 2) 6 4 1, none⟩) (6 - 6) (((c22 - 2) - 2) - 6), .bool false] 86, .blk g8 [.int .u8 1, .int .u8 12, .bool false, .bool false, .bool false, .bool false, .bool false, .bool false, .bool false, .int .i64 (D : Int), .int .u8 2, .int .u8 0, .int .u8 0, .int .u8 0, .int .u8 0, .int .u8 2, .int .u8 0, .int .u8 0, .int .u8 0, .int .u8 0, .int .u8 0, .int .u8 0, .int .u8 0, .int .u8 0, .int .u8 0, .int .u8 0, .int .u8 0, .int .u8 0, .int .u8 0, .int .u8 0, .int .u8 0, .int .u8 0, .int .u8 0, .int .u8 0, .int .i64 0, .int .i64 0, .int .i64 0, .int .u8 0, .bool false, .bool false] 50]) (Cs := []) mixed ?_
          refine VA.take 0 rfl (by kernel_rfl) (by kernel_rfl) (by kernel_rfl) (Still.then Still.body) zB Cells.nil (by decide) (Quiet.c (Q.loadA ty50 rfl zM zS)) ?_
          refine VA.take 2 rfl (by kernel_rfl) (by kernel_rfl) (by kernel_rfl) (Still.then Still.body) zB Cells.nil (by decide) (Quiet.c (Q.move rfl)) ?_
          refine VA.take 3 rfl (by kernel_rfl) (by kernel_rfl) (by kernel_rfl) (Still.then Still.body) zB Cells.nil (by decide) (Quiet.c (Q.nilCheck rfl)) ?_
          refine VA.take 4 rfl (by kernel_rfl) (by kernel_rfl) (by kernel_rfl) (Still.then Still.body) zB Cells.nil (by decide) (Quiet.c (Q.fieldAddr fa86_0 rfl)) ?_
          refine VA.take 5 rfl (by kernel_rfl) (by kernel_rfl) (by kernel_rfl) (Still.then Still.body) zB Cells.nil (by decide) (Quiet.c (Q.load1 ty54 rfl zM rfl)) ?_
          refine VA.all (rs := [1]) (by kernel_rfl) (by simp) ?_
          refine VA.forall1 ?_
          · skip
            refine VA.eff rfl ?_
            refine id (O.buildSlice0 sl54 (by decide) ?_)
            intro g206
            refine VA.next zB Cells.nil ?_
            refine VA.take 6 rfl (by kernel_rfl) (by kernel_rfl) (by kernel_rfl) (Still.then Still.body) zB Cells.nil (by decide) (Quiet.c (Q.append0 sl54 rfl rfl (by omega))) ?_
            refine VA.take 7 rfl (by kernel_rfl) (by kernel_rfl) (by kernel_rfl) (Still.then Still.body) zB Cells.nil (by decide) (Quiet.c (Q.build lay58 zF)) ?_
            refine VA.all (rs := [8]) (by kernel_rfl) (by simp) ?_
            refine VA.forall1 ?_
            · skip
              refine VA.eff rfl ?_
              refine id (O.store ty58 rfl rfl rfl rfl zU zP ?_)
              refine VA.next zB Cells.nil ?_
              refine VA.take 9 rfl (by kernel_rfl) (by kernel_rfl) (by kernel_rfl) (Still.then Still.body) zB Cells.nil (by decide) (Quiet.c (Q.assign rfl)) ?_
              refine VA.done (by kernel_rfl) ?_
              refine VE.seq ?_
              refine VC.ret ?_
              exact VE.ret rfl (.cell ty58 rfl zM rfl (.tmp rfl .nil)) g206 trivial rfl (List.nil_sublist _)

theorem verify_data (D : Nat) (hD : D ≤ 32767) (p : Option Addr) (c : Nat) (hc : 30 ≤ c) : Does Tryd.prog 32 [.slice p 30 c] [] (fun W => Rd W p (bs (hb_data D ++ crcBytes (hb_data D)))) (X := Option Addr × Nat) (fun x => 26 ≤ x.2) (fun x => .tuple #[.slice x.1 26 x.2, .int .i64 0]) (fun x => [.row (.slice x.1 26 x.2) 5 1 26 [.int .u8 136, .int .u8 0, .int .u8 ((D : Int) % 256), .int .u8 ((D : Int) / 256), .int .u8 2, .int .u8 0, .int .u8 0, .int .u8 0, .int .u8 0, .int .u8 1, .int .u8 2, .int .u8 0, .int .u8 0, .int .u8 0, .int .u8 0, .int .u8 2, .int .u8 0, .int .u8 0, .int .u8 0, .int .u8 0, .int .u8 0, .int .u8 0, .int .u8 0, .int .u8 0, .int .u8 0, .int .u8 0]]) := by
  have h := verify_c p 30 c (hb_data D ++ crcBytes (hb_data D)) rfl (by decide) hc
  rw [verifyP_crc] at h
  dsimp only at h
  rw [hbs_data D hD] at h
  exact h

theorem decode_data (D : Nat) (hD : D ≤ 32767) (p : Option Addr) (c : Nat) (hc : 30 ≤ c) :
    Does Tryd.prog 16 [.slice p 30 c] [] (fun W => Rd W p (bs (hb_data D ++ crcBytes (hb_data D)))) (X := Nat) (fun _ => True) (fun x => .tuple #[.agg #[.int .u8 2, .int .u8 8, .bool false, .bool false, .bool false, .bool false, .bool false, .bool false, .bool false, .int .i64 (D : Int), .int .u8 2, .int .u8 0, .int .u8 0, .int .u8 0, .int .u8 0, .int .u8 1, .int .u8 2, .int .u8 0, .int .u8 0, .int .u8 0, .int .u8 0, .int .u8 2, .int .u8 0, .int .u8 0, .int .u8 0, .int .u8 0, .int .u8 0, .int .u8 0, .int .u8 0, .int .u8 0, .int .u8 0, .int .u8 0, .int .u8 0, .int .u8 0, .int .i64 0, .int .i64 0, .int .i64 0, .int .u8 0, .bool false, .bool false, .slice (some ⟨x, 0, none⟩) 0 0], .int .i64 0]) (fun _ => []) := by
  refine Does.enter Tryd.func16 rfl (m := 213) rfl (by simp) ?_
  intro W0 hro
  refine VC.seq ?_
  refine VC.region ?_
  refine VL.eff (O.alloc zo58 (by decide) ?_)
  intro g2
  refine VL.q (Q.assign rfl) ?_
  refine VL.nil ?_
  refine VE.seq ?_
  refine VC.seq ?_
  refine VC.region ?_
  refine VL.q (Q.move rfl) ?_
  refine VL.eff (O.call0 ok32 rfl rfl (by decide) (verify_data D hD p c hc) (fun _ ho _ => hro.only0 ho) ?_)
  intro x22 y22
  obtain ⟨p22, c22⟩ := x22
  refine VK.rowHead (m := 26) zM (by decide) ?_
  intro gr hgr hmc hcm
  dsimp only at hgr hmc hcm
  subst hgr
  refine VL.q (Q.move rfl) ?_
  refine VL.q (Q.extract rfl rfl) ?_
  refine VL.q (Q.extract rfl rfl) ?_
  refine VL.q (Q.assign rfl) ?_
  refine VL.q (Q.assign rfl) ?_
  refine VL.nil ?_
  refine VE.seq ?_
  refine VC.seq ?_
  refine VC.seq ?_
  refine VC.region ?_
  refine VL.q (Q.move rfl) ?_
  refine VL.quietE (v' := .bool false) (by decide) (Q.ne rfl rfl) (by rfl) ?_
  refine VL.nil ?_
  refine VE.seq ?_
  refine VC.condF rfl ?_
  refine VC.skip ?_
  refine VE.seq ?_
  refine VC.seq ?_
  refine VC.region ?_
  refine VL.q (Q.move rfl) ?_
  refine VL.q (Q.build lay86 zF) ?_
  refine VL.eff (O.box rfl rfl (by decide) ?_)
  intro g31
  refine VK.apart (r := .row (.slice (some ⟨gr, 0, none⟩) 26 c22) 5 1 26 [.int .u8 136, .int .u8 0, .int .u8 ((D : Int) % 256), .int .u8 ((D : Int) / 256), .int .u8 2, .int .u8 0, .int .u8 0, .int .u8 0, .int .u8 0, .int .u8 1, .int .u8 2, .int .u8 0, .int .u8 0, .int .u8 0, .int .u8 0, .int .u8 2, .int .u8 0, .int .u8 0, .int .u8 0, .int .u8 0, .int .u8 0, .int .u8 0, .int .u8 0, .int .u8 0, .int .u8 0, .int .u8 0]) (r' := .blk g31 [.slice (some ⟨gr, 0, none⟩) 26 c22, .bool false] 86) (Two.swap zM) ?_
  intro hap
  have hne : gr ≠ g31 := by simpa [Rs.ids, Value.ownBlock] using hap
  refine VL.q (Q.assign rfl) ?_
  refine VL.nil ?_
  refine VE.seq ?_
  refine VC.seq ?_
  refine VC.region ?_
  refine VL.q (Q.move rfl) ?_
  refine VL.eff (O.callB ok33 rfl rfl (by decide) (take_c _ gr 0 26 c22 2 _ (by omega) (by omega) (sliceOff_lt (by omega))) zK (fun _ _ _ => trivial) ?_)
  intro x33 y33
  refine VL.q (Q.assign rfl) ?_
  refine VL.nil ?_
  refine VE.seq ?_
  refine VC.seq ?_
  refine VC.seq ?_
  refine VC.region ?_
  refine VL.q (Q.move rfl) ?_
  refine VL.q (Q.nilCheck rfl) ?_
  refine VL.q (Q.fieldAddr fa86_1 rfl) ?_
  refine VL.q (Q.load1 ty4 rfl zM rfl) ?_
  refine VL.nil ?_
  refine VE.seq ?_
  refine VC.condF rfl ?_
  refine VC.skip ?_
  refine VE.seq ?_
  refine VC.seq ?_
  refine VC.region ?_
  refine VL.q (Q.move rfl) ?_
  refine VL.q (Q.indexAddr sl54 (j := 1) rfl rfl rfl (by omega)) ?_
  refine VL.q (Q.loadRow ty5 rfl zM rfl) ?_
  refine VL.q (Q.assign rfl) ?_
  refine VL.nil ?_
  refine VE.seq ?_
  refine VC.seq ?_
  refine VA.start (Ls := [.row (.slice (some ⟨gr, 0, none⟩) 26 c22) 5 1 26 [.int .u8 136, .int .u8 0, .int .u8 ((D : Int) % 256), .int .u8 ((D : Int) / 256), .int .u8 2, .int .u8 0, .int .u8 0, .int .u8 0, .int .u8 0, .int .u8 1, .int .u8 2, .int .u8 0, .int .u8 0, .int .u8 0, .int .u8 0, .int .u8 2, .int .u8 0, .int .u8 0, .int .u8 0, .int .u8 0, .int .u8 0, .int .u8 0, .int .u8 0, .int .u8 0, .int .u8 0, .int .u8 0]]) (Cs := []) mixed ?_
  refine VA.take 0 rfl (by kernel_rfl) (by kernel_rfl) (by kernel_rfl) (Still.then Still.body) (List.singleton_sublist.2 zM) Cells.nil (by decide) (Quiet.c (Q.move rfl)) ?_
  refine VA.take 1 rfl (by kernel_rfl) (by kernel_rfl) (by kernel_rfl) (Still.then Still.body) (List.singleton_sublist.2 zM) Cells.nil (by decide) (Quiet.c (Q.indexAddr sl54 (j := 0) rfl rfl rfl (by omega))) ?_
  refine VA.take 2 rfl (by kernel_rfl) (by kernel_rfl) (by kernel_rfl) (Still.then Still.body) (List.singleton_sublist.2 zM) Cells.nil (by decide) (Quiet.c (Q.loadRow ty5 rfl zM rfl)) ?_
  refine VA.take 3 rfl (by kernel_rfl) (by kernel_rfl) (by kernel_rfl) (Still.then Still.body) (List.singleton_sublist.2 zM) Cells.nil (by decide) (Quiet.c (Q.shrC (s := 2) (m := 4) rfl rfl (by decide) (by decide))) ?_
  refine VA.take 4 rfl (by kernel_rfl) (by kernel_rfl) (by kernel_rfl) (Still.then Still.body) (List.singleton_sublist.2 zM) Cells.nil (by decide) (Quiet.c (Q.and rfl rfl (by omega) (by simp only [khi]; omega) (by omega) (by simp only [khi]; omega))) ?_
  refine VA.take 5 rfl (by kernel_rfl) (by kernel_rfl) (by kernel_rfl) (Still.then Still.body) (List.singleton_sublist.2 zM) Cells.nil (by decide) (Quiet.c (Q.move rfl)) ?_
  refine VA.take 6 rfl (by kernel_rfl) (by kernel_rfl) (by kernel_rfl) (Still.then Still.body) (List.singleton_sublist.2 zM) Cells.nil (by decide) (Quiet.c (Q.indexAddr sl54 (j := 0) rfl rfl rfl (by omega))) ?_
  refine VA.take 7 rfl (by kernel_rfl) (by kernel_rfl) (by kernel_rfl) (Still.then Still.body) (List.singleton_sublist.2 zM) Cells.nil (by decide) (Quiet.c (Q.loadRow ty5 rfl zM rfl)) ?_
  refine VA.take 8 rfl (by kernel_rfl) (by kernel_rfl) (by kernel_rfl) (Still.then Still.body) (List.singleton_sublist.2 zM) Cells.nil (by decide) (Quiet.c (Q.shrC (s := 4) (m := 16) rfl rfl (by decide) (by decide))) ?_
  refine VA.take 9 rfl (by kernel_rfl) (by kernel_rfl) (by kernel_rfl) (Still.then Still.body) (List.singleton_sublist.2 zM) Cells.nil (by decide) (Quiet.c (Q.build lay50 zF)) ?_
  refine VA.all (rs := [10]) (by kernel_rfl) (by simp) ?_
  refine VA.forall1 ?_
  · skip
    refine VA.eff rfl ?_
    refine id (O.alloc zo50 (by decide) ?_)
    intro g8
    refine VA.next (List.singleton_sublist.2 zM) Cells.nil ?_
    refine VA.all (rs := [11]) (by kernel_rfl) (by simp) ?_
    refine VA.forall1 ?_
    · skip
      refine VA.eff rfl ?_
      refine id (O.store ty50 rfl rfl rfl rfl zU zP ?_)
      refine VA.next (List.singleton_sublist.2 zM) Cells.nil ?_
      refine VA.done (by kernel_rfl) ?_
      refine VE.seq ?_
      refine VC.seq ?_
      refine VC.region ?_
      refine VL.q (Q.fieldAddr fa50_0 rfl) ?_
      refine VL.q (Q.load1 ty5 rfl zM rfl) ?_
      refine VL.q (Q.fieldAddr fa50_1 rfl) ?_
      refine VL.q (Q.load1 ty5 rfl zM rfl) ?_
      refine VL.eff (O.call0 ok34 rfl rfl (by decide) (known_data) (fun _ _ _ => trivial) ?_)
      intro x57 y57
      refine VL.q (Q.move rfl) ?_
      refine VL.q (Q.extract rfl rfl) ?_
      refine VL.q (Q.extract rfl rfl) ?_
      refine VL.eff (O.alloc zo90 (by decide) ?_)
      intro g9
      refine VL.eff (O.store ty90 rfl rfl rfl rfl zU zP ?_)
      refine VL.q (Q.assign rfl) ?_
      refine VL.nil ?_
      refine VE.seq ?_
      refine VC.seq ?_
      refine VC.seq ?_
      refine VK.keep (by exact .cons (i := 2) rfl (.cons (i := 3) rfl (.cons (i := 5) rfl (.cons (i := 6) rfl (.cons (i := 7) rfl (.cons (i := 8) rfl (.cons (i := 9) rfl (.cons (i := 10) rfl ( .nil))))))))) ?_
      refine VC.region ?_
      refine VL.q (Q.move rfl) ?_
      refine VL.quietE (v' := .bool false) (by decide) (Q.not rfl) (by rfl) ?_
      refine VL.q (Q.move rfl) ?_
      refine VL.yes rfl rfl ?_
      refine VL.q (Q.move rfl) ?_
      refine VL.yes rfl rfl ?_
      refine VL.q (Q.indexAddr sl54 (j := 0) rfl rfl rfl (by omega)) ?_
      refine VL.yes rfl rfl ?_
      refine VL.q (Q.loadRow ty5 rfl zM rfl) ?_
      refine VL.yes rfl rfl ?_
      refine VL.quietE (v' := .int .u8 0) (by decide) (Q.and rfl rfl (by omega) (by simp only [khi]; omega) (by omega) (by simp only [khi]; omega)) (by rfl) ?_
      refine VL.yes rfl rfl ?_
      refine VL.quietE (v' := .bool false) (by decide) (Q.ne rfl rfl) (by rfl) ?_
      refine VL.quietE (v' := .bool false) (by decide) (Q.pick_false rfl rfl) (by rfl) ?_
      refine VL.q (Q.move rfl) ?_
      refine VL.yes rfl rfl ?_
      refine VL.q (Q.move rfl) ?_
      refine VL.yes rfl rfl ?_
      refine VL.quietE (v' := .int .u8 0) (by decide) (Q.and rfl rfl (by omega) (by simp only [khi]; omega) (by omega) (by simp only [khi]; omega)) (by rfl) ?_
      refine VL.yes rfl rfl ?_
      refine VL.quietE (v' := .bool false) (by decide) (Q.ne rfl rfl) (by rfl) ?_
      refine VL.quietE (v' := .bool false) (by decide) (Q.pick_false rfl rfl) (by rfl) ?_
      refine VL.nil ?_
      refine VE.seq ?_
      refine VC.condF rfl ?_
      refine VC.skip ?_
      refine VE.seq ?_
      refine VC.seq ?_
      refine VC.region ?_
      refine VL.q (Q.move rfl) ?_
      refine VL.quietE (v' := .int .u8 0) (by decide) (Q.and rfl rfl (by omega) (by simp only [khi]; omega) (by omega) (by simp only [khi]; omega)) (by rfl) ?_
      refine VL.quietE (v' := .bool false) (by decide) (Q.ne rfl rfl) (by rfl) ?_
      refine VL.q (Q.move rfl) ?_
      refine VL.quietE (v' := .int .u8 0) (by decide) (Q.and rfl rfl (by omega) (by simp only [khi]; omega) (by omega) (by simp only [khi]; omega)) (by rfl) ?_
      refine VL.quietE (v' := .bool false) (by decide) (Q.ne rfl rfl) (by rfl) ?_
      refine VL.q (Q.move rfl) ?_
      refine VL.quietE (v' := .int .u8 0) (by decide) (Q.and rfl rfl (by omega) (by simp only [khi]; omega) (by omega) (by simp only [khi]; omega)) (by rfl) ?_
      refine VL.quietE (v' := .bool false) (by decide) (Q.ne rfl rfl) (by rfl) ?_
      refine VL.q (Q.move rfl) ?_
      refine VL.quietE (v' := .int .u8 0) (by decide) (Q.and rfl rfl (by omega) (by simp only [khi]; omega) (by omega) (by simp only [khi]; omega)) (by rfl) ?_
      refine VL.quietE (v' := .bool false) (by decide) (Q.ne rfl rfl) (by rfl) ?_
      refine VL.q (Q.fieldAddr fa50_2 rfl) ?_
      refine VL.eff (O.store ty4 rfl rfl rfl rfl zU zP ?_)
      refine VL.q (Q.fieldAddr fa50_3 rfl) ?_
      refine VL.eff (O.store ty4 rfl rfl rfl rfl zU zP ?_)
      refine VL.q (Q.fieldAddr fa50_4 rfl) ?_
      refine VL.eff (O.store ty4 rfl rfl rfl rfl zU zP ?_)
      refine VL.q (Q.fieldAddr fa50_5 rfl) ?_
      refine VL.eff (O.store ty4 rfl rfl rfl rfl zU zP ?_)
      refine VL.nil ?_
      refine VE.seq ?_
      refine VC.seq ?_
      refine VC.region ?_
      refine VL.q (Q.move rfl) ?_
      refine VL.quietE (v' := .int .u8 0) (by decide) (Q.and rfl rfl (by omega) (by simp only [khi]; omega) (by omega) (by simp only [khi]; omega)) (by rfl) ?_
      refine VL.quietE (v' := .bool false) (by decide) (Q.ne rfl rfl) (by rfl) ?_
      refine VL.q (Q.move rfl) ?_
      refine VL.quietE (v' := .int .u8 0) (by decide) (Q.and rfl rfl (by omega) (by simp only [khi]; omega) (by omega) (by simp only [khi]; omega)) (by rfl) ?_
      refine VL.quietE (v' := .bool false) (by decide) (Q.ne rfl rfl) (by rfl) ?_
      refine VL.q (Q.move rfl) ?_
      refine VL.quietE (v' := .int .u8 0) (by decide) (Q.and rfl rfl (by omega) (by simp only [khi]; omega) (by omega) (by simp only [khi]; omega)) (by rfl) ?_
      refine VL.quietE (v' := .bool false) (by decide) (Q.ne rfl rfl) (by rfl) ?_
      refine VL.q (Q.fieldAddr fa50_6 rfl) ?_
      refine VL.eff (O.store ty4 rfl rfl rfl rfl zU zP ?_)
      refine VL.q (Q.fieldAddr fa50_7 rfl) ?_
      refine VL.eff (O.store ty4 rfl rfl rfl rfl zU zP ?_)
      refine VL.q (Q.fieldAddr fa50_8 rfl) ?_
      refine VL.eff (O.store ty4 rfl rfl rfl rfl zU zP ?_)
      refine VL.nil ?_
      refine VE.seq ?_
      refine VC.seq ?_
      refine VK.keep (by exact .cons (i := 2) rfl (.cons (i := 3) rfl (.cons (i := 5) rfl (.cons (i := 8) rfl (.cons (i := 9) rfl ( .nil)))))) ?_
      refine VC.region ?_
      refine VL.q (Q.move rfl) ?_
      refine VL.eff (O.callB ok35 rfl rfl (by decide) (two_c _ gr 2 24 (c22 - 2) _ ((D : Int) % 256) ((D : Int) / 256) (D : Int) (by omega) (by omega) (by omega) hne (by omega) (by omega) (sliceOff_lt (by omega))) zK (fun _ _ hw => Rd.rowP hw zM zS) ?_)
      intro x104 y104
      refine VL.q (Q.fieldAddr fa50_9 rfl) ?_
      refine VL.eff (O.store ty3 rfl rfl rfl rfl zU zP ?_)
      refine VL.nil ?_
      refine VE.seq ?_
      refine VC.seq ?_
      refine VC.region ?_
      refine VL.eff (O.call0 ok36 rfl rfl (by decide) (places_data _) (fun _ _ hw => Rd.seg hw zM zS) ?_)
      intro x107 y107
      refine VL.q (Q.move rfl) ?_
      refine VL.q (Q.extract rfl rfl) ?_
      refine VL.q (Q.extract rfl rfl) ?_
      refine VL.q (Q.assign rfl) ?_
      refine VL.q (Q.assign rfl) ?_
      refine VL.nil ?_
      refine VE.seq ?_
      refine VC.seq ?_
      refine VC.seq ?_
      refine VC.region ?_
      refine VL.q (Q.move rfl) ?_
      refine VL.q (Q.len sl93 rfl) ?_
      refine VL.q (Q.move rfl) ?_
      refine VL.nil ?_
      refine VE.seq ?_
      refine VC.block ?_
      refine VC.rounds 40 ?_
      refine VC.rnd (m := 39) ?_
      refine VC.seq ?_
      refine VC.region ?_
      refine VL.q (Q.lt rfl rfl) ?_
      refine VL.nil ?_
      refine VE.seq ?_
      refine VC.seq ?_
      refine VC.condT rfl ?_
      refine VC.skip ?_
      refine VE.seq ?_
      refine VC.seq ?_
      refine VC.block ?_
      refine VC.seq ?_
      refine VC.region ?_
      refine VL.q (Q.indexAddr sl93 (j := 0) rfl rfl rfl (by omega)) ?_
      refine VL.q (Q.load1 ty97 rfl zM rfl) ?_
      refine VL.q (Q.assign rfl) ?_
      refine VL.nil ?_
      refine VE.seq ?_
      refine VA.start (Ls := []) (Cs := []) mixed ?_
      refine VA.take 0 rfl (by kernel_rfl) (by kernel_rfl) (by kernel_rfl) (Still.block (Still.then (Still.then (Still.block (Still.then Still.body))))) (List.nil_sublist _) Cells.nil (by decide) (Quiet.c (Q.move rfl)) ?_
      refine VA.take 1 rfl (by kernel_rfl) (by kernel_rfl) (by kernel_rfl) (Still.block (Still.then (Still.then (Still.block (Still.then Still.body))))) (List.nil_sublist _) Cells.nil (by decide) (Quiet.c (Q.nilCheck rfl)) ?_
      refine VA.take 2 rfl (by kernel_rfl) (by kernel_rfl) (by kernel_rfl) (Still.block (Still.then (Still.then (Still.block (Still.then Still.body))))) (List.nil_sublist _) Cells.nil (by decide) (Quiet.c (Q.slcA0 ar43 (h := _) rfl rfl (by omega))) ?_
      refine VA.take 3 rfl (by kernel_rfl) (by kernel_rfl) (by kernel_rfl) (Still.block (Still.then (Still.then (Still.block (Still.then Still.body))))) (List.nil_sublist _) Cells.nil (by decide) (Quiet.c (Q.move rfl)) ?_
      refine VA.all (rs := [4]) (by kernel_rfl) (by simp) ?_
      refine VA.forall1 ?_
      · skip
        refine VA.eff rfl ?_
        refine id (O.callB ok33 rfl rfl (by decide) (take_c _ gr 4 22 ((c22 - 2) - 2) 6 _ (by omega) (by omega) (sliceOff_lt (by omega))) zK (fun _ _ _ => trivial) ?_)
        intro x120 y120
        refine VA.next (List.nil_sublist _) Cells.nil ?_
        refine VA.all (rs := [5]) (by kernel_rfl) (by simp) ?_
        refine VA.forall1 ?_
        · skip
          refine VA.eff rfl ?_
          refine id (O.copyR sl54 rfl rfl zM zS rfl (by decide) zU zP ?_)
          refine VA.next (List.nil_sublist _) Cells.nil ?_
          refine VA.done (by kernel_rfl) ?_
          refine VE.block_normal ?_
          refine VE.seq ?_
          refine VC.region ?_
          refine VL.quietE (v' := .int .i64 1) (by decide) ((by first | exact Q.addI rfl rfl (by omega) (by omega) | exact Q.add rfl rfl)) (by rfl) ?_
          refine VL.q (Q.move rfl) ?_
          refine VL.nil ?_
          refine VE.then_normal ?_
          refine VC.rnd (m := 38) ?_
          refine VC.seq ?_
          refine VC.region ?_
          refine VL.q (Q.lt rfl rfl) ?_
          refine VL.nil ?_
          refine VE.seq ?_
          refine VC.seq ?_
          refine VC.condT rfl ?_
          refine VC.skip ?_
          refine VE.seq ?_
          refine VC.seq ?_
          refine VC.block ?_
          refine VC.seq ?_
          refine VC.region ?_
          refine VL.q (Q.indexAddr sl93 (j := 1) rfl rfl rfl (by omega)) ?_
          refine VL.q (Q.load1 ty97 rfl zM rfl) ?_
          refine VL.q (Q.assign rfl) ?_
          refine VL.nil ?_
          refine VE.seq ?_
          refine VA.start (Ls := []) (Cs := []) mixed ?_
          refine VA.take 0 rfl (by kernel_rfl) (by kernel_rfl) (by kernel_rfl) (Still.block (Still.then (Still.then (Still.block (Still.then Still.body))))) (List.nil_sublist _) Cells.nil (by decide) (Quiet.c (Q.move rfl)) ?_
          refine VA.take 1 rfl (by kernel_rfl) (by kernel_rfl) (by kernel_rfl) (Still.block (Still.then (Still.then (Still.block (Still.then Still.body))))) (List.nil_sublist _) Cells.nil (by decide) (Quiet.c (Q.nilCheck rfl)) ?_
          refine VA.take 2 rfl (by kernel_rfl) (by kernel_rfl) (by kernel_rfl) (Still.block (Still.then (Still.then (Still.block (Still.then Still.body))))) (List.nil_sublist _) Cells.nil (by decide) (Quiet.c (Q.slcA0 ar43 (h := _) rfl rfl (by omega))) ?_
          refine VA.take 3 rfl (by kernel_rfl) (by kernel_rfl) (by kernel_rfl) (Still.block (Still.then (Still.then (Still.block (Still.then Still.body))))) (List.nil_sublist _) Cells.nil (by decide) (Quiet.c (Q.move rfl)) ?_
          refine VA.all (rs := [4]) (by kernel_rfl) (by simp) ?_
          refine VA.forall1 ?_
          · skip
            refine VA.eff rfl ?_
            refine id (O.callB ok33 rfl rfl (by decide) (take_c _ gr 10 16 (((c22 - 2) - 2) - 6) 6 _ (by omega) (by omega) (sliceOff_lt (by omega))) zK (fun _ _ _ => trivial) ?_)
            intro x120_1 y120_1
            refine VA.next (List.nil_sublist _) Cells.nil ?_
            refine VA.all (rs := [5]) (by kernel_rfl) (by simp) ?_
            refine VA.forall1 ?_
            · skip
              refine VA.eff rfl ?_
              refine id (O.copyR sl54 rfl rfl zM zS rfl (by decide) zU zP ?_)
              refine VA.next (List.nil_sublist _) Cells.nil ?_
              refine VA.done (by kernel_rfl) ?_
              refine VE.block_normal ?_
              refine VE.seq ?_
              refine VC.region ?_
              refine VL.quietE (v' := .int .i64 2) (by decide) ((by first | exact Q.addI rfl rfl (by omega) (by omega) | exact Q.add rfl rfl)) (by rfl) ?_
              refine VL.q (Q.move rfl) ?_
              refine VL.nil ?_
              refine VE.then_normal ?_
              refine VC.rnd (m := 37) ?_
              refine VC.seq ?_
              refine VC.region ?_
              refine VL.q (Q.lt rfl rfl) ?_
              refine VL.nil ?_
              refine VE.seq ?_
              refine VC.seq ?_
              refine VC.condT rfl ?_
              refine VC.skip ?_
              refine VE.seq ?_
              refine VC.seq ?_
              refine VC.block ?_
              refine VC.seq ?_
              refine VC.region ?_
              refine VL.q (Q.indexAddr sl93 (j := 2) rfl rfl rfl (by omega)) ?_
              refine VL.q (Q.load1 ty97 rfl zM rfl) ?_
              refine VL.q (Q.assign rfl) ?_
              refine VL.nil ?_
              refine VE.seq ?_
              refine VA.start (Ls := []) (Cs := []) mixed ?_
              refine VA.take 0 rfl (by kernel_rfl) (by kernel_rfl) (by kernel_rfl) (Still.block (Still.then (Still.then (Still.block (Still.then Still.body))))) (List.nil_sublist _) Cells.nil (by decide) (Quiet.c (Q.move rfl)) ?_
              refine VA.take 1 rfl (by kernel_rfl) (by kernel_rfl) (by kernel_rfl) (Still.block (Still.then (Still.then (Still.block (Still.then Still.body))))) (List.nil_sublist _) Cells.nil (by decide) (Quiet.c (Q.nilCheck rfl)) ?_
              refine VA.take 2 rfl (by kernel_rfl) (by kernel_rfl) (by kernel_rfl) (Still.block (Still.then (Still.then (Still.block (Still.then Still.body))))) (List.nil_sublist _) Cells.nil (by decide) (Quiet.c (Q.slcA0 ar43 (h := _) rfl rfl (by omega))) ?_
              refine VA.take 3 rfl (by kernel_rfl) (by kernel_rfl) (by kernel_rfl) (Still.block (Still.then (Still.then (Still.block (Still.then Still.body))))) (List.nil_sublist _) Cells.nil (by decide) (Quiet.c (Q.move rfl)) ?_
              refine VA.all (rs := [4]) (by kernel_rfl) (by simp) ?_
              refine VA.forall1 ?_
              · skip
                refine VA.eff rfl ?_
                refine id (O.callB ok33 rfl rfl (by decide) (take_c _ gr 16 10 ((((c22 - 2) - 2) - 6) - 6) 6 _ (by omega) (by omega) (sliceOff_lt (by omega))) zK (fun _ _ _ => trivial) ?_)
                intro x120_2 y120_2
                refine VA.next (List.nil_sublist _) Cells.nil ?_
                refine VA.all (rs := [5]) (by kernel_rfl) (by simp) ?_
                refine VA.forall1 ?_
                · skip
                  refine VA.eff rfl ?_
                  refine id (O.copyR sl54 rfl rfl zM zS rfl (by decide) zU zP ?_)
                  refine VA.next (List.nil_sublist _) Cells.nil ?_
                  refine VA.done (by kernel_rfl) ?_
                  refine VE.block_normal ?_
                  refine VE.seq ?_
                  refine VC.region ?_
                  refine VL.quietE (v' := .int .i64 3) (by decide) ((by first | exact Q.addI rfl rfl (by omega) (by omega) | exact Q.add rfl rfl)) (by rfl) ?_
                  refine VL.q (Q.move rfl) ?_
                  refine VL.nil ?_
                  refine VE.then_normal ?_
                  refine VC.rnd (m := 36) ?_
                  refine VC.seq ?_
                  refine VC.region ?_
                  refine VL.q (Q.lt rfl rfl) ?_
                  refine VL.nil ?_
                  refine VE.seq ?_
                  refine VC.seq ?_
                  refine VC.condF rfl ?_
                  refine VC.exit ?_
                  refine VE.then_exit ?_
                  refine VE.then_exit ?_
                  refine VE.block_here ?_
                  refine VE.seq ?_
                  refine VC.seq ?_
                  refine VC.seq ?_
                  refine VC.region ?_
                  refine VL.q (Q.fieldAddr fa90_1 rfl) ?_
                  refine VL.q (Q.load1 ty4 rfl zM rfl) ?_
                  refine VL.nil ?_
                  refine VE.seq ?_
                  refine VC.condT rfl ?_
                  refine VC.seq ?_
                  refine VC.region ?_
                  refine VL.q (Q.move rfl) ?_
                  refine VL.eff (O.callB ok35 rfl rfl (by decide) (two_c _ gr 22 4 (((((c22 - 2) - 2) - 6) - 6) - 6) _ 0 0 0 (by omega) (by omega) (by omega) hne (by omega) (by omega) (sliceOff_lt (by omega))) zK (fun _ _ hw => Rd.rowP hw zM zS) ?_)
                  intro x126 y126
                  refine VL.q (Q.assign rfl) ?_
                  refine VL.nil ?_
                  refine VE.seq ?_
                  refine VC.region ?_
                  refine VL.q (Q.move rfl) ?_
                  refine VL.quietE (v' := .int .i64 0) (by decide) (Q.and rfl rfl (by omega) (by simp only [khi]; omega) (by omega) (by simp only [khi]; omega)) (by rfl) ?_
                  refine VL.q (Q.move rfl) ?_
                  refine VL.quietE (v' := .int .i64 0) (by decide) (Q.shrC (s := 4) (m := 16) rfl rfl (by decide) (by decide)) (by rfl) ?_
                  refine VL.q (Q.fieldAddr fa50_15 rfl) ?_
                  refine VL.eff (O.store ty3 rfl rfl rfl rfl zU zP ?_)
                  refine VL.q (Q.fieldAddr fa50_14 rfl) ?_
                  refine VL.eff (O.store ty3 rfl rfl rfl rfl zU zP ?_)
                  refine VL.nil ?_
                  refine VE.seq ?_
                  refine VC.seq ?_
                  refine VC.seq ?_
                  refine VC.region ?_
                  refine VL.q (Q.move rfl) ?_
                  refine VL.q (Q.len sl93 rfl) ?_
                  refine VL.q (Q.move rfl) ?_
                  refine VL.nil ?_
                  refine VE.seq ?_
                  refine VC.block ?_
                  refine VC.rounds 40 ?_
                  refine VC.rnd (m := 39) ?_
                  refine VC.seq ?_
                  refine VK.keep (by exact .cons (i := 2) rfl (.cons (i := 3) rfl (.cons (i := 5) rfl (.cons (i := 8) rfl (.cons (i := 9) rfl (.cons (i := 133) rfl (.cons (i := 134) rfl (.cons (i := 135) rfl ( .nil))))))))) ?_
                  refine VC.region ?_
                  refine VL.q (Q.lt rfl rfl) ?_
                  refine VL.nil ?_
                  refine VE.seq ?_
                  refine VC.seq ?_
                  refine VC.condF rfl ?_
                  refine VC.exit ?_
                  refine VE.then_exit ?_
                  refine VE.then_exit ?_
                  refine VE.block_here ?_
                  refine VE.seq ?_
                  refine VC.seq ?_
                  refine VC.region ?_
                  refine VL.q (Q.assign rfl) ?_
                  refine VL.nil ?_
                  refine VE.seq ?_
                  refine VC.seq ?_
                  refine VC.seq ?_
                  refine VC.region ?_
                  refine VL.q (Q.fieldAddr fa90_2 rfl) ?_
                  refine VL.q (Q.load1 ty4 rfl zM rfl) ?_
                  refine VL.nil ?_
                  refine VE.seq ?_
                  refine VC.condT rfl ?_
                  refine VC.seq ?_
                  refine VC.region ?_
                  refine VL.q (Q.move rfl) ?_
                  refine VL.eff (O.callB ok35 rfl rfl (by decide) (two_c _ gr 24 2 ((((((c22 - 2) - 2) - 6) - 6) - 6) - 2) _ 0 0 0 (by omega) (by omega) (by omega) hne (by omega) (by omega) rfl) zK (fun _ _ hw => Rd.rowP hw zM zS) ?_)
                  intro x149 y149
                  refine VL.q (Q.assign rfl) ?_
                  refine VL.nil ?_
                  refine VE.seq ?_
                  refine VC.seq ?_
                  refine VC.region ?_
                  refine VL.q (Q.move rfl) ?_
                  refine VL.quietE (v' := .int .i64 0) (by decide) (Q.and rfl rfl (by omega) (by simp only [khi]; omega) (by omega) (by simp only [khi]; omega)) (by rfl) ?_
                  refine VL.q (Q.move rfl) ?_
                  refine VL.quietE (v' := .int .i64 0) (by decide) (Q.and rfl rfl (by omega) (by simp only [khi]; omega) (by omega) (by simp only [khi]; omega)) (by rfl) ?_
                  refine VL.quietE (v' := .bool false) (by decide) (Q.ne rfl rfl) (by rfl) ?_
                  refine VL.q (Q.move rfl) ?_
                  refine VL.quietE (v' := .int .i64 0) (by decide) (Q.quo rfl rfl (by omega) (by omega) (by simp only [khi]; omega)) (by rfl) ?_
                  refine VL.quietE (v' := .int .i64 0) (by decide) (Q.and rfl rfl (by omega) (by simp only [khi]; omega) (by omega) (by simp only [khi]; omega)) (by rfl) ?_
                  refine VL.quietE (v' := .int .u8 0) (by decide) ((by first | exact Q.convF ti3 ti5 rfl (by simp only [klo]; omega) (by simp only [khi]; omega) | exact Q.convM (M := 256) ti3 ti5 rfl rfl rfl | exact Q.conv ti3 ti5 rfl)) (by rfl) ?_
                  refine VL.q (Q.move rfl) ?_
                  refine VL.quietE (v' := .int .i64 0) (by decide) (Q.and rfl rfl (by omega) (by simp only [khi]; omega) (by omega) (by simp only [khi]; omega)) (by rfl) ?_
                  refine VL.quietE (v' := .bool false) (by decide) (Q.ne rfl rfl) (by rfl) ?_
                  refine VL.q (Q.fieldAddr fa50_16 rfl) ?_
                  refine VL.eff (O.store ty3 rfl rfl rfl rfl zU zP ?_)
                  refine VL.q (Q.fieldAddr fa50_19 rfl) ?_
                  refine VL.eff (O.store ty4 rfl rfl rfl rfl zU zP ?_)
                  refine VL.q (Q.fieldAddr fa50_17 rfl) ?_
                  refine VL.eff (O.store ty5 rfl rfl rfl rfl zU zP ?_)
                  refine VL.q (Q.fieldAddr fa50_18 rfl) ?_
                  refine VL.eff (O.store ty4 rfl rfl rfl rfl zU zP ?_)
                  refine VL.nil ?_
                  refine VE.seq ?_
                  refine VC.region ?_
                  refine VL.q (Q.move rfl) ?_
                  refine VL.quietE (v' := .int .i64 0) (by decide) (Q.and rfl rfl (by omega) (by simp only [khi]; omega) (by omega) (by simp only [khi]; omega)) (by rfl) ?_
                  refine VL.quietE (v' := .bool false) (by decide) (Q.ne rfl rfl) (by rfl) ?_
                  refine VL.q (Q.move rfl) ?_
                  refine VL.yes rfl rfl ?_
                  refine VL.q (Q.move rfl) ?_
                  refine VL.yes rfl rfl ?_
                  refine VL.quietE (v' := .int .i64 0) (by decide) (Q.shrC (s := 8) (m := 256) rfl rfl (by decide) (by decide)) (by rfl) ?_
                  refine VL.yes rfl rfl ?_
                  refine VL.quietE (v' := .bool false) (by decide) (Q.ne rfl rfl) (by rfl) ?_
                  refine VL.quietE (v' := .bool false) (by decide) (Q.pick_false rfl rfl) (by rfl) ?_
                  refine VL.q (Q.assign rfl) ?_
                  refine VL.nil ?_
                  refine VE.seq ?_
                  refine VC.seq ?_
                  refine VC.seq ?_
                  refine VC.region ?_
                  refine VL.q (Q.move rfl) ?_
                  refine VL.q (Q.nilCheck rfl) ?_
                  refine VL.q (Q.fieldAddr fa86_1 rfl) ?_
                  refine VL.q (Q.load1 ty4 rfl zM rfl) ?_
                  refine VL.nil ?_
                  refine VE.seq ?_
                  refine VC.condF rfl ?_
                  refine VC.skip ?_
                  refine VE.seq ?_
                  refine VC.seq ?_
                  refine VC.seq ?_
                  refine VK.keep (by exact .cons (i := 2) rfl (.cons (i := 3) rfl (.cons (i := 5) rfl (.cons (i := 8) rfl (.cons (i := 18) rfl ( .nil)))))) ?_
                  refine VC.region ?_
                  refine VL.q (Q.move rfl) ?_
                  refine VL.q (Q.move rfl) ?_
                  refine VL.yes rfl rfl ?_
                  refine VL.q (Q.loadA ty50 rfl zM zS) ?_
                  refine VL.yes rfl rfl ?_
                  refine VL.eff (O.call0 ok28 rfl rfl (by decide) (check_data D hD) (fun _ _ _ => trivial) ?_)
                  intro x182 y182
                  refine VL.yes rfl rfl ?_
                  refine VL.quietE (v' := .bool false) (by decide) (Q.ne rfl rfl) (by rfl) ?_
                  refine VL.quietE (v' := .bool false) (by decide) (Q.pick_false rfl rfl) (by rfl) ?_
                  refine VL.q (Q.move rfl) ?_
                  refine VL.yes rfl rfl ?_
                  refine VL.q (Q.loadA ty50 rfl zM zS) ?_
                  refine VL.yes rfl rfl ?_
                  refine VL.eff (O.call0 ok29 rfl rfl (by decide) (bare_data D) (fun _ _ _ => trivial) ?_)
                  intro x187 y187
                  refine VL.yes rfl rfl ?_
                  refine VL.q (Q.move rfl) ?_
                  refine VL.no (by simp) rfl rfl (.inl rfl) ?_
                  refine VL.no (by simp) rfl rfl (.inl rfl) ?_
                  refine VL.no (by simp) rfl rfl (.inl rfl) ?_
                  refine VL.no (by simp) rfl rfl (.inl rfl) ?_
                  refine VL.no (by simp) rfl rfl (.inl rfl) ?_
                  refine VL.no (by simp) rfl rfl (.inl rfl) ?_
                  refine VL.yes rfl rfl ?_
                  refine VL.quietE (v' := .bool false) (by decide) (Q.pick_false rfl rfl) (by rfl) ?_
                  refine VL.quietE (v' := .bool false) (by decide) (Q.pick_false rfl rfl) (by rfl) ?_
                  refine VL.nil ?_
                  refine VE.seq ?_
                  refine VC.condF rfl ?_
                  refine VC.skip ?_
                  refine VE.seq ?_
                  refine VC.seq ?_
                  refine VC.seq ?_
                  refine VC.region ?_
                  refine VL.q (Q.move rfl) ?_
                  refine VL.q (Q.nilCheck rfl) ?_
                  refine VL.q (Q.fieldAddr fa86_0 rfl) ?_
                  refine VL.q (Q.load1 ty54 rfl zM rfl) ?_
                  refine VL.q (Q.len sl54 rfl) ?_
                  refine VL.quietE (v' := .bool false) (by decide) (Q.gt rfl rfl) (by rfl) ?_
                  refine VL.nil ?_
                  refine VE.seq ?_
                  refine VC.condF rfl ?_
                  refine VC.skip ?_
                  refine VE.seq ?_
                  refine VC.seq ?_
                  refine VA.start (Ls := [.blk g31 [.slice (some ⟨gr, sliceOff ((((((c22 - 2) - 2) - 6) - 6) - 6) - 2) 2 24 1, none⟩) (2 - 2) (((((((c22 - 2) - 2) - 6) - 6) - 6) - 2) - 2), .bool false] 86, .blk g8 [.int .u8 2, .int .u8 8, .bool false, .bool false, .bool false, .bool false, .bool false, .bool false, .bool false, .int .i64 (D : Int), .int .u8 2, .int .u8 0, .int .u8 0, .int .u8 0, .int .u8 0, .int .u8 1, .int .u8 2, .int .u8 0, .int .u8 0, .int .u8 0, .int .u8 0, .int .u8 2, .int .u8 0, .int .u8 0, .int .u8 0, .int .u8 0, .int .u8 0, .int .u8 0, .int .u8 0, .int .u8 0, .int .u8 0, .int .u8 0, .int .u8 0, .int .u8 0, .int .i64 0, .int .i64 0, .int .i64 0, .int .u8 0, .bool false, .bool false] 50]) (Cs := []) mixed ?_
                  refine VA.take 0 rfl (by kernel_rfl) (by kernel_rfl) (by kernel_rfl) (Still.then Still.body) zB Cells.nil (by decide) (Quiet.c (Q.loadA ty50 rfl zM zS)) ?_
                  refine VA.take 2 rfl (by kernel_rfl) (by kernel_rfl) (by kernel_rfl) (Still.then Still.body) zB Cells.nil (by decide) (Quiet.c (Q.move rfl)) ?_
                  refine VA.take 3 rfl (by kernel_rfl) (by kernel_rfl) (by kernel_rfl) (Still.then Still.body) zB Cells.nil (by decide) (Quiet.c (Q.nilCheck rfl)) ?_
                  refine VA.take 4 rfl (by kernel_rfl) (by kernel_rfl) (by kernel_rfl) (Still.then Still.body) zB Cells.nil (by decide) (Quiet.c (Q.fieldAddr fa86_0 rfl)) ?_
                  refine VA.take 5 rfl (by kernel_rfl) (by kernel_rfl) (by kernel_rfl) (Still.then Still.body) zB Cells.nil (by decide) (Quiet.c (Q.load1 ty54 rfl zM rfl)) ?_
                  refine VA.all (rs := [1]) (by kernel_rfl) (by simp) ?_
                  refine VA.forall1 ?_
                  · skip
                    refine VA.eff rfl ?_
                    refine id (O.buildSlice0 sl54 (by decide) ?_)
                    intro g206
                    refine VA.next zB Cells.nil ?_
                    refine VA.take 6 rfl (by kernel_rfl) (by kernel_rfl) (by kernel_rfl) (Still.then Still.body) zB Cells.nil (by decide) (Quiet.c (Q.append0 sl54 rfl rfl (by omega))) ?_
                    refine VA.take 7 rfl (by kernel_rfl) (by kernel_rfl) (by kernel_rfl) (Still.then Still.body) zB Cells.nil (by decide) (Quiet.c (Q.build lay58 zF)) ?_
                    refine VA.all (rs := [8]) (by kernel_rfl) (by simp) ?_
                    refine VA.forall1 ?_
                    · skip
                      refine VA.eff rfl ?_
                      refine id (O.store ty58 rfl rfl rfl rfl zU zP ?_)
                      refine VA.next zB Cells.nil ?_
                      refine VA.take 9 rfl (by kernel_rfl) (by kernel_rfl) (by kernel_rfl) (Still.then Still.body) zB Cells.nil (by decide) (Quiet.c (Q.assign rfl)) ?_
                      refine VA.done (by kernel_rfl) ?_
                      refine VE.seq ?_
                      refine VC.ret ?_
                      exact VE.ret rfl (.cell ty58 rfl zM rfl (.tmp rfl .nil)) g206 trivial rfl (List.nil_sublist _)

theorem verify_ack (D : Nat) (hD : D ≤ 32767) (p : Option Addr) (c : Nat) (hc : 14 ≤ c) : Does Tryd.prog 32 [.slice p 14 c] [] (fun W => Rd W p (bs (hb_ack D ++ crcBytes (hb_ack D)))) (X := Option Addr × Nat) (fun x => 10 ≤ x.2) (fun x => .tuple #[.slice x.1 10 x.2, .int .i64 0]) (fun x => [.row (.slice x.1 10 x.2) 5 1 10 [.int .u8 212, .int .u8 0, .int .u8 ((D : Int) % 256), .int .u8 ((D : Int) / 256), .int .u8 2, .int .u8 0, .int .u8 0, .int .u8 0, .int .u8 0, .int .u8 2]]) := by
  have h := verify_c p 14 c (hb_ack D ++ crcBytes (hb_ack D)) rfl (by decide) hc
  rw [verifyP_crc] at h
  dsimp only at h
  rw [hbs_ack D hD] at h
  exact h

theorem decode_ack (D : Nat) (hD : D ≤ 32767) (p : Option Addr) (c : Nat) (hc : 14 ≤ c) :
    Does Tryd.prog 16 [.slice p 14 c] [] (fun W => Rd W p (bs (hb_ack D ++ crcBytes (hb_ack D)))) (X := Nat) (fun _ => True) (fun x => .tuple #[.agg #[.int .u8 1, .int .u8 13, .bool false, .bool false, .bool false, .bool false, .bool false, .bool false, .bool false, .int .i64 (D : Int), .int .u8 2, .int .u8 0, .int .u8 0, .int .u8 0, .int .u8 0, .int .u8 2, .int .u8 0, .int .u8 0, .int .u8 0, .int .u8 0, .int .u8 0, .int .u8 0, .int .u8 0, .int .u8 0, .int .u8 0, .int .u8 0, .int .u8 0, .int .u8 0, .int .u8 0, .int .u8 0, .int .u8 0, .int .u8 0, .int .u8 0, .int .u8 0, .int .i64 0, .int .i64 0, .int .i64 0, .int .u8 0, .bool false, .bool false, .slice (some ⟨x, 0, none⟩) 0 0], .int .i64 0]) (fun _ => []) := by
  refine Does.enter Tryd.func16 rfl (m := 213) rfl (by simp) ?_
  intro W0 hro
  refine VC.seq ?_
  refine VC.region ?_
  refine VL.eff (O.alloc zo58 (by decide) ?_)
  intro g2
  refine VL.q (Q.assign rfl) ?_
  refine VL.nil ?_
  refine VE.seq ?_
  refine VC.seq ?_
  refine VC.region ?_
  refine VL.q (Q.move rfl) ?_
  refine VL.eff (O.call0 ok32 rfl rfl (by decide) (verify_ack D hD p c hc) (fun _ ho _ => hro.only0 ho) ?_)
  intro x22 y22
  obtain ⟨p22, c22⟩ := x22
  refine VK.rowHead (m := 10) zM (by decide) ?_
  intro gr hgr hmc hcm
  dsimp only at hgr hmc hcm
  subst hgr
  refine VL.q (Q.move rfl) ?_
  refine VL.q (Q.extract rfl rfl) ?_
  refine VL.q (Q.extract rfl rfl) ?_
  refine VL.q (Q.assign rfl) ?_
  refine VL.q (Q.assign rfl) ?_
  refine VL.nil ?_
  refine VE.seq ?_
  refine VC.seq ?_
  refine VC.seq ?_
  refine VC.region ?_
  refine VL.q (Q.move rfl) ?_
  refine VL.quietE (v' := .bool false) (by decide) (Q.ne rfl rfl) (by rfl) ?_
  refine VL.nil ?_
  refine VE.seq ?_
  refine VC.condF rfl ?_
  refine VC.skip ?_
  refine VE.seq ?_
  refine VC.seq ?_
  refine VC.region ?_
  refine VL.q (Q.move rfl) ?_
  refine VL.q (Q.build lay86 zF) ?_
  refine VL.eff (O.box rfl rfl (by decide) ?_)
  intro g31
  refine VK.apart (r := .row (.slice (some ⟨gr, 0, none⟩) 10 c22) 5 1 10 [.int .u8 212, .int .u8 0, .int .u8 ((D : Int) % 256), .int .u8 ((D : Int) / 256), .int .u8 2, .int .u8 0, .int .u8 0, .int .u8 0, .int .u8 0, .int .u8 2]) (r' := .blk g31 [.slice (some ⟨gr, 0, none⟩) 10 c22, .bool false] 86) (Two.swap zM) ?_
  intro hap
  have hne : gr ≠ g31 := by simpa [Rs.ids, Value.ownBlock] using hap
  refine VL.q (Q.assign rfl) ?_
  refine VL.nil ?_
  refine VE.seq ?_
  refine VC.seq ?_
  refine VC.region ?_
  refine VL.q (Q.move rfl) ?_
  refine VL.eff (O.callB ok33 rfl rfl (by decide) (take_c _ gr 0 10 c22 2 _ (by omega) (by omega) (sliceOff_lt (by omega))) zK (fun _ _ _ => trivial) ?_)
  intro x33 y33
  refine VL.q (Q.assign rfl) ?_
  refine VL.nil ?_
  refine VE.seq ?_
  refine VC.seq ?_
  refine VC.seq ?_
  refine VC.region ?_
  refine VL.q (Q.move rfl) ?_
  refine VL.q (Q.nilCheck rfl) ?_
  refine VL.q (Q.fieldAddr fa86_1 rfl) ?_
  refine VL.q (Q.load1 ty4 rfl zM rfl) ?_
  refine VL.nil ?_
  refine VE.seq ?_
  refine VC.condF rfl ?_
  refine VC.skip ?_
  refine VE.seq ?_
  refine VC.seq ?_
  refine VC.region ?_
  refine VL.q (Q.move rfl) ?_
  refine VL.q (Q.indexAddr sl54 (j := 1) rfl rfl rfl (by omega)) ?_
  refine VL.q (Q.loadRow ty5 rfl zM rfl) ?_
  refine VL.q (Q.assign rfl) ?_
  refine VL.nil ?_
  refine VE.seq ?_
  refine VC.seq ?_
  refine VA.start (Ls := [.row (.slice (some ⟨gr, 0, none⟩) 10 c22) 5 1 10 [.int .u8 212, .int .u8 0, .int .u8 ((D : Int) % 256), .int .u8 ((D : Int) / 256), .int .u8 2, .int .u8 0, .int .u8 0, .int .u8 0, .int .u8 0, .int .u8 2]]) (Cs := []) mixed ?_
  refine VA.take 0 rfl (by kernel_rfl) (by kernel_rfl) (by kernel_rfl) (Still.then Still.body) (List.singleton_sublist.2 zM) Cells.nil (by decide) (Quiet.c (Q.move rfl)) ?_
  refine VA.take 1 rfl (by kernel_rfl) (by kernel_rfl) (by kernel_rfl) (Still.then Still.body) (List.singleton_sublist.2 zM) Cells.nil (by decide) (Quiet.c (Q.indexAddr sl54 (j := 0) rfl rfl rfl (by omega))) ?_
  refine VA.take 2 rfl (by kernel_rfl) (by kernel_rfl) (by kernel_rfl) (Still.then Still.body) (List.singleton_sublist.2 zM) Cells.nil (by decide) (Quiet.c (Q.loadRow ty5 rfl zM rfl)) ?_
  refine VA.take 3 rfl (by kernel_rfl) (by kernel_rfl) (by kernel_rfl) (Still.then Still.body) (List.singleton_sublist.2 zM) Cells.nil (by decide) (Quiet.c (Q.shrC (s := 2) (m := 4) rfl rfl (by decide) (by decide))) ?_
  refine VA.take 4 rfl (by kernel_rfl) (by kernel_rfl) (by kernel_rfl) (Still.then Still.body) (List.singleton_sublist.2 zM) Cells.nil (by decide) (Quiet.c (Q.and rfl rfl (by omega) (by simp only [khi]; omega) (by omega) (by simp only [khi]; omega))) ?_
  refine VA.take 5 rfl (by kernel_rfl) (by kernel_rfl) (by kernel_rfl) (Still.then Still.body) (List.singleton_sublist.2 zM) Cells.nil (by decide) (Quiet.c (Q.move rfl)) ?_
  refine VA.take 6 rfl (by kernel_rfl) (by kernel_rfl) (by kernel_rfl) (Still.then Still.body) (List.singleton_sublist.2 zM) Cells.nil (by decide) (Quiet.c (Q.indexAddr sl54 (j := 0) rfl rfl rfl (by omega))) ?_
  refine VA.take 7 rfl (by kernel_rfl) (by kernel_rfl) (by kernel_rfl) (Still.then Still.body) (List.singleton_sublist.2 zM) Cells.nil (by decide) (Quiet.c (Q.loadRow ty5 rfl zM rfl)) ?_
  refine VA.take 8 rfl (by kernel_rfl) (by kernel_rfl) (by kernel_rfl) (Still.then Still.body) (List.singleton_sublist.2 zM) Cells.nil (by decide) (Quiet.c (Q.shrC (s := 4) (m := 16) rfl rfl (by decide) (by decide))) ?_
  refine VA.take 9 rfl (by kernel_rfl) (by kernel_rfl) (by kernel_rfl) (Still.then Still.body) (List.singleton_sublist.2 zM) Cells.nil (by decide) (Quiet.c (Q.build lay50 zF)) ?_
  refine VA.all (rs := [10]) (by kernel_rfl) (by simp) ?_
  refine VA.forall1 ?_
  · skip
    refine VA.eff rfl ?_
    refine id (O.alloc zo50 (by decide) ?_)
    intro g8
    refine VA.next (List.singleton_sublist.2 zM) Cells.nil ?_
    refine VA.all (rs := [11]) (by kernel_rfl) (by simp) ?_
    refine VA.forall1 ?_
    · skip
      refine VA.eff rfl ?_
      refine id (O.store ty50 rfl rfl rfl rfl zU zP ?_)
      refine VA.next (List.singleton_sublist.2 zM) Cells.nil ?_
      refine VA.done (by kernel_rfl) ?_
      refine VE.seq ?_
      refine VC.seq ?_
      refine VC.region ?_
      refine VL.q (Q.fieldAddr fa50_0 rfl) ?_
      refine VL.q (Q.load1 ty5 rfl zM rfl) ?_
      refine VL.q (Q.fieldAddr fa50_1 rfl) ?_
      refine VL.q (Q.load1 ty5 rfl zM rfl) ?_
      refine VL.eff (O.call0 ok34 rfl rfl (by decide) (known_ack) (fun _ _ _ => trivial) ?_)
      intro x57 y57
      refine VL.q (Q.move rfl) ?_
      refine VL.q (Q.extract rfl rfl) ?_
      refine VL.q (Q.extract rfl rfl) ?_
      refine VL.eff (O.alloc zo90 (by decide) ?_)
      intro g9
      refine VL.eff (O.store ty90 rfl rfl rfl rfl zU zP ?_)
      refine VL.q (Q.assign rfl) ?_
      refine VL.nil ?_
      refine VE.seq ?_
      refine VC.seq ?_
      refine VC.seq ?_
      refine VK.keep (by exact .cons (i := 2) rfl (.cons (i := 3) rfl (.cons (i := 5) rfl (.cons (i := 6) rfl (.cons (i := 7) rfl (.cons (i := 8) rfl (.cons (i := 9) rfl (.cons (i := 10) rfl ( .nil))))))))) ?_
      refine VC.region ?_
      refine VL.q (Q.move rfl) ?_
      refine VL.quietE (v' := .bool false) (by decide) (Q.not rfl) (by rfl) ?_
      refine VL.q (Q.move rfl) ?_
      refine VL.yes rfl rfl ?_
      refine VL.q (Q.move rfl) ?_
      refine VL.yes rfl rfl ?_
      refine VL.q (Q.indexAddr sl54 (j := 0) rfl rfl rfl (by omega)) ?_
      refine VL.yes rfl rfl ?_
      refine VL.q (Q.loadRow ty5 rfl zM rfl) ?_
      refine VL.yes rfl rfl ?_
      refine VL.quietE (v' := .int .u8 0) (by decide) (Q.and rfl rfl (by omega) (by simp only [khi]; omega) (by omega) (by simp only [khi]; omega)) (by rfl) ?_
      refine VL.yes rfl rfl ?_
      refine VL.quietE (v' := .bool false) (by decide) (Q.ne rfl rfl) (by rfl) ?_
      refine VL.quietE (v' := .bool false) (by decide) (Q.pick_false rfl rfl) (by rfl) ?_
      refine VL.q (Q.move rfl) ?_
      refine VL.yes rfl rfl ?_
      refine VL.q (Q.move rfl) ?_
      refine VL.yes rfl rfl ?_
      refine VL.quietE (v' := .int .u8 0) (by decide) (Q.and rfl rfl (by omega) (by simp only [khi]; omega) (by omega) (by simp only [khi]; omega)) (by rfl) ?_
      refine VL.yes rfl rfl ?_
      refine VL.quietE (v' := .bool false) (by decide) (Q.ne rfl rfl) (by rfl) ?_
      refine VL.quietE (v' := .bool false) (by decide) (Q.pick_false rfl rfl) (by rfl) ?_
      refine VL.nil ?_
      refine VE.seq ?_
      refine VC.condF rfl ?_
      refine VC.skip ?_
      refine VE.seq ?_
      refine VC.seq ?_
      refine VC.region ?_
      refine VL.q (Q.move rfl) ?_
      refine VL.quietE (v' := .int .u8 0) (by decide) (Q.and rfl rfl (by omega) (by simp only [khi]; omega) (by omega) (by simp only [khi]; omega)) (by rfl) ?_
      refine VL.quietE (v' := .bool false) (by decide) (Q.ne rfl rfl) (by rfl) ?_
      refine VL.q (Q.move rfl) ?_
      refine VL.quietE (v' := .int .u8 0) (by decide) (Q.and rfl rfl (by omega) (by simp only [khi]; omega) (by omega) (by simp only [khi]; omega)) (by rfl) ?_
      refine VL.quietE (v' := .bool false) (by decide) (Q.ne rfl rfl) (by rfl) ?_
      refine VL.q (Q.move rfl) ?_
      refine VL.quietE (v' := .int .u8 0) (by decide) (Q.and rfl rfl (by omega) (by simp only [khi]; omega) (by omega) (by simp only [khi]; omega)) (by rfl) ?_
      refine VL.quietE (v' := .bool false) (by decide) (Q.ne rfl rfl) (by rfl) ?_
      refine VL.q (Q.move rfl) ?_
      refine VL.quietE (v' := .int .u8 0) (by decide) (Q.and rfl rfl (by omega) (by simp only [khi]; omega) (by omega) (by simp only [khi]; omega)) (by rfl) ?_
      refine VL.quietE (v' := .bool false) (by decide) (Q.ne rfl rfl) (by rfl) ?_
      refine VL.q (Q.fieldAddr fa50_2 rfl) ?_
      refine VL.eff (O.store ty4 rfl rfl rfl rfl zU zP ?_)
      refine VL.q (Q.fieldAddr fa50_3 rfl) ?_
      refine VL.eff (O.store ty4 rfl rfl rfl rfl zU zP ?_)
      refine VL.q (Q.fieldAddr fa50_4 rfl) ?_
      refine VL.eff (O.store ty4 rfl rfl rfl rfl zU zP ?_)
      refine VL.q (Q.fieldAddr fa50_5 rfl) ?_
      refine VL.eff (O.store ty4 rfl rfl rfl rfl zU zP ?_)
      refine VL.nil ?_
      refine VE.seq ?_
      refine VC.seq ?_
      refine VC.region ?_
      refine VL.q (Q.move rfl) ?_
      refine VL.quietE (v' := .int .u8 0) (by decide) (Q.and rfl rfl (by omega) (by simp only [khi]; omega) (by omega) (by simp only [khi]; omega)) (by rfl) ?_
      refine VL.quietE (v' := .bool false) (by decide) (Q.ne rfl rfl) (by rfl) ?_
      refine VL.q (Q.move rfl) ?_
      refine VL.quietE (v' := .int .u8 0) (by decide) (Q.and rfl rfl (by omega) (by simp only [khi]; omega) (by omega) (by simp only [khi]; omega)) (by rfl) ?_
      refine VL.quietE (v' := .bool false) (by decide) (Q.ne rfl rfl) (by rfl) ?_
      refine VL.q (Q.move rfl) ?_
      refine VL.quietE (v' := .int .u8 0) (by decide) (Q.and rfl rfl (by omega) (by simp only [khi]; omega) (by omega) (by simp only [khi]; omega)) (by rfl) ?_
      refine VL.quietE (v' := .bool false) (by decide) (Q.ne rfl rfl) (by rfl) ?_
      refine VL.q (Q.fieldAddr fa50_6 rfl) ?_
      refine VL.eff (O.store ty4 rfl rfl rfl rfl zU zP ?_)
      refine VL.q (Q.fieldAddr fa50_7 rfl) ?_
      refine VL.eff (O.store ty4 rfl rfl rfl rfl zU zP ?_)
      refine VL.q (Q.fieldAddr fa50_8 rfl) ?_
      refine VL.eff (O.store ty4 rfl rfl rfl rfl zU zP ?_)
      refine VL.nil ?_
      refine VE.seq ?_
      refine VC.seq ?_
      refine VK.keep (by exact .cons (i := 2) rfl (.cons (i := 3) rfl (.cons (i := 5) rfl (.cons (i := 8) rfl (.cons (i := 9) rfl ( .nil)))))) ?_
      refine VC.region ?_
      refine VL.q (Q.move rfl) ?_
      refine VL.eff (O.callB ok35 rfl rfl (by decide) (two_c _ gr 2 8 (c22 - 2) _ ((D : Int) % 256) ((D : Int) / 256) (D : Int) (by omega) (by omega) (by omega) hne (by omega) (by omega) (sliceOff_lt (by omega))) zK (fun _ _ hw => Rd.rowP hw zM zS) ?_)
      intro x104 y104
      refine VL.q (Q.fieldAddr fa50_9 rfl) ?_
      refine VL.eff (O.store ty3 rfl rfl rfl rfl zU zP ?_)
      refine VL.nil ?_
      refine VE.seq ?_
      refine VC.seq ?_
      refine VC.region ?_
      refine VL.eff (O.call0 ok36 rfl rfl (by decide) (places_ack _) (fun _ _ hw => Rd.seg hw zM zS) ?_)
      intro x107 y107
      refine VL.q (Q.move rfl) ?_
      refine VL.q (Q.extract rfl rfl) ?_
      refine VL.q (Q.extract rfl rfl) ?_
      refine VL.q (Q.assign rfl) ?_
      refine VL.q (Q.assign rfl) ?_
      refine VL.nil ?_
      refine VE.seq ?_
      refine VC.seq ?_
      refine VC.seq ?_
      refine VC.region ?_
      refine VL.q (Q.move rfl) ?_
      refine VL.q (Q.len sl93 rfl) ?_
      refine VL.q (Q.move rfl) ?_
      refine VL.nil ?_
      refine VE.seq ?_
      refine VC.block ?_
      refine VC.rounds 40 ?_
      refine VC.rnd (m := 39) ?_
      refine VC.seq ?_
      refine VC.region ?_
      refine VL.q (Q.lt rfl rfl) ?_
      refine VL.nil ?_
      refine VE.seq ?_
      refine VC.seq ?_
      refine VC.condT rfl ?_
      refine VC.skip ?_
      refine VE.seq ?_
      refine VC.seq ?_
      refine VC.block ?_
      refine VC.seq ?_
      refine VC.region ?_
      refine VL.q (Q.indexAddr sl93 (j := 0) rfl rfl rfl (by omega)) ?_
      refine VL.q (Q.load1 ty97 rfl zM rfl) ?_
      refine VL.q (Q.assign rfl) ?_
      refine VL.nil ?_
      refine VE.seq ?_
      refine VA.start (Ls := []) (Cs := []) mixed ?_
      refine VA.take 0 rfl (by kernel_rfl) (by kernel_rfl) (by kernel_rfl) (Still.block (Still.then (Still.then (Still.block (Still.then Still.body))))) (List.nil_sublist _) Cells.nil (by decide) (Quiet.c (Q.move rfl)) ?_
      refine VA.take 1 rfl (by kernel_rfl) (by kernel_rfl) (by kernel_rfl) (Still.block (Still.then (Still.then (Still.block (Still.then Still.body))))) (List.nil_sublist _) Cells.nil (by decide) (Quiet.c (Q.nilCheck rfl)) ?_
      refine VA.take 2 rfl (by kernel_rfl) (by kernel_rfl) (by kernel_rfl) (Still.block (Still.then (Still.then (Still.block (Still.then Still.body))))) (List.nil_sublist _) Cells.nil (by decide) (Quiet.c (Q.slcA0 ar43 (h := _) rfl rfl (by omega))) ?_
      refine VA.take 3 rfl (by kernel_rfl) (by kernel_rfl) (by kernel_rfl) (Still.block (Still.then (Still.then (Still.block (Still.then Still.body))))) (List.nil_sublist _) Cells.nil (by decide) (Quiet.c (Q.move rfl)) ?_
      refine VA.all (rs := [4]) (by kernel_rfl) (by simp) ?_
      refine VA.forall1 ?_
      · skip
        refine VA.eff rfl ?_
        refine id (O.callB ok33 rfl rfl (by decide) (take_c _ gr 4 6 ((c22 - 2) - 2) 6 _ (by omega) (by omega) rfl) zK (fun _ _ _ => trivial) ?_)
        intro x120 y120
        refine VA.next (List.nil_sublist _) Cells.nil ?_
        refine VA.all (rs := [5]) (by kernel_rfl) (by simp) ?_
        refine VA.forall1 ?_
        · skip
          refine VA.eff rfl ?_
          refine id (O.copyR sl54 rfl rfl zM zS rfl (by decide) zU zP ?_)
          refine VA.next (List.nil_sublist _) Cells.nil ?_
          refine VA.done (by kernel_rfl) ?_
          refine VE.block_normal ?_
          refine VE.seq ?_
          refine VC.region ?_
          refine VL.quietE (v' := .int .i64 1) (by decide) ((by first | exact Q.addI rfl rfl (by omega) (by omega) | exact Q.add rfl rfl)) (by rfl) ?_
          refine VL.q (Q.move rfl) ?_
          refine VL.nil ?_
          refine VE.then_normal ?_
          refine VC.rnd (m := 38) ?_
          refine VC.seq ?_
          refine VC.region ?_
          refine VL.q (Q.lt rfl rfl) ?_
          refine VL.nil ?_
          refine VE.seq ?_
          refine VC.seq ?_
          refine VC.condF rfl ?_
          refine VC.exit ?_
          refine VE.then_exit ?_
          refine VE.then_exit ?_
          refine VE.block_here ?_
          refine VE.seq ?_
          refine VC.seq ?_
          refine VC.seq ?_
          refine VC.region ?_
          refine VL.q (Q.fieldAddr fa90_1 rfl) ?_
          refine VL.q (Q.load1 ty4 rfl zM rfl) ?_
          refine VL.nil ?_
          refine VE.seq ?_
          refine VC.condF rfl ?_
          refine VC.skip ?_
          refine VE.seq ?_
          refine VC.seq ?_
          refine VC.seq ?_
          refine VC.region ?_
          refine VL.q (Q.move rfl) ?_
          refine VL.q (Q.len sl93 rfl) ?_
          refine VL.q (Q.move rfl) ?_
          refine VL.nil ?_
          refine VE.seq ?_
          refine VC.block ?_
          refine VC.rounds 40 ?_
          refine VC.rnd (m := 39) ?_
          refine VC.seq ?_
          refine VC.region ?_
          refine VL.q (Q.lt rfl rfl) ?_
          refine VL.nil ?_
          refine VE.seq ?_
          refine VC.seq ?_
          refine VC.condF rfl ?_
          refine VC.exit ?_
          refine VE.then_exit ?_
          refine VE.then_exit ?_
          refine VE.block_here ?_
          refine VE.seq ?_
          refine VC.seq ?_
          refine VC.region ?_
          refine VL.q (Q.assign rfl) ?_
          refine VL.nil ?_
          refine VE.seq ?_
          refine VC.seq ?_
          refine VC.seq ?_
          refine VC.region ?_
          refine VL.q (Q.fieldAddr fa90_2 rfl) ?_
          refine VL.q (Q.load1 ty4 rfl zM rfl) ?_
          refine VL.nil ?_
          refine VE.seq ?_
          refine VC.condF rfl ?_
          refine VC.skip ?_
          refine VE.seq ?_
          refine VC.seq ?_
          refine VC.seq ?_
          refine VC.region ?_
          refine VL.q (Q.move rfl) ?_
          refine VL.q (Q.nilCheck rfl) ?_
          refine VL.q (Q.fieldAddr fa86_1 rfl) ?_
          refine VL.q (Q.load1 ty4 rfl zM rfl) ?_
          refine VL.nil ?_
          refine VE.seq ?_
          refine VC.condF rfl ?_
          refine VC.skip ?_
          refine VE.seq ?_
          refine VC.seq ?_
          refine VC.seq ?_
          refine VK.keep (by exact .cons (i := 2) rfl (.cons (i := 3) rfl (.cons (i := 5) rfl (.cons (i := 8) rfl (.cons (i := 18) rfl ( .nil)))))) ?_
          refine VC.region ?_
          refine VL.q (Q.move rfl) ?_
          refine VL.q (Q.move rfl) ?_
          refine VL.yes rfl rfl ?_
          refine VL.q (Q.loadA ty50 rfl zM zS) ?_
          refine VL.yes rfl rfl ?_
          refine VL.eff (O.call0 ok28 rfl rfl (by decide) (check_ack D hD) (fun _ _ _ => trivial) ?_)
          intro x182 y182
          refine VL.yes rfl rfl ?_
          refine VL.quietE (v' := .bool false) (by decide) (Q.ne rfl rfl) (by rfl) ?_
          refine VL.quietE (v' := .bool false) (by decide) (Q.pick_false rfl rfl) (by rfl) ?_
          refine VL.q (Q.move rfl) ?_
          refine VL.yes rfl rfl ?_
          refine VL.q (Q.loadA ty50 rfl zM zS) ?_
          refine VL.yes rfl rfl ?_
          refine VL.eff (O.call0 ok29 rfl rfl (by decide) (bare_ack D) (fun _ _ _ => trivial) ?_)
          intro x187 y187
          refine VL.yes rfl rfl ?_
          refine VL.q (Q.move rfl) ?_
          refine VL.yes rfl rfl ?_
          refine VL.q (Q.move rfl) ?_
          refine VL.yes rfl rfl ?_
          refine VL.q (Q.nilCheck rfl) ?_
          refine VL.yes rfl rfl ?_
          refine VL.q (Q.fieldAddr fa86_0 rfl) ?_
          refine VL.yes rfl rfl ?_
          refine VL.q (Q.load1 ty54 rfl zM rfl) ?_
          refine VL.yes rfl rfl ?_
          refine VL.q (Q.len sl54 rfl) ?_
          refine VL.yes rfl rfl ?_
          refine VL.quietE (v' := .bool false) (by decide) (Q.gt rfl rfl) (by rfl) ?_
          refine VL.yes rfl rfl ?_
          refine VL.quietE (v' := .bool false) (by decide) (Q.pick_true rfl rfl) (by rfl) ?_
          refine VL.quietE (v' := .bool false) (by decide) (Q.pick_false rfl rfl) (by rfl) ?_
          refine VL.nil ?_
          refine VE.seq ?_
          refine VC.condF rfl ?_
          refine VC.skip ?_
          refine VE.seq ?_
          refine VC.seq ?_
          refine VC.seq ?_
          refine VC.region ?_
          refine VL.q (Q.move rfl) ?_
          refine VL.q (Q.nilCheck rfl) ?_
          refine VL.q (Q.fieldAddr fa86_0 rfl) ?_
          refine VL.q (Q.load1 ty54 rfl zM rfl) ?_
          refine VL.q (Q.len sl54 rfl) ?_
          refine VL.quietE (v' := .bool false) (by decide) (Q.gt rfl rfl) (by rfl) ?_
          refine VL.nil ?_
          refine VE.seq ?_
          refine VC.condF rfl ?_
          refine VC.skip ?_
          refine VE.seq ?_
          refine VC.seq ?_
          refine VA.start (Ls := [.blk g31 [.slice (some ⟨gr, sliceOff ((c22 - 2) - 2) 6 4 1, none⟩) (6 - 6) (((c22 - 2) - 2) - 6), .bool false] 86, .blk g8 [.int .u8 1, .int .u8 13, .bool false, .bool false, .bool false, .bool false, .bool false, .bool false, .bool false, .int .i64 (D : Int), .int .u8 2, .int .u8 0, .int .u8 0, .int .u8 0, .int .u8 0, .int .u8 2, .int .u8 0, .int .u8 0, .int .u8 0, .int .u8 0, .int .u8 0, .int .u8 0, .int .u8 0, .int .u8 0, .int .u8 0, .int .u8 0, .int .u8 0, .int .u8 0, .int .u8 0, .int .u8 0, .int .u8 0, .int .u8 0, .int .u8 0, .int .u8 0, .int .i64 0, .int .i64 0, .int .i64 0, .int .u8 0, .bool false, .bool false] 50]) (Cs := []) mixed ?_
          refine VA.take 0 rfl (by kernel_rfl) (by kernel_rfl) (by kernel_rfl) (Still.then Still.body) zB Cells.nil (by decide) (Quiet.c (Q.loadA ty50 rfl zM zS)) ?_
          refine VA.take 2 rfl (by kernel_rfl) (by kernel_rfl) (by kernel_rfl) (Still.then Still.body) zB Cells.nil (by decide) (Quiet.c (Q.move rfl)) ?_
          refine VA.take 3 rfl (by kernel_rfl) (by kernel_rfl) (by kernel_rfl) (Still.then Still.body) zB Cells.nil (by decide) (Quiet.c (Q.nilCheck rfl)) ?_
          refine VA.take 4 rfl (by kernel_rfl) (by kernel_rfl) (by kernel_rfl) (Still.then Still.body) zB Cells.nil (by decide) (Quiet.c (Q.fieldAddr fa86_0 rfl)) ?_
          refine VA.take 5 rfl (by kernel_rfl) (by kernel_rfl) (by kernel_rfl) (Still.then Still.body) zB Cells.nil (by decide) (Quiet.c (Q.load1 ty54 rfl zM rfl)) ?_
          refine VA.all (rs := [1]) (by kernel_rfl) (by simp) ?_
          refine VA.forall1 ?_
          · skip
            refine VA.eff rfl ?_
            refine id (O.buildSlice0 sl54 (by decide) ?_)
            intro g206
            refine VA.next zB Cells.nil ?_
            refine VA.take 6 rfl (by kernel_rfl) (by kernel_rfl) (by kernel_rfl) (Still.then Still.body) zB Cells.nil (by decide) (Quiet.c (Q.append0 sl54 rfl rfl (by omega))) ?_
            refine VA.take 7 rfl (by kernel_rfl) (by kernel_rfl) (by kernel_rfl) (Still.then Still.body) zB Cells.nil (by decide) (Quiet.c (Q.build lay58 zF)) ?_
            refine VA.all (rs := [8]) (by kernel_rfl) (by simp) ?_
            refine VA.forall1 ?_
            · skip
              refine VA.eff rfl ?_
              refine id (O.store ty58 rfl rfl rfl rfl zU zP ?_)
              refine VA.next zB Cells.nil ?_
              refine VA.take 9 rfl (by kernel_rfl) (by kernel_rfl) (by kernel_rfl) (Still.then Still.body) zB Cells.nil (by decide) (Quiet.c (Q.assign rfl)) ?_
              refine VA.done (by kernel_rfl) ?_
              refine VE.seq ?_
              refine VC.ret ?_
              exact VE.ret rfl (.cell ty58 rfl zM rfl (.tmp rfl .nil)) g206 trivial rfl (List.nil_sublist _)

theorem verify_bar (D : Nat) (hD : D ≤ 32767) (p : Option Addr) (c : Nat) (hc : 20 ≤ c) : Does Tryd.prog 32 [.slice p 20 c] [] (fun W => Rd W p (bs (hb_bar D ++ crcBytes (hb_bar D)))) (X := Option Addr × Nat) (fun x => 16 ≤ x.2) (fun x => .tuple #[.slice x.1 16 x.2, .int .i64 0]) (fun x => [.row (.slice x.1 16 x.2) 5 1 16 [.int .u8 132, .int .u8 0, .int .u8 ((D : Int) % 256), .int .u8 ((D : Int) / 256), .int .u8 2, .int .u8 0, .int .u8 0, .int .u8 0, .int .u8 0, .int .u8 1, .int .u8 2, .int .u8 0, .int .u8 0, .int .u8 0, .int .u8 0, .int .u8 2]]) := by
  have h := verify_c p 20 c (hb_bar D ++ crcBytes (hb_bar D)) rfl (by decide) hc
  rw [verifyP_crc] at h
  dsimp only at h
  rw [hbs_bar D hD] at h
  exact h

theorem decode_bar (D : Nat) (hD : D ≤ 32767) (p : Option Addr) (c : Nat) (hc : 20 ≤ c) :
    Does Tryd.prog 16 [.slice p 20 c] [] (fun W => Rd W p (bs (hb_bar D ++ crcBytes (hb_bar D)))) (X := Nat) (fun _ => True) (fun x => .tuple #[.agg #[.int .u8 1, .int .u8 8, .bool false, .bool false, .bool false, .bool false, .bool false, .bool false, .bool false, .int .i64 (D : Int), .int .u8 2, .int .u8 0, .int .u8 0, .int .u8 0, .int .u8 0, .int .u8 1, .int .u8 2, .int .u8 0, .int .u8 0, .int .u8 0, .int .u8 0, .int .u8 2, .int .u8 0, .int .u8 0, .int .u8 0, .int .u8 0, .int .u8 0, .int .u8 0, .int .u8 0, .int .u8 0, .int .u8 0, .int .u8 0, .int .u8 0, .int .u8 0, .int .i64 0, .int .i64 0, .int .i64 0, .int .u8 0, .bool false, .bool false, .slice (some ⟨x, 0, none⟩) 0 0], .int .i64 0]) (fun _ => []) := by
  refine Does.enter Tryd.func16 rfl (m := 213) rfl (by simp) ?_
  intro W0 hro
  refine VC.seq ?_
  refine VC.region ?_
  refine VL.eff (O.alloc zo58 (by decide) ?_)
  intro g2
  refine VL.q (Q.assign rfl) ?_
  refine VL.nil ?_
  refine VE.seq ?_
  refine VC.seq ?_
  refine VC.region ?_
  refine VL.q (Q.move rfl) ?_
  refine VL.eff (O.call0 ok32 rfl rfl (by decide) (verify_bar D hD p c hc) (fun _ ho _ => hro.only0 ho) ?_)
  intro x22 y22
  obtain ⟨p22, c22⟩ := x22
  refine VK.rowHead (m := 16) zM (by decide) ?_
  intro gr hgr hmc hcm
  dsimp only at hgr hmc hcm
  subst hgr
  refine VL.q (Q.move rfl) ?_
  refine VL.q (Q.extract rfl rfl) ?_
  refine VL.q (Q.extract rfl rfl) ?_
  refine VL.q (Q.assign rfl) ?_
  refine VL.q (Q.assign rfl) ?_
  refine VL.nil ?_
  refine VE.seq ?_
  refine VC.seq ?_
  refine VC.seq ?_
  refine VC.region ?_
  refine VL.q (Q.move rfl) ?_
  refine VL.quietE (v' := .bool false) (by decide) (Q.ne rfl rfl) (by rfl) ?_
  refine VL.nil ?_
  refine VE.seq ?_
  refine VC.condF rfl ?_
  refine VC.skip ?_
  refine VE.seq ?_
  refine VC.seq ?_
  refine VC.region ?_
  refine VL.q (Q.move rfl) ?_
  refine VL.q (Q.build lay86 zF) ?_
  refine VL.eff (O.box rfl rfl (by decide) ?_)
  intro g31
  refine VK.apart (r := .row (.slice (some ⟨gr, 0, none⟩) 16 c22) 5 1 16 [.int .u8 132, .int .u8 0, .int .u8 ((D : Int) % 256), .int .u8 ((D : Int) / 256), .int .u8 2, .int .u8 0, .int .u8 0, .int .u8 0, .int .u8 0, .int .u8 1, .int .u8 2, .int .u8 0, .int .u8 0, .int .u8 0, .int .u8 0, .int .u8 2]) (r' := .blk g31 [.slice (some ⟨gr, 0, none⟩) 16 c22, .bool false] 86) (Two.swap zM) ?_
  intro hap
  have hne : gr ≠ g31 := by simpa [Rs.ids, Value.ownBlock] using hap
  refine VL.q (Q.assign rfl) ?_
  refine VL.nil ?_
  refine VE.seq ?_
  refine VC.seq ?_
  refine VC.region ?_
  refine VL.q (Q.move rfl) ?_
  refine VL.eff (O.callB ok33 rfl rfl (by decide) (take_c _ gr 0 16 c22 2 _ (by omega) (by omega) (sliceOff_lt (by omega))) zK (fun _ _ _ => trivial) ?_)
  intro x33 y33
  refine VL.q (Q.assign rfl) ?_
  refine VL.nil ?_
  refine VE.seq ?_
  refine VC.seq ?_
  refine VC.seq ?_
  refine VC.region ?_
  refine VL.q (Q.move rfl) ?_
  refine VL.q (Q.nilCheck rfl) ?_
  refine VL.q (Q.fieldAddr fa86_1 rfl) ?_
  refine VL.q (Q.load1 ty4 rfl zM rfl) ?_
  refine VL.nil ?_
  refine VE.seq ?_
  refine VC.condF rfl ?_
  refine VC.skip ?_
  refine VE.seq ?_
  refine VC.seq ?_
  refine VC.region ?_
  refine VL.q (Q.move rfl) ?_
  refine VL.q (Q.indexAddr sl54 (j := 1) rfl rfl rfl (by omega)) ?_
  refine VL.q (Q.loadRow ty5 rfl zM rfl) ?_
  refine VL.q (Q.assign rfl) ?_
  refine VL.nil ?_
  refine VE.seq ?_
  refine VC.seq ?_
  refine VA.start (Ls := [.row (.slice (some ⟨gr, 0, none⟩) 16 c22) 5 1 16 [.int .u8 132, .int .u8 0, .int .u8 ((D : Int) % 256), .int .u8 ((D : Int) / 256), .int .u8 2, .int .u8 0, .int .u8 0, .int .u8 0, .int .u8 0, .int .u8 1, .int .u8 2, .int .u8 0, .int .u8 0, .int .u8 0, .int .u8 0, .int .u8 2]]) (Cs := []) mixed ?_
  refine VA.take 0 rfl (by kernel_rfl) (by kernel_rfl) (by kernel_rfl) (Still.then Still.body) (List.singleton_sublist.2 zM) Cells.nil (by decide) (Quiet.c (Q.move rfl)) ?_
  refine VA.take 1 rfl (by kernel_rfl) (by kernel_rfl) (by kernel_rfl) (Still.then Still.body) (List.singleton_sublist.2 zM) Cells.nil (by decide) (Quiet.c (Q.indexAddr sl54 (j := 0) rfl rfl rfl (by omega))) ?_
  refine VA.take 2 rfl (by kernel_rfl) (by kernel_rfl) (by kernel_rfl) (Still.then Still.body) (List.singleton_sublist.2 zM) Cells.nil (by decide) (Quiet.c (Q.loadRow ty5 rfl zM rfl)) ?_
  refine VA.take 3 rfl (by kernel_rfl) (by kernel_rfl) (by kernel_rfl) (Still.then Still.body) (List.singleton_sublist.2 zM) Cells.nil (by decide) (Quiet.c (Q.shrC (s := 2) (m := 4) rfl rfl (by decide) (by decide))) ?_
  refine VA.take 4 rfl (by kernel_rfl) (by kernel_rfl) (by kernel_rfl) (Still.then Still.body) (List.singleton_sublist.2 zM) Cells.nil (by decide) (Quiet.c (Q.and rfl rfl (by omega) (by simp only [khi]; omega) (by omega) (by simp only [khi]; omega))) ?_
  refine VA.take 5 rfl (by kernel_rfl) (by kernel_rfl) (by kernel_rfl) (Still.then Still.body) (List.singleton_sublist.2 zM) Cells.nil (by decide) (Quiet.c (Q.move rfl)) ?_
  refine VA.take 6 rfl (by kernel_rfl) (by kernel_rfl) (by kernel_rfl) (Still.then Still.body) (List.singleton_sublist.2 zM) Cells.nil (by decide) (Quiet.c (Q.indexAddr sl54 (j := 0) rfl rfl rfl (by omega))) ?_
  refine VA.take 7 rfl (by kernel_rfl) (by kernel_rfl) (by kernel_rfl) (Still.then Still.body) (List.singleton_sublist.2 zM) Cells.nil (by decide) (Quiet.c (Q.loadRow ty5 rfl zM rfl)) ?_
  refine VA.take 8 rfl (by kernel_rfl) (by kernel_rfl) (by kernel_rfl) (Still.then Still.body) (List.singleton_sublist.2 zM) Cells.nil (by decide) (Quiet.c (Q.shrC (s := 4) (m := 16) rfl rfl (by decide) (by decide))) ?_
  refine VA.take 9 rfl (by kernel_rfl) (by kernel_rfl) (by kernel_rfl) (Still.then Still.body) (List.singleton_sublist.2 zM) Cells.nil (by decide) (Quiet.c (Q.build lay50 zF)) ?_
  refine VA.all (rs := [10]) (by kernel_rfl) (by simp) ?_
  refine VA.forall1 ?_
  · skip
    refine VA.eff rfl ?_
    refine id (O.alloc zo50 (by decide) ?_)
    intro g8
    refine VA.next (List.singleton_sublist.2 zM) Cells.nil ?_
    refine VA.all (rs := [11]) (by kernel_rfl) (by simp) ?_
    refine VA.forall1 ?_
    · skip
      refine VA.eff rfl ?_
      refine id (O.store ty50 rfl rfl rfl rfl zU zP ?_)
      refine VA.next (List.singleton_sublist.2 zM) Cells.nil ?_
      refine VA.done (by kernel_rfl) ?_
      refine VE.seq ?_
      refine VC.seq ?_
      refine VC.region ?_
      refine VL.q (Q.fieldAddr fa50_0 rfl) ?_
      refine VL.q (Q.load1 ty5 rfl zM rfl) ?_
      refine VL.q (Q.fieldAddr fa50_1 rfl) ?_
      refine VL.q (Q.load1 ty5 rfl zM rfl) ?_
      refine VL.eff (O.call0 ok34 rfl rfl (by decide) (known_bar) (fun _ _ _ => trivial) ?_)
      intro x57 y57
      refine VL.q (Q.move rfl) ?_
      refine VL.q (Q.extract rfl rfl) ?_
      refine VL.q (Q.extract rfl rfl) ?_
      refine VL.eff (O.alloc zo90 (by decide) ?_)
      intro g9
      refine VL.eff (O.store ty90 rfl rfl rfl rfl zU zP ?_)
      refine VL.q (Q.assign rfl) ?_
      refine VL.nil ?_
      refine VE.seq ?_
      refine VC.seq ?_
      refine VC.seq ?_
      refine VK.keep (by exact .cons (i := 2) rfl (.cons (i := 3) rfl (.cons (i := 5) rfl (.cons (i := 6) rfl (.cons (i := 7) rfl (.cons (i := 8) rfl (.cons (i := 9) rfl (.cons (i := 10) rfl ( .nil))))))))) ?_
      refine VC.region ?_
      refine VL.q (Q.move rfl) ?_
      refine VL.quietE (v' := .bool false) (by decide) (Q.not rfl) (by rfl) ?_
      refine VL.q (Q.move rfl) ?_
      refine VL.yes rfl rfl ?_
      refine VL.q (Q.move rfl) ?_
      refine VL.yes rfl rfl ?_
      refine VL.q (Q.indexAddr sl54 (j := 0) rfl rfl rfl (by omega)) ?_
      refine VL.yes rfl rfl ?_
      refine VL.q (Q.loadRow ty5 rfl zM rfl) ?_
      refine VL.yes rfl rfl ?_
      refine VL.quietE (v' := .int .u8 0) (by decide) (Q.and rfl rfl (by omega) (by simp only [khi]; omega) (by omega) (by simp only [khi]; omega)) (by rfl) ?_
      refine VL.yes rfl rfl ?_
      refine VL.quietE (v' := .bool false) (by decide) (Q.ne rfl rfl) (by rfl) ?_
      refine VL.quietE (v' := .bool false) (by decide) (Q.pick_false rfl rfl) (by rfl) ?_
      refine VL.q (Q.move rfl) ?_
      refine VL.yes rfl rfl ?_
      refine VL.q (Q.move rfl) ?_
      refine VL.yes rfl rfl ?_
      refine VL.quietE (v' := .int .u8 0) (by decide) (Q.and rfl rfl (by omega) (by simp only [khi]; omega) (by omega) (by simp only [khi]; omega)) (by rfl) ?_
      refine VL.yes rfl rfl ?_
      refine VL.quietE (v' := .bool false) (by decide) (Q.ne rfl rfl) (by rfl) ?_
      refine VL.quietE (v' := .bool false) (by decide) (Q.pick_false rfl rfl) (by rfl) ?_
      refine VL.nil ?_
      refine VE.seq ?_
      refine VC.condF rfl ?_
      refine VC.skip ?_
      refine VE.seq ?_
      refine VC.seq ?_
      refine VC.region ?_
      refine VL.q (Q.move rfl) ?_
      refine VL.quietE (v' := .int .u8 0) (by decide) (Q.and rfl rfl (by omega) (by simp only [khi]; omega) (by omega) (by simp only [khi]; omega)) (by rfl) ?_
      refine VL.quietE (v' := .bool false) (by decide) (Q.ne rfl rfl) (by rfl) ?_
      refine VL.q (Q.move rfl) ?_
      refine VL.quietE (v' := .int .u8 0) (by decide) (Q.and rfl rfl (by omega) (by simp only [khi]; omega) (by omega) (by simp only [khi]; omega)) (by rfl) ?_
      refine VL.quietE (v' := .bool false) (by decide) (Q.ne rfl rfl) (by rfl) ?_
      refine VL.q (Q.move rfl) ?_
      refine VL.quietE (v' := .int .u8 0) (by decide) (Q.and rfl rfl (by omega) (by simp only [khi]; omega) (by omega) (by simp only [khi]; omega)) (by rfl) ?_
      refine VL.quietE (v' := .bool false) (by decide) (Q.ne rfl rfl) (by rfl) ?_
      refine VL.q (Q.move rfl) ?_
      refine VL.quietE (v' := .int .u8 0) (by decide) (Q.and rfl rfl (by omega) (by simp only [khi]; omega) (by omega) (by simp only [khi]; omega)) (by rfl) ?_
      refine VL.quietE (v' := .bool false) (by decide) (Q.ne rfl rfl) (by rfl) ?_
      refine VL.q (Q.fieldAddr fa50_2 rfl) ?_
      refine VL.eff (O.store ty4 rfl rfl rfl rfl zU zP ?_)
      refine VL.q (Q.fieldAddr fa50_3 rfl) ?_
      refine VL.eff (O.store ty4 rfl rfl rfl rfl zU zP ?_)
      refine VL.q (Q.fieldAddr fa50_4 rfl) ?_
      refine VL.eff (O.store ty4 rfl rfl rfl rfl zU zP ?_)
      refine VL.q (Q.fieldAddr fa50_5 rfl) ?_
      refine VL.eff (O.store ty4 rfl rfl rfl rfl zU zP ?_)
      refine VL.nil ?_
      refine VE.seq ?_
      refine VC.seq ?_
      refine VC.region ?_
      refine VL.q (Q.move rfl) ?_
      refine VL.quietE (v' := .int .u8 0) (by decide) (Q.and rfl rfl (by omega) (by simp only [khi]; omega) (by omega) (by simp only [khi]; omega)) (by rfl) ?_
      refine VL.quietE (v' := .bool false) (by decide) (Q.ne rfl rfl) (by rfl) ?_
      refine VL.q (Q.move rfl) ?_
      refine VL.quietE (v' := .int .u8 0) (by decide) (Q.and rfl rfl (by omega) (by simp only [khi]; omega) (by omega) (by simp only [khi]; omega)) (by rfl) ?_
      refine VL.quietE (v' := .bool false) (by decide) (Q.ne rfl rfl) (by rfl) ?_
      refine VL.q (Q.move rfl) ?_
      refine VL.quietE (v' := .int .u8 0) (by decide) (Q.and rfl rfl (by omega) (by simp only [khi]; omega) (by omega) (by simp only [khi]; omega)) (by rfl) ?_
      refine VL.quietE (v' := .bool false) (by decide) (Q.ne rfl rfl) (by rfl) ?_
      refine VL.q (Q.fieldAddr fa50_6 rfl) ?_
      refine VL.eff (O.store ty4 rfl rfl rfl rfl zU zP ?_)
      refine VL.q (Q.fieldAddr fa50_7 rfl) ?_
      refine VL.eff (O.store ty4 rfl rfl rfl rfl zU zP ?_)
      refine VL.q (Q.fieldAddr fa50_8 rfl) ?_
      refine VL.eff (O.store ty4 rfl rfl rfl rfl zU zP ?_)
      refine VL.nil ?_
      refine VE.seq ?_
      refine VC.seq ?_
      refine VK.keep (by exact .cons (i := 2) rfl (.cons (i := 3) rfl (.cons (i := 5) rfl (.cons (i := 8) rfl (.cons (i := 9) rfl ( .nil)))))) ?_
      refine VC.region ?_
      refine VL.q (Q.move rfl) ?_
      refine VL.eff (O.callB ok35 rfl rfl (by decide) (two_c _ gr 2 14 (c22 - 2) _ ((D : Int) % 256) ((D : Int) / 256) (D : Int) (by omega) (by omega) (by omega) hne (by omega) (by omega) (sliceOff_lt (by omega))) zK (fun _ _ hw => Rd.rowP hw zM zS) ?_)
      intro x104 y104
      refine VL.q (Q.fieldAddr fa50_9 rfl) ?_
      refine VL.eff (O.store ty3 rfl rfl rfl rfl zU zP ?_)
      refine VL.nil ?_
      refine VE.seq ?_
      refine VC.seq ?_
      refine VC.region ?_
      refine VL.eff (O.call0 ok36 rfl rfl (by decide) (places_bar _) (fun _ _ hw => Rd.seg hw zM zS) ?_)
      intro x107 y107
      refine VL.q (Q.move rfl) ?_
      refine VL.q (Q.extract rfl rfl) ?_
      refine VL.q (Q.extract rfl rfl) ?_
      refine VL.q (Q.assign rfl) ?_
      refine VL.q (Q.assign rfl) ?_
      refine VL.nil ?_
      refine VE.seq ?_
      refine VC.seq ?_
      refine VC.seq ?_
      refine VC.region ?_
      refine VL.q (Q.move rfl) ?_
      refine VL.q (Q.len sl93 rfl) ?_
      refine VL.q (Q.move rfl) ?_
      refine VL.nil ?_
      refine VE.seq ?_
      refine VC.block ?_
      refine VC.rounds 40 ?_
      refine VC.rnd (m := 39) ?_
      refine VC.seq ?_
      refine VC.region ?_
      refine VL.q (Q.lt rfl rfl) ?_
      refine VL.nil ?_
      refine VE.seq ?_
      refine VC.seq ?_
      refine VC.condT rfl ?_
      refine VC.skip ?_
      refine VE.seq ?_
      refine VC.seq ?_
      refine VC.block ?_
      refine VC.seq ?_
      refine VC.region ?_
      refine VL.q (Q.indexAddr sl93 (j := 0) rfl rfl rfl (by omega)) ?_
      refine VL.q (Q.load1 ty97 rfl zM rfl) ?_
      refine VL.q (Q.assign rfl) ?_
      refine VL.nil ?_
      refine VE.seq ?_
      refine VA.start (Ls := []) (Cs := []) mixed ?_
      refine VA.take 0 rfl (by kernel_rfl) (by kernel_rfl) (by kernel_rfl) (Still.block (Still.then (Still.then (Still.block (Still.then Still.body))))) (List.nil_sublist _) Cells.nil (by decide) (Quiet.c (Q.move rfl)) ?_
      refine VA.take 1 rfl (by kernel_rfl) (by kernel_rfl) (by kernel_rfl) (Still.block (Still.then (Still.then (Still.block (Still.then Still.body))))) (List.nil_sublist _) Cells.nil (by decide) (Quiet.c (Q.nilCheck rfl)) ?_
      refine VA.take 2 rfl (by kernel_rfl) (by kernel_rfl) (by kernel_rfl) (Still.block (Still.then (Still.then (Still.block (Still.then Still.body))))) (List.nil_sublist _) Cells.nil (by decide) (Quiet.c (Q.slcA0 ar43 (h := _) rfl rfl (by omega))) ?_
      refine VA.take 3 rfl (by kernel_rfl) (by kernel_rfl) (by kernel_rfl) (Still.block (Still.then (Still.then (Still.block (Still.then Still.body))))) (List.nil_sublist _) Cells.nil (by decide) (Quiet.c (Q.move rfl)) ?_
      refine VA.all (rs := [4]) (by kernel_rfl) (by simp) ?_
      refine VA.forall1 ?_
      · skip
        refine VA.eff rfl ?_
        refine id (O.callB ok33 rfl rfl (by decide) (take_c _ gr 4 12 ((c22 - 2) - 2) 6 _ (by omega) (by omega) (sliceOff_lt (by omega))) zK (fun _ _ _ => trivial) ?_)
        intro x120 y120
        refine VA.next (List.nil_sublist _) Cells.nil ?_
        refine VA.all (rs := [5]) (by kernel_rfl) (by simp) ?_
        refine VA.forall1 ?_
        · skip
          refine VA.eff rfl ?_
          refine id (O.copyR sl54 rfl rfl zM zS rfl (by decide) zU zP ?_)
          refine VA.next (List.nil_sublist _) Cells.nil ?_
          refine VA.done (by kernel_rfl) ?_
          refine VE.block_normal ?_
          refine VE.seq ?_
          refine VC.region ?_
          refine VL.quietE (v' := .int .i64 1) (by decide) ((by first | exact Q.addI rfl rfl (by omega) (by omega) | exact Q.add rfl rfl)) (by rfl) ?_
          refine VL.q (Q.move rfl) ?_
          refine VL.nil ?_
          refine VE.then_normal ?_
          refine VC.rnd (m := 38) ?_
          refine VC.seq ?_
          refine VC.region ?_
          refine VL.q (Q.lt rfl rfl) ?_
          refine VL.nil ?_
          refine VE.seq ?_
          refine VC.seq ?_
          refine VC.condT rfl ?_
          refine VC.skip ?_
          refine VE.seq ?_
          refine VC.seq ?_
          refine VC.block ?_
          refine VC.seq ?_
          refine VC.region ?_
          refine VL.q (Q.indexAddr sl93 (j := 1) rfl rfl rfl (by omega)) ?_
          refine VL.q (Q.load1 ty97 rfl zM rfl) ?_
          refine VL.q (Q.assign rfl) ?_
          refine VL.nil ?_
          refine VE.seq ?_
          refine VA.start (Ls := []) (Cs := []) mixed ?_
          refine VA.take 0 rfl (by kernel_rfl) (by kernel_rfl) (by kernel_rfl) (Still.block (Still.then (Still.then (Still.block (Still.then Still.body))))) (List.nil_sublist _) Cells.nil (by decide) (Quiet.c (Q.move rfl)) ?_
          refine VA.take 1 rfl (by kernel_rfl) (by kernel_rfl) (by kernel_rfl) (Still.block (Still.then (Still.then (Still.block (Still.then Still.body))))) (List.nil_sublist _) Cells.nil (by decide) (Quiet.c (Q.nilCheck rfl)) ?_
          refine VA.take 2 rfl (by kernel_rfl) (by kernel_rfl) (by kernel_rfl) (Still.block (Still.then (Still.then (Still.block (Still.then Still.body))))) (List.nil_sublist _) Cells.nil (by decide) (Quiet.c (Q.slcA0 ar43 (h := _) rfl rfl (by omega))) ?_
          refine VA.take 3 rfl (by kernel_rfl) (by kernel_rfl) (by kernel_rfl) (Still.block (Still.then (Still.then (Still.block (Still.then Still.body))))) (List.nil_sublist _) Cells.nil (by decide) (Quiet.c (Q.move rfl)) ?_
          refine VA.all (rs := [4]) (by kernel_rfl) (by simp) ?_
          refine VA.forall1 ?_
          · skip
            refine VA.eff rfl ?_
            refine id (O.callB ok33 rfl rfl (by decide) (take_c _ gr 10 6 (((c22 - 2) - 2) - 6) 6 _ (by omega) (by omega) rfl) zK (fun _ _ _ => trivial) ?_)
            intro x120_1 y120_1
            refine VA.next (List.nil_sublist _) Cells.nil ?_
            refine VA.all (rs := [5]) (by kernel_rfl) (by simp) ?_
            refine VA.forall1 ?_
            · skip
              refine VA.eff rfl ?_
              refine id (O.copyR sl54 rfl rfl zM zS rfl (by decide) zU zP ?_)
              refine VA.next (List.nil_sublist _) Cells.nil ?_
              refine VA.done (by kernel_rfl) ?_
              refine VE.block_normal ?_
              refine VE.seq ?_
              refine VC.region ?_
              refine VL.quietE (v' := .int .i64 2) (by decide) ((by first | exact Q.addI rfl rfl (by omega) (by omega) | exact Q.add rfl rfl)) (by rfl) ?_
              refine VL.q (Q.move rfl) ?_
              refine VL.nil ?_
              refine VE.then_normal ?_
              refine VC.rnd (m := 37) ?_
              refine VC.seq ?_
              refine VC.region ?_
              refine VL.q (Q.lt rfl rfl) ?_
              refine VL.nil ?_
              refine VE.seq ?_
              refine VC.seq ?_
              refine VC.condF rfl ?_
              refine VC.exit ?_
              refine VE.then_exit ?_
              refine VE.then_exit ?_
              refine VE.block_here ?_
              refine VE.seq ?_
              refine VC.seq ?_
              refine VC.seq ?_
              refine VC.region ?_
              refine VL.q (Q.fieldAddr fa90_1 rfl) ?_
              refine VL.q (Q.load1 ty4 rfl zM rfl) ?_
              refine VL.nil ?_
              refine VE.seq ?_
              refine VC.condF rfl ?_
              refine VC.skip ?_
              refine VE.seq ?_
              refine VC.seq ?_
              refine VC.seq ?_
              refine VC.region ?_
              refine VL.q (Q.move rfl) ?_
              refine VL.q (Q.len sl93 rfl) ?_
              refine VL.q (Q.move rfl) ?_
              refine VL.nil ?_
              refine VE.seq ?_
              refine VC.block ?_
              refine VC.rounds 40 ?_
              refine VC.rnd (m := 39) ?_
              refine VC.seq ?_
              refine VC.region ?_
              refine VL.q (Q.lt rfl rfl) ?_
              refine VL.nil ?_
              refine VE.seq ?_
              refine VC.seq ?_
              refine VC.condF rfl ?_
              refine VC.exit ?_
              refine VE.then_exit ?_
              refine VE.then_exit ?_
              refine VE.block_here ?_
              refine VE.seq ?_
              refine VC.seq ?_
              refine VC.region ?_
              refine VL.q (Q.assign rfl) ?_
              refine VL.nil ?_
              refine VE.seq ?_
              refine VC.seq ?_
              refine VC.seq ?_
              refine VC.region ?_
              refine VL.q (Q.fieldAddr fa90_2 rfl) ?_
              refine VL.q (Q.load1 ty4 rfl zM rfl) ?_
              refine VL.nil ?_
              refine VE.seq ?_
              refine VC.condF rfl ?_
              refine VC.skip ?_
              refine VE.seq ?_
              refine VC.seq ?_
              refine VC.seq ?_
              refine VC.region ?_
              refine VL.q (Q.move rfl) ?_
              refine VL.q (Q.nilCheck rfl) ?_
              refine VL.q (Q.fieldAddr fa86_1 rfl) ?_
              refine VL.q (Q.load1 ty4 rfl zM rfl) ?_
              refine VL.nil ?_
              refine VE.seq ?_
              refine VC.condF rfl ?_
              refine VC.skip ?_
              refine VE.seq ?_
              refine VC.seq ?_
              refine VC.seq ?_
              refine VK.keep (by exact .cons (i := 2) rfl (.cons (i := 3) rfl (.cons (i := 5) rfl (.cons (i := 8) rfl (.cons (i := 18) rfl ( .nil)))))) ?_
              refine VC.region ?_
              refine VL.q (Q.move rfl) ?_
              refine VL.q (Q.move rfl) ?_
              refine VL.yes rfl rfl ?_
              refine VL.q (Q.loadA ty50 rfl zM zS) ?_
              refine VL.yes rfl rfl ?_
              refine VL.eff (O.call0 ok28 rfl rfl (by decide) (check_bar D hD) (fun _ _ _ => trivial) ?_)
              intro x182 y182
              refine VL.yes rfl rfl ?_
              refine VL.quietE (v' := .bool false) (by decide) (Q.ne rfl rfl) (by rfl) ?_
              refine VL.quietE (v' := .bool false) (by decide) (Q.pick_false rfl rfl) (by rfl) ?_
              refine VL.q (Q.move rfl) ?_
              refine VL.yes rfl rfl ?_
              refine VL.q (Q.loadA ty50 rfl zM zS) ?_
              refine VL.yes rfl rfl ?_
              refine VL.eff (O.call0 ok29 rfl rfl (by decide) (bare_bar D) (fun _ _ _ => trivial) ?_)
              intro x187 y187
              refine VL.yes rfl rfl ?_
              refine VL.q (Q.move rfl) ?_
              refine VL.no (by simp) rfl rfl (.inl rfl) ?_
              refine VL.no (by simp) rfl rfl (.inl rfl) ?_
              refine VL.no (by simp) rfl rfl (.inl rfl) ?_
              refine VL.no (by simp) rfl rfl (.inl rfl) ?_
              refine VL.no (by simp) rfl rfl (.inl rfl) ?_
              refine VL.no (by simp) rfl rfl (.inl rfl) ?_
              refine VL.yes rfl rfl ?_
              refine VL.quietE (v' := .bool false) (by decide) (Q.pick_false rfl rfl) (by rfl) ?_
              refine VL.quietE (v' := .bool false) (by decide) (Q.pick_false rfl rfl) (by rfl) ?_
              refine VL.nil ?_
              refine VE.seq ?_
              refine VC.condF rfl ?_
              refine VC.skip ?_
              refine VE.seq ?_
              refine VC.seq ?_
              refine VC.seq ?_
              refine VC.region ?_
              refine VL.q (Q.move rfl) ?_
              refine VL.q (Q.nilCheck rfl) ?_
              refine VL.q (Q.fieldAddr fa86_0 rfl) ?_
              refine VL.q (Q.load1 ty54 rfl zM rfl) ?_
              refine VL.q (Q.len sl54 rfl) ?_
              refine VL.quietE (v' := .bool false) (by decide) (Q.gt rfl rfl) (by rfl) ?_
              refine VL.nil ?_
              refine VE.seq ?_
              refine VC.condF rfl ?_
              refine VC.skip ?_
              refine VE.seq ?_
              refine VC.seq ?_
              refine VA.start (Ls := [.blk g31 [.slice (some ⟨gr, sliceOff (((c22 - 2) - 2) - 6) 6 10 1, none⟩) (6 - 6) ((((c22 - 2) - 2) - 6) - 6), .bool false] 86, .blk g8 [.int .u8 1, .int .u8 8, .bool false, .bool false, .bool false, .bool false, .bool false, .bool false, .bool false, .int .i64 (D : Int), .int .u8 2, .int .u8 0, .int .u8 0, .int .u8 0, .int .u8 0, .int .u8 1, .int .u8 2, .int .u8 0, .int .u8 0, .int .u8 0, .int .u8 0, .int .u8 2, .int .u8 0, .int .u8 0, .int .u8 0, .int .u8 0, .int .u8 0, .int .u8 0, .int .u8 0, .int .u8 0, .int .u8 0, .int .u8 0, .int .u8 0, .int .u8 0, .int .i64 0, .int .i64 0, .int .i64 0, .int .u8 0, .bool false, .bool false] 50]) (Cs := []) mixed ?_
              refine VA.take 0 rfl (by kernel_rfl) (by kernel_rfl) (by kernel_rfl) (Still.then Still.body) zB Cells.nil (by decide) (Quiet.c (Q.loadA ty50 rfl zM zS)) ?_
              refine VA.take 2 rfl (by kernel_rfl) (by kernel_rfl) (by kernel_rfl) (Still.then Still.body) zB Cells.nil (by decide) (Quiet.c (Q.move rfl)) ?_
              refine VA.take 3 rfl (by kernel_rfl) (by kernel_rfl) (by kernel_rfl) (Still.then Still.body) zB Cells.nil (by decide) (Quiet.c (Q.nilCheck rfl)) ?_
              refine VA.take 4 rfl (by kernel_rfl) (by kernel_rfl) (by kernel_rfl) (Still.then Still.body) zB Cells.nil (by decide) (Quiet.c (Q.fieldAddr fa86_0 rfl)) ?_
              refine VA.take 5 rfl (by kernel_rfl) (by kernel_rfl) (by kernel_rfl) (Still.then Still.body) zB Cells.nil (by decide) (Quiet.c (Q.load1 ty54 rfl zM rfl)) ?_
              refine VA.all (rs := [1]) (by kernel_rfl) (by simp) ?_
              refine VA.forall1 ?_
              · skip
                refine VA.eff rfl ?_
                refine id (O.buildSlice0 sl54 (by decide) ?_)
                intro g206
                refine VA.next zB Cells.nil ?_
                refine VA.take 6 rfl (by kernel_rfl) (by kernel_rfl) (by kernel_rfl) (Still.then Still.body) zB Cells.nil (by decide) (Quiet.c (Q.append0 sl54 rfl rfl (by omega))) ?_
                refine VA.take 7 rfl (by kernel_rfl) (by kernel_rfl) (by kernel_rfl) (Still.then Still.body) zB Cells.nil (by decide) (Quiet.c (Q.build lay58 zF)) ?_
                refine VA.all (rs := [8]) (by kernel_rfl) (by simp) ?_
                refine VA.forall1 ?_
                · skip
                  refine VA.eff rfl ?_
                  refine id (O.store ty58 rfl rfl rfl rfl zU zP ?_)
                  refine VA.next zB Cells.nil ?_
                  refine VA.take 9 rfl (by kernel_rfl) (by kernel_rfl) (by kernel_rfl) (Still.then Still.body) zB Cells.nil (by decide) (Quiet.c (Q.assign rfl)) ?_
                  refine VA.done (by kernel_rfl) ?_
                  refine VE.seq ?_
                  refine VC.ret ?_
                  exact VE.ret rfl (.cell ty58 rfl zM rfl (.tmp rfl .nil)) g206 trivial rfl (List.nil_sublist _)

theorem verify_back (D : Nat) (hD : D ≤ 32767) (p : Option Addr) (c : Nat) (hc : 20 ≤ c) : Does Tryd.prog 32 [.slice p 20 c] [] (fun W => Rd W p (bs (hb_back D ++ crcBytes (hb_back D)))) (X := Option Addr × Nat) (fun x => 16 ≤ x.2) (fun x => .tuple #[.slice x.1 16 x.2, .int .i64 0]) (fun x => [.row (.slice x.1 16 x.2) 5 1 16 [.int .u8 148, .int .u8 0, .int .u8 ((D : Int) % 256), .int .u8 ((D : Int) / 256), .int .u8 2, .int .u8 0, .int .u8 0, .int .u8 0, .int .u8 0, .int .u8 2, .int .u8 2, .int .u8 0, .int .u8 0, .int .u8 0, .int .u8 0, .int .u8 1]]) := by
  have h := verify_c p 20 c (hb_back D ++ crcBytes (hb_back D)) rfl (by decide) hc
  rw [verifyP_crc] at h
  dsimp only at h
  rw [hbs_back D hD] at h
  exact h

theorem decode_back (D : Nat) (hD : D ≤ 32767) (p : Option Addr) (c : Nat) (hc : 20 ≤ c) :
    Does Tryd.prog 16 [.slice p 20 c] [] (fun W => Rd W p (bs (hb_back D ++ crcBytes (hb_back D)))) (X := Nat) (fun _ => True) (fun x => .tuple #[.agg #[.int .u8 1, .int .u8 9, .bool false, .bool false, .bool false, .bool false, .bool false, .bool false, .bool false, .int .i64 (D : Int), .int .u8 2, .int .u8 0, .int .u8 0, .int .u8 0, .int .u8 0, .int .u8 2, .int .u8 2, .int .u8 0, .int .u8 0, .int .u8 0, .int .u8 0, .int .u8 1, .int .u8 0, .int .u8 0, .int .u8 0, .int .u8 0, .int .u8 0, .int .u8 0, .int .u8 0, .int .u8 0, .int .u8 0, .int .u8 0, .int .u8 0, .int .u8 0, .int .i64 0, .int .i64 0, .int .i64 0, .int .u8 0, .bool false, .bool false, .slice (some ⟨x, 0, none⟩) 0 0], .int .i64 0]) (fun _ => []) := by
  refine Does.enter Tryd.func16 rfl (m := 213) rfl (by simp) ?_
  intro W0 hro
  refine VC.seq ?_
  refine VC.region ?_
  refine VL.eff (O.alloc zo58 (by decide) ?_)
  intro g2
  refine VL.q (Q.assign rfl) ?_
  refine VL.nil ?_
  refine VE.seq ?_
  refine VC.seq ?_
  refine VC.region ?_
  refine VL.q (Q.move rfl) ?_
  refine VL.eff (O.call0 ok32 rfl rfl (by decide) (verify_back D hD p c hc) (fun _ ho _ => hro.only0 ho) ?_)
  intro x22 y22
  obtain ⟨p22, c22⟩ := x22
  refine VK.rowHead (m := 16) zM (by decide) ?_
  intro gr hgr hmc hcm
  dsimp only at hgr hmc hcm
  subst hgr
  refine VL.q (Q.move rfl) ?_
  refine VL.q (Q.extract rfl rfl) ?_
  refine VL.q (Q.extract rfl rfl) ?_
  refine VL.q (Q.assign rfl) ?_
  refine VL.q (Q.assign rfl) ?_
  refine VL.nil ?_
  refine VE.seq ?_
  refine VC.seq ?_
  refine VC.seq ?_
  refine VC.region ?_
  refine VL.q (Q.move rfl) ?_
  refine VL.quietE (v' := .bool false) (by decide) (Q.ne rfl rfl) (by rfl) ?_
  refine VL.nil ?_
  refine VE.seq ?_
  refine VC.condF rfl ?_
  refine VC.skip ?_
  refine VE.seq ?_
  refine VC.seq ?_
  refine VC.region ?_
  refine VL.q (Q.move rfl) ?_
  refine VL.q (Q.build lay86 zF) ?_
  refine VL.eff (O.box rfl rfl (by decide) ?_)
  intro g31
  refine VK.apart (r := .row (.slice (some ⟨gr, 0, none⟩) 16 c22) 5 1 16 [.int .u8 148, .int .u8 0, .int .u8 ((D : Int) % 256), .int .u8 ((D : Int) / 256), .int .u8 2, .int .u8 0, .int .u8 0, .int .u8 0, .int .u8 0, .int .u8 2, .int .u8 2, .int .u8 0, .int .u8 0, .int .u8 0, .int .u8 0, .int .u8 1]) (r' := .blk g31 [.slice (some ⟨gr, 0, none⟩) 16 c22, .bool false] 86) (Two.swap zM) ?_
  intro hap
  have hne : gr ≠ g31 := by simpa [Rs.ids, Value.ownBlock] using hap
  refine VL.q (Q.assign rfl) ?_
  refine VL.nil ?_
  refine VE.seq ?_
  refine VC.seq ?_
  refine VC.region ?_
  refine VL.q (Q.move rfl) ?_
  refine VL.eff (O.callB ok33 rfl rfl (by decide) (take_c _ gr 0 16 c22 2 _ (by omega) (by omega) (sliceOff_lt (by omega))) zK (fun _ _ _ => trivial) ?_)
  intro x33 y33
  refine VL.q (Q.assign rfl) ?_
  refine VL.nil ?_
  refine VE.seq ?_
  refine VC.seq ?_
  refine VC.seq ?_
  refine VC.region ?_
  refine VL.q (Q.move rfl) ?_
  refine VL.q (Q.nilCheck rfl) ?_
  refine VL.q (Q.fieldAddr fa86_1 rfl) ?_
  refine VL.q (Q.load1 ty4 rfl zM rfl) ?_
  refine VL.nil ?_
  refine VE.seq ?_
  refine VC.condF rfl ?_
  refine VC.skip ?_
  refine VE.seq ?_
  refine VC.seq ?_
  refine VC.region ?_
  refine VL.q (Q.move rfl) ?_
  refine VL.q (Q.indexAddr sl54 (j := 1) rfl rfl rfl (by omega)) ?_
  refine VL.q (Q.loadRow ty5 rfl zM rfl) ?_
  refine VL.q (Q.assign rfl) ?_
  refine VL.nil ?_
  refine VE.seq ?_
  refine VC.seq ?_
  refine VA.start (Ls := [.row (.slice (some ⟨gr, 0, none⟩) 16 c22) 5 1 16 [.int .u8 148, .int .u8 0, .int .u8 ((D : Int) % 256), .int .u8 ((D : Int) / 256), .int .u8 2, .int .u8 0, .int .u8 0, .int .u8 0, .int .u8 0, .int .u8 2, .int .u8 2, .int .u8 0, .int .u8 0, .int .u8 0, .int .u8 0, .int .u8 1]]) (Cs := []) mixed ?_
  refine VA.take 0 rfl (by kernel_rfl) (by kernel_rfl) (by kernel_rfl) (Still.then Still.body) (List.singleton_sublist.2 zM) Cells.nil (by decide) (Quiet.c (Q.move rfl)) ?_
  refine VA.take 1 rfl (by kernel_rfl) (by kernel_rfl) (by kernel_rfl) (Still.then Still.body) (List.singleton_sublist.2 zM) Cells.nil (by decide) (Quiet.c (Q.indexAddr sl54 (j := 0) rfl rfl rfl (by omega))) ?_
  refine VA.take 2 rfl (by kernel_rfl) (by kernel_rfl) (by kernel_rfl) (Still.then Still.body) (List.singleton_sublist.2 zM) Cells.nil (by decide) (Quiet.c (Q.loadRow ty5 rfl zM rfl)) ?_
  refine VA.take 3 rfl (by kernel_rfl) (by kernel_rfl) (by kernel_rfl) (Still.then Still.body) (List.singleton_sublist.2 zM) Cells.nil (by decide) (Quiet.c (Q.shrC (s := 2) (m := 4) rfl rfl (by decide) (by decide))) ?_
  refine VA.take 4 rfl (by kernel_rfl) (by kernel_rfl) (by kernel_rfl) (Still.then Still.body) (List.singleton_sublist.2 zM) Cells.nil (by decide) (Quiet.c (Q.and rfl rfl (by omega) (by simp only [khi]; omega) (by omega) (by simp only [khi]; omega))) ?_
  refine VA.take 5 rfl (by kernel_rfl) (by kernel_rfl) (by kernel_rfl) (Still.then Still.body) (List.singleton_sublist.2 zM) Cells.nil (by decide) (Quiet.c (Q.move rfl)) ?_
  refine VA.take 6 rfl (by kernel_rfl) (by kernel_rfl) (by kernel_rfl) (Still.then Still.body) (List.singleton_sublist.2 zM) Cells.nil (by decide) (Quiet.c (Q.indexAddr sl54 (j := 0) rfl rfl rfl (by omega))) ?_
  refine VA.take 7 rfl (by kernel_rfl) (by kernel_rfl) (by kernel_rfl) (Still.then Still.body) (List.singleton_sublist.2 zM) Cells.nil (by decide) (Quiet.c (Q.loadRow ty5 rfl zM rfl)) ?_
  refine VA.take 8 rfl (by kernel_rfl) (by kernel_rfl) (by kernel_rfl) (Still.then Still.body) (List.singleton_sublist.2 zM) Cells.nil (by decide) (Quiet.c (Q.shrC (s := 4) (m := 16) rfl rfl (by decide) (by decide))) ?_
  refine VA.take 9 rfl (by kernel_rfl) (by kernel_rfl) (by kernel_rfl) (Still.then Still.body) (List.singleton_sublist.2 zM) Cells.nil (by decide) (Quiet.c (Q.build lay50 zF)) ?_
  refine VA.all (rs := [10]) (by kernel_rfl) (by simp) ?_
  refine VA.forall1 ?_
  · skip
    refine VA.eff rfl ?_
    refine id (O.alloc zo50 (by decide) ?_)
    intro g8
    refine VA.next (List.singleton_sublist.2 zM) Cells.nil ?_
    refine VA.all (rs := [11]) (by kernel_rfl) (by simp) ?_
    refine VA.forall1 ?_
    · skip
      refine VA.eff rfl ?_
      refine id (O.store ty50 rfl rfl rfl rfl zU zP ?_)
      refine VA.next (List.singleton_sublist.2 zM) Cells.nil ?_
      refine VA.done (by kernel_rfl) ?_
      refine VE.seq ?_
      refine VC.seq ?_
      refine VC.region ?_
      refine VL.q (Q.fieldAddr fa50_0 rfl) ?_
      refine VL.q (Q.load1 ty5 rfl zM rfl) ?_
      refine VL.q (Q.fieldAddr fa50_1 rfl) ?_
      refine VL.q (Q.load1 ty5 rfl zM rfl) ?_
      refine VL.eff (O.call0 ok34 rfl rfl (by decide) (known_back) (fun _ _ _ => trivial) ?_)
      intro x57 y57
      refine VL.q (Q.move rfl) ?_
      refine VL.q (Q.extract rfl rfl) ?_
      refine VL.q (Q.extract rfl rfl) ?_
      refine VL.eff (O.alloc zo90 (by decide) ?_)
      intro g9
      refine VL.eff (O.store ty90 rfl rfl rfl rfl zU zP ?_)
      refine VL.q (Q.assign rfl) ?_
      refine VL.nil ?_
      refine VE.seq ?_
      refine VC.seq ?_
      refine VC.seq ?_
      refine VK.keep (by exact .cons (i := 2) rfl (.cons (i := 3) rfl (.cons (i := 5) rfl (.cons (i := 6) rfl (.cons (i := 7) rfl (.cons (i := 8) rfl (.cons (i := 9) rfl (.cons (i := 10) rfl ( .nil))))))))) ?_
      refine VC.region ?_
      refine VL.q (Q.move rfl) ?_
      refine VL.quietE (v' := .bool false) (by decide) (Q.not rfl) (by rfl) ?_
      refine VL.q (Q.move rfl) ?_
      refine VL.yes rfl rfl ?_
      refine VL.q (Q.move rfl) ?_
      refine VL.yes rfl rfl ?_
      refine VL.q (Q.indexAddr sl54 (j := 0) rfl rfl rfl (by omega)) ?_
      refine VL.yes rfl rfl ?_
      refine VL.q (Q.loadRow ty5 rfl zM rfl) ?_
      refine VL.yes rfl rfl ?_
      refine VL.quietE (v' := .int .u8 0) (by decide) (Q.and rfl rfl (by omega) (by simp only [khi]; omega) (by omega) (by simp only [khi]; omega)) (by rfl) ?_
      refine VL.yes rfl rfl ?_
      refine VL.quietE (v' := .bool false) (by decide) (Q.ne rfl rfl) (by rfl) ?_
      refine VL.quietE (v' := .bool false) (by decide) (Q.pick_false rfl rfl) (by rfl) ?_
      refine VL.q (Q.move rfl) ?_
      refine VL.yes rfl rfl ?_
      refine VL.q (Q.move rfl) ?_
      refine VL.yes rfl rfl ?_
      refine VL.quietE (v' := .int .u8 0) (by decide) (Q.and rfl rfl (by omega) (by simp only [khi]; omega) (by omega) (by simp only [khi]; omega)) (by rfl) ?_
      refine VL.yes rfl rfl ?_
      refine VL.quietE (v' := .bool false) (by decide) (Q.ne rfl rfl) (by rfl) ?_
      refine VL.quietE (v' := .bool false) (by decide) (Q.pick_false rfl rfl) (by rfl) ?_
      refine VL.nil ?_
      refine VE.seq ?_
      refine VC.condF rfl ?_
      refine VC.skip ?_
      refine VE.seq ?_
      refine VC.seq ?_
      refine VC.region ?_
      refine VL.q (Q.move rfl) ?_
      refine VL.quietE (v' := .int .u8 0) (by decide) (Q.and rfl rfl (by omega) (by simp only [khi]; omega) (by omega) (by simp only [khi]; omega)) (by rfl) ?_
      refine VL.quietE (v' := .bool false) (by decide) (Q.ne rfl rfl) (by rfl) ?_
      refine VL.q (Q.move rfl) ?_
      refine VL.quietE (v' := .int .u8 0) (by decide) (Q.and rfl rfl (by omega) (by simp only [khi]; omega) (by omega) (by simp only [khi]; omega)) (by rfl) ?_
      refine VL.quietE (v' := .bool false) (by decide) (Q.ne rfl rfl) (by rfl) ?_
      refine VL.q (Q.move rfl) ?_
      refine VL.quietE (v' := .int .u8 0) (by decide) (Q.and rfl rfl (by omega) (by simp only [khi]; omega) (by omega) (by simp only [khi]; omega)) (by rfl) ?_
      refine VL.quietE (v' := .bool false) (by decide) (Q.ne rfl rfl) (by rfl) ?_
      refine VL.q (Q.move rfl) ?_
      refine VL.quietE (v' := .int .u8 0) (by decide) (Q.and rfl rfl (by omega) (by simp only [khi]; omega) (by omega) (by simp only [khi]; omega)) (by rfl) ?_
      refine VL.quietE (v' := .bool false) (by decide) (Q.ne rfl rfl) (by rfl) ?_
      refine VL.q (Q.fieldAddr fa50_2 rfl) ?_
      refine VL.eff (O.store ty4 rfl rfl rfl rfl zU zP ?_)
      refine VL.q (Q.fieldAddr fa50_3 rfl) ?_
      refine VL.eff (O.store ty4 rfl rfl rfl rfl zU zP ?_)
      refine VL.q (Q.fieldAddr fa50_4 rfl) ?_
      refine VL.eff (O.store ty4 rfl rfl rfl rfl zU zP ?_)
      refine VL.q (Q.fieldAddr fa50_5 rfl) ?_
      refine VL.eff (O.store ty4 rfl rfl rfl rfl zU zP ?_)
      refine VL.nil ?_
      refine VE.seq ?_
      refine VC.seq ?_
      refine VC.region ?_
      refine VL.q (Q.move rfl) ?_
      refine VL.quietE (v' := .int .u8 0) (by decide) (Q.and rfl rfl (by omega) (by simp only [khi]; omega) (by omega) (by simp only [khi]; omega)) (by rfl) ?_
      refine VL.quietE (v' := .bool false) (by decide) (Q.ne rfl rfl) (by rfl) ?_
      refine VL.q (Q.move rfl) ?_
      refine VL.quietE (v' := .int .u8 0) (by decide) (Q.and rfl rfl (by omega) (by simp only [khi]; omega) (by omega) (by simp only [khi]; omega)) (by rfl) ?_
      refine VL.quietE (v' := .bool false) (by decide) (Q.ne rfl rfl) (by rfl) ?_
      refine VL.q (Q.move rfl) ?_
      refine VL.quietE (v' := .int .u8 0) (by decide) (Q.and rfl rfl (by omega) (by simp only [khi]; omega) (by omega) (by simp only [khi]; omega)) (by rfl) ?_
      refine VL.quietE (v' := .bool false) (by decide) (Q.ne rfl rfl) (by rfl) ?_
      refine VL.q (Q.fieldAddr fa50_6 rfl) ?_
      refine VL.eff (O.store ty4 rfl rfl rfl rfl zU zP ?_)
      refine VL.q (Q.fieldAddr fa50_7 rfl) ?_
      refine VL.eff (O.store ty4 rfl rfl rfl rfl zU zP ?_)
      refine VL.q (Q.fieldAddr fa50_8 rfl) ?_
      refine VL.eff (O.store ty4 rfl rfl rfl rfl zU zP ?_)
      refine VL.nil ?_
      refine VE.seq ?_
      refine VC.seq ?_
      refine VK.keep (by exact .cons (i := 2) rfl (.cons (i := 3) rfl (.cons (i := 5) rfl (.cons (i := 8) rfl (.cons (i := 9) rfl ( .nil)))))) ?_
      refine VC.region ?_
      refine VL.q (Q.move rfl) ?_
      refine VL.eff (O.callB ok35 rfl rfl (by decide) (two_c _ gr 2 14 (c22 - 2) _ ((D : Int) % 256) ((D : Int) / 256) (D : Int) (by omega) (by omega) (by omega) hne (by omega) (by omega) (sliceOff_lt (by omega))) zK (fun _ _ hw => Rd.rowP hw zM zS) ?_)
      intro x104 y104
      refine VL.q (Q.fieldAddr fa50_9 rfl) ?_
      refine VL.eff (O.store ty3 rfl rfl rfl rfl zU zP ?_)
      refine VL.nil ?_
      refine VE.seq ?_
      refine VC.seq ?_
      refine VC.region ?_
      refine VL.eff (O.call0 ok36 rfl rfl (by decide) (places_back _) (fun _ _ hw => Rd.seg hw zM zS) ?_)
      intro x107 y107
      refine VL.q (Q.move rfl) ?_
      refine VL.q (Q.extract rfl rfl) ?_
      refine VL.q (Q.extract rfl rfl) ?_
      refine VL.q (Q.assign rfl) ?_
      refine VL.q (Q.assign rfl) ?_
      refine VL.nil ?_
      refine VE.seq ?_
      refine VC.seq ?_
      refine VC.seq ?_
      refine VC.region ?_
      refine VL.q (Q.move rfl) ?_
      refine VL.q (Q.len sl93 rfl) ?_
      refine VL.q (Q.move rfl) ?_
      refine VL.nil ?_
      refine VE.seq ?_
      refine VC.block ?_
      refine VC.rounds 40 ?_
      refine VC.rnd (m := 39) ?_
      refine VC.seq ?_
      refine VC.region ?_
      refine VL.q (Q.lt rfl rfl) ?_
      refine VL.nil ?_
      refine VE.seq ?_
      refine VC.seq ?_
      refine VC.condT rfl ?_
      refine VC.skip ?_
      refine VE.seq ?_
      refine VC.seq ?_
      refine VC.block ?_
      refine VC.seq ?_
      refine VC.region ?_
      refine VL.q (Q.indexAddr sl93 (j := 0) rfl rfl rfl (by omega)) ?_
      refine VL.q (Q.load1 ty97 rfl zM rfl) ?_
      refine VL.q (Q.assign rfl) ?_
      refine VL.nil ?_
      refine VE.seq ?_
      refine VA.start (Ls := []) (Cs := []) mixed ?_
      refine VA.take 0 rfl (by kernel_rfl) (by kernel_rfl) (by kernel_rfl) (Still.block (Still.then (Still.then (Still.block (Still.then Still.body))))) (List.nil_sublist _) Cells.nil (by decide) (Quiet.c (Q.move rfl)) ?_
      refine VA.take 1 rfl (by kernel_rfl) (by kernel_rfl) (by kernel_rfl) (Still.block (Still.then (Still.then (Still.block (Still.then Still.body))))) (List.nil_sublist _) Cells.nil (by decide) (Quiet.c (Q.nilCheck rfl)) ?_
      refine VA.take 2 rfl (by kernel_rfl) (by kernel_rfl) (by kernel_rfl) (Still.block (Still.then (Still.then (Still.block (Still.then Still.body))))) (List.nil_sublist _) Cells.nil (by decide) (Quiet.c (Q.slcA0 ar43 (h := _) rfl rfl (by omega))) ?_
      refine VA.take 3 rfl (by kernel_rfl) (by kernel_rfl) (by kernel_rfl) (Still.block (Still.then (Still.then (Still.block (Still.then Still.body))))) (List.nil_sublist _) Cells.nil (by decide) (Quiet.c (Q.move rfl)) ?_
      refine VA.all (rs := [4]) (by kernel_rfl) (by simp) ?_
      refine VA.forall1 ?_
      · skip
        refine VA.eff rfl ?_
        refine id (O.callB ok33 rfl rfl (by decide) (take_c _ gr 4 12 ((c22 - 2) - 2) 6 _ (by omega) (by omega) (sliceOff_lt (by omega))) zK (fun _ _ _ => trivial) ?_)
        intro x120 y120
        refine VA.next (List.nil_sublist _) Cells.nil ?_
        refine VA.all (rs := [5]) (by kernel_rfl) (by simp) ?_
        refine VA.forall1 ?_
        · skip
          refine VA.eff rfl ?_
          refine id (O.copyR sl54 rfl rfl zM zS rfl (by decide) zU zP ?_)
          refine VA.next (List.nil_sublist _) Cells.nil ?_
          refine VA.done (by kernel_rfl) ?_
          refine VE.block_normal ?_
          refine VE.seq ?_
          refine VC.region ?_
          refine VL.quietE (v' := .int .i64 1) (by decide) ((by first | exact Q.addI rfl rfl (by omega) (by omega) | exact Q.add rfl rfl)) (by rfl) ?_
          refine VL.q (Q.move rfl) ?_
          refine VL.nil ?_
          refine VE.then_normal ?_
          refine VC.rnd (m := 38) ?_
          refine VC.seq ?_
          refine VC.region ?_
          refine VL.q (Q.lt rfl rfl) ?_
          refine VL.nil ?_
          refine VE.seq ?_
          refine VC.seq ?_
          refine VC.condT rfl ?_
          refine VC.skip ?_
          refine VE.seq ?_
          refine VC.seq ?_
          refine VC.block ?_
          refine VC.seq ?_
          refine VC.region ?_
          refine VL.q (Q.indexAddr sl93 (j := 1) rfl rfl rfl (by omega)) ?_
          refine VL.q (Q.load1 ty97 rfl zM rfl) ?_
          refine VL.q (Q.assign rfl) ?_
          refine VL.nil ?_
          refine VE.seq ?_
          refine VA.start (Ls := []) (Cs := []) mixed ?_
          refine VA.take 0 rfl (by kernel_rfl) (by kernel_rfl) (by kernel_rfl) (Still.block (Still.then (Still.then (Still.block (Still.then Still.body))))) (List.nil_sublist _) Cells.nil (by decide) (Quiet.c (Q.move rfl)) ?_
          refine VA.take 1 rfl (by kernel_rfl) (by kernel_rfl) (by kernel_rfl) (Still.block (Still.then (Still.then (Still.block (Still.then Still.body))))) (List.nil_sublist _) Cells.nil (by decide) (Quiet.c (Q.nilCheck rfl)) ?_
          refine VA.take 2 rfl (by kernel_rfl) (by kernel_rfl) (by kernel_rfl) (Still.block (Still.then (Still.then (Still.block (Still.then Still.body))))) (List.nil_sublist _) Cells.nil (by decide) (Quiet.c (Q.slcA0 ar43 (h := _) rfl rfl (by omega))) ?_
          refine VA.take 3 rfl (by kernel_rfl) (by kernel_rfl) (by kernel_rfl) (Still.block (Still.then (Still.then (Still.block (Still.then Still.body))))) (List.nil_sublist _) Cells.nil (by decide) (Quiet.c (Q.move rfl)) ?_
          refine VA.all (rs := [4]) (by kernel_rfl) (by simp) ?_
          refine VA.forall1 ?_
          · skip
            refine VA.eff rfl ?_
            refine id (O.callB ok33 rfl rfl (by decide) (take_c _ gr 10 6 (((c22 - 2) - 2) - 6) 6 _ (by omega) (by omega) rfl) zK (fun _ _ _ => trivial) ?_)
            intro x120_1 y120_1
            refine VA.next (List.nil_sublist _) Cells.nil ?_
            refine VA.all (rs := [5]) (by kernel_rfl) (by simp) ?_
            refine VA.forall1 ?_
            · skip
              refine VA.eff rfl ?_
              refine id (O.copyR sl54 rfl rfl zM zS rfl (by decide) zU zP ?_)
              refine VA.next (List.nil_sublist _) Cells.nil ?_
              refine VA.done (by kernel_rfl) ?_
              refine VE.block_normal ?_
              refine VE.seq ?_
              refine VC.region ?_
              refine VL.quietE (v' := .int .i64 2) (by decide) ((by first | exact Q.addI rfl rfl (by omega) (by omega) | exact Q.add rfl rfl)) (by rfl) ?_
              refine VL.q (Q.move rfl) ?_
              refine VL.nil ?_
              refine VE.then_normal ?_
              refine VC.rnd (m := 37) ?_
              refine VC.seq ?_
              refine VC.region ?_
              refine VL.q (Q.lt rfl rfl) ?_
              refine VL.nil ?_
              refine VE.seq ?_
              refine VC.seq ?_
              refine VC.condF rfl ?_
              refine VC.exit ?_
              refine VE.then_exit ?_
              refine VE.then_exit ?_
              refine VE.block_here ?_
              refine VE.seq ?_
              refine VC.seq ?_
              refine VC.seq ?_
              refine VC.region ?_
              refine VL.q (Q.fieldAddr fa90_1 rfl) ?_
              refine VL.q (Q.load1 ty4 rfl zM rfl) ?_
              refine VL.nil ?_
              refine VE.seq ?_
              refine VC.condF rfl ?_
              refine VC.skip ?_
              refine VE.seq ?_
              refine VC.seq ?_
              refine VC.seq ?_
              refine VC.region ?_
              refine VL.q (Q.move rfl) ?_
              refine VL.q (Q.len sl93 rfl) ?_
              refine VL.q (Q.move rfl) ?_
              refine VL.nil ?_
              refine VE.seq ?_
              refine VC.block ?_
              refine VC.rounds 40 ?_
              refine VC.rnd (m := 39) ?_
              refine VC.seq ?_
              refine VC.region ?_
              refine VL.q (Q.lt rfl rfl) ?_
              refine VL.nil ?_
              refine VE.seq ?_
              refine VC.seq ?_
              refine VC.condF rfl ?_
              refine VC.exit ?_
              refine VE.then_exit ?_
              refine VE.then_exit ?_
              refine VE.block_here ?_
              refine VE.seq ?_
              refine VC.seq ?_
              refine VC.region ?_
              refine VL.q (Q.assign rfl) ?_
              refine VL.nil ?_
              refine VE.seq ?_
              refine VC.seq ?_
              refine VC.seq ?_
              refine VC.region ?_
              refine VL.q (Q.fieldAddr fa90_2 rfl) ?_
              refine VL.q (Q.load1 ty4 rfl zM rfl) ?_
              refine VL.nil ?_
              refine VE.seq ?_
              refine VC.condF rfl ?_
              refine VC.skip ?_
              refine VE.seq ?_
              refine VC.seq ?_
              refine VC.seq ?_
              refine VC.region ?_
              refine VL.q (Q.move rfl) ?_
              refine VL.q (Q.nilCheck rfl) ?_
              refine VL.q (Q.fieldAddr fa86_1 rfl) ?_
              refine VL.q (Q.load1 ty4 rfl zM rfl) ?_
              refine VL.nil ?_
              refine VE.seq ?_
              refine VC.condF rfl ?_
              refine VC.skip ?_
              refine VE.seq ?_
              refine VC.seq ?_
              refine VC.seq ?_
              refine VK.keep (by exact .cons (i := 2) rfl (.cons (i := 3) rfl (.cons (i := 5) rfl (.cons (i := 8) rfl (.cons (i := 18) rfl ( .nil)))))) ?_
              refine VC.region ?_
              refine VL.q (Q.move rfl) ?_
              refine VL.q (Q.move rfl) ?_
              refine VL.yes rfl rfl ?_
              refine VL.q (Q.loadA ty50 rfl zM zS) ?_
              refine VL.yes rfl rfl ?_
              refine VL.eff (O.call0 ok28 rfl rfl (by decide) (check_back D hD) (fun _ _ _ => trivial) ?_)
              intro x182 y182
              refine VL.yes rfl rfl ?_
              refine VL.quietE (v' := .bool false) (by decide) (Q.ne rfl rfl) (by rfl) ?_
              refine VL.quietE (v' := .bool false) (by decide) (Q.pick_false rfl rfl) (by rfl) ?_
              refine VL.q (Q.move rfl) ?_
              refine VL.yes rfl rfl ?_
              refine VL.q (Q.loadA ty50 rfl zM zS) ?_
              refine VL.yes rfl rfl ?_
              refine VL.eff (O.call0 ok29 rfl rfl (by decide) (bare_back D) (fun _ _ _ => trivial) ?_)
              intro x187 y187
              refine VL.yes rfl rfl ?_
              refine VL.q (Q.move rfl) ?_
              refine VL.no (by simp) rfl rfl (.inl rfl) ?_
              refine VL.no (by simp) rfl rfl (.inl rfl) ?_
              refine VL.no (by simp) rfl rfl (.inl rfl) ?_
              refine VL.no (by simp) rfl rfl (.inl rfl) ?_
              refine VL.no (by simp) rfl rfl (.inl rfl) ?_
              refine VL.no (by simp) rfl rfl (.inl rfl) ?_
              refine VL.yes rfl rfl ?_
              refine VL.quietE (v' := .bool false) (by decide) (Q.pick_false rfl rfl) (by rfl) ?_
              refine VL.quietE (v' := .bool false) (by decide) (Q.pick_false rfl rfl) (by rfl) ?_
              refine VL.nil ?_
              refine VE.seq ?_
              refine VC.condF rfl ?_
              refine VC.skip ?_
              refine VE.seq ?_
              refine VC.seq ?_
              refine VC.seq ?_
              refine VC.region ?_
              refine VL.q (Q.move rfl) ?_
              refine VL.q (Q.nilCheck rfl) ?_
              refine VL.q (Q.fieldAddr fa86_0 rfl) ?_
              refine VL.q (Q.load1 ty54 rfl zM rfl) ?_
              refine VL.q (Q.len sl54 rfl) ?_
              refine VL.quietE (v' := .bool false) (by decide) (Q.gt rfl rfl) (by rfl) ?_
              refine VL.nil ?_
              refine VE.seq ?_
              refine VC.condF rfl ?_
              refine VC.skip ?_
              refine VE.seq ?_
              refine VC.seq ?_
              refine VA.start (Ls := [.blk g31 [.slice (some ⟨gr, sliceOff (((c22 - 2) - 2) - 6) 6 10 1, none⟩) (6 - 6) ((((c22 - 2) - 2) - 6) - 6), .bool false] 86, .blk g8 [.int .u8 1, .int .u8 9, .bool false, .bool false, .bool false, .bool false, .bool false, .bool false, .bool false, .int .i64 (D : Int), .int .u8 2, .int .u8 0, .int .u8 0, .int .u8 0, .int .u8 0, .int .u8 2, .int .u8 2, .int .u8 0, .int .u8 0, .int .u8 0, .int .u8 0, .int .u8 1, .int .u8 0, .int .u8 0, .int .u8 0, .int .u8 0, .int .u8 0, .int .u8 0, .int .u8 0, .int .u8 0, .int .u8 0, .int .u8 0, .int .u8 0, .int .u8 0, .int .i64 0, .int .i64 0, .int .i64 0, .int .u8 0, .bool false, .bool false] 50]) (Cs := []) mixed ?_
              refine VA.take 0 rfl (by kernel_rfl) (by kernel_rfl) (by kernel_rfl) (Still.then Still.body) zB Cells.nil (by decide) (Quiet.c (Q.loadA ty50 rfl zM zS)) ?_
              refine VA.take 2 rfl (by kernel_rfl) (by kernel_rfl) (by kernel_rfl) (Still.then Still.body) zB Cells.nil (by decide) (Quiet.c (Q.move rfl)) ?_
              refine VA.take 3 rfl (by kernel_rfl) (by kernel_rfl) (by kernel_rfl) (Still.then Still.body) zB Cells.nil (by decide) (Quiet.c (Q.nilCheck rfl)) ?_
              refine VA.take 4 rfl (by kernel_rfl) (by kernel_rfl) (by kernel_rfl) (Still.then Still.body) zB Cells.nil (by decide) (Quiet.c (Q.fieldAddr fa86_0 rfl)) ?_
              refine VA.take 5 rfl (by kernel_rfl) (by kernel_rfl) (by kernel_rfl) (Still.then Still.body) zB Cells.nil (by decide) (Quiet.c (Q.load1 ty54 rfl zM rfl)) ?_
              refine VA.all (rs := [1]) (by kernel_rfl) (by simp) ?_
              refine VA.forall1 ?_
              · skip
                refine VA.eff rfl ?_
                refine id (O.buildSlice0 sl54 (by decide) ?_)
                intro g206
                refine VA.next zB Cells.nil ?_
                refine VA.take 6 rfl (by kernel_rfl) (by kernel_rfl) (by kernel_rfl) (Still.then Still.body) zB Cells.nil (by decide) (Quiet.c (Q.append0 sl54 rfl rfl (by omega))) ?_
                refine VA.take 7 rfl (by kernel_rfl) (by kernel_rfl) (by kernel_rfl) (Still.then Still.body) zB Cells.nil (by decide) (Quiet.c (Q.build lay58 zF)) ?_
                refine VA.all (rs := [8]) (by kernel_rfl) (by simp) ?_
                refine VA.forall1 ?_
                · skip
                  refine VA.eff rfl ?_
                  refine id (O.store ty58 rfl rfl rfl rfl zU zP ?_)
                  refine VA.next zB Cells.nil ?_
                  refine VA.take 9 rfl (by kernel_rfl) (by kernel_rfl) (by kernel_rfl) (Still.then Still.body) zB Cells.nil (by decide) (Quiet.c (Q.assign rfl)) ?_
                  refine VA.done (by kernel_rfl) ?_
                  refine VE.seq ?_
                  refine VC.ret ?_
                  exact VE.ret rfl (.cell ty58 rfl zM rfl (.tmp rfl .nil)) g206 trivial rfl (List.nil_sublist _)

end Go.Proofs.YtencghlmckbmlaaDoor
