/- The contracts of package body: a beacon is read. Conditions: those that each bears. -/
import Derived.Test.YtencghlmckbmlaaGreatRows
import Derived.Test.YtencghlmckbmlaaGreatCBody2
namespace Go.Proofs.YtencghlmckbmlaaGreat
open Go Go.RowKit Go.Sx
set_option maxRecDepth 100000

theorem fa232_0 : tyField Tryz.prog 232 0 = some 0 := by kernel_rfl
theorem fa232_1 : tyField Tryz.prog 232 1 = some 2 := by kernel_rfl
theorem lay111 : laysOf Tryz.prog 111 = some ([.int .u64 0, .int .u16 0, .int .u16 0, .slice none 0 0], [(0, 1), (1, 1), (2, 1), (3, 1)]) := by kernel_rfl
theorem lay230 : laysOf Tryz.prog 230 = some ([.slice none 0 0, .int .i64 0], [(0, 1), (1, 1)]) := by kernel_rfl
theorem lay232 : laysOf Tryz.prog 232 = some ([.slice none 0 0, .int .i64 0, .int .i64 0], [(0, 2), (2, 1)]) := by kernel_rfl
theorem ok106 : okFunc Tryz.prog 106 = true := by kernel_rfl
theorem ok108 : okFunc Tryz.prog 108 = true := by kernel_rfl
theorem ok159 : okFunc Tryz.prog 159 = true := by kernel_rfl
theorem ok78 : okFunc Tryz.prog 78 = true := by kernel_rfl
theorem ok79 : okFunc Tryz.prog 79 = true := by kernel_rfl
theorem ok80 : okFunc Tryz.prog 80 = true := by kernel_rfl
theorem ok81 : okFunc Tryz.prog 81 = true := by kernel_rfl
theorem ok82 : okFunc Tryz.prog 82 = true := by kernel_rfl
theorem ty111 : tySz Tryz.prog 111 = some (true, 4) := by kernel_rfl
theorem ty72 : tySz Tryz.prog 72 = some (false, 1) := by kernel_rfl
theorem zo111 : tyZero Tryz.prog 111 = some [.int .u64 0, .int .u16 0, .int .u16 0, .slice none 0 0] := by kernel_rfl

theorem or2 (x y : UInt8) : ((((x.toNat : Int)).toNat ||| ((y.toNat : Int) * 256).toNat : Nat) : Int) = (leP [x, y] : Int) := by
  have h := leP_step [x, y] 1 (by simp)
  have e1 : leP ([x, y].take 1) = x.toNat := by simp [leP]
  have e2 : ((y.toNat : Int) * 256).toNat = y.toNat * 2 ^ (8 * 1) := by
    rw [show (2 : Nat) ^ (8 * 1) = 256 from rfl]
    omega
  rw [Int.toNat_natCast, e2, ← e1]
  exact congrArg _ h
theorem bcn_time (iv : Nat) (els : List El) : leP (((bcnB iv els).drop 0).take 8) = 7 := (show leP (putLE 8 7) = 7 from leP_put 7 8 (by decide))
theorem bcn_iv (iv : Nat) (els : List El) : ((bcnB iv els).drop 8).take 2 = [UInt8.ofNat (iv / 256 ^ 0), UInt8.ofNat (iv / 256 ^ 1)] := rfl
theorem bcn_caps (iv : Nat) (els : List El) : ((bcnB iv els).drop 10).take 2 = [UInt8.ofNat (0 / 256 ^ 0), UInt8.ofNat (0 / 256 ^ 1)] := rfl
theorem le_iv (iv : Nat) (h : iv < 65536) : leP [UInt8.ofNat (iv / 256 ^ 0), UInt8.ofNat (iv / 256 ^ 1)] = iv := (show leP (putLE 2 iv) = iv from leP_put iv 2 h)

theorem bread_c (b o n c : Nat) (hn : n ≤ 2304) :
  Does Tryz.prog 78 [.slice (some ⟨b, o, none⟩) n c] [] (fun _ => True) (X := Nat) (fun _ => True) (fun x => .pointer (some ⟨x, 0, none⟩)) (fun x => [.blk x [.slice (some ⟨b, o, none⟩) n c, .int .i64 ((0 : Nat) : Int), .int .i64 0] 232]) := by
 refine Does.enter Tryz.func78 rfl (m := 15) rfl (by simp) ?_
 intro W0 hro
 refine VC.seq ?_
 refine VC.region ?_
 refine VL.q (Q.assign rfl) ?_
 refine VL.nil ?_
 refine VE.seq ?_
 refine VC.seq ?_
 refine VC.region ?_
 refine VL.q (Q.move rfl) ?_
 refine VL.q (Q.build lay230 zF) ?_
 refine VL.q (Q.build lay232 zF) ?_
 refine VL.eff (O.box rfl rfl (by decide) ?_)
 intro g7
 refine VL.q (Q.assign rfl) ?_
 refine VL.nil ?_
 refine VE.seq ?_
 refine VC.seq ?_
 refine VC.seq ?_
 refine VC.region ?_
 refine VL.q (Q.move rfl) ?_
 refine VL.q (Q.len sl23 rfl) ?_
 refine VL.quietE (v' := .bool false) (by decide) (Q.gt rfl rfl) (congrArg Value.bool (decide_eq_false (by omega))) ?_
 refine VL.nil ?_
 refine VE.seq ?_
 refine VC.condF rfl ?_
 refine VC.skip ?_
 refine VE.seq ?_
 refine VC.seq ?_
 refine VC.region ?_
 refine VL.q (Q.move rfl) ?_
 refine VL.q (Q.assign rfl) ?_
 refine VL.nil ?_
 refine VE.seq ?_
 refine VC.ret ?_
 refine VE.ret rfl (.tmp rfl .nil) g7 ?_ ?_ zB
 ·
  trivial
 ·
  first | rfl | (exfalso; simp at *; omega)

theorem bbytes_c (g b o n c at0 k : Nat) (l : List UInt8) (hl : l.length = n) (h : at0 + k ≤ n) (h1 : 1 ≤ k) (hc : n ≤ c) (hn : n ≤ 2304) :
  Does Tryz.prog 106 [.pointer (some ⟨g, 0, none⟩), .int .i64 (k : Int)] [.blk g [.slice (some ⟨b, o, none⟩) n c, .int .i64 (at0 : Int), .int .i64 0] 232] (fun W => Rd W (some ⟨b, o, none⟩) (bs l) ∧ b ≠ g) (X := Option Addr × Nat) (fun x => k ≤ x.2) (fun x => .slice x.1 k x.2) (fun x => [.row (.slice x.1 k x.2) 5 1 k (bs ((l.drop at0).take k)), .blk g [.slice (some ⟨b, o, none⟩) n c, .int .i64 ((at0 + k : Nat) : Int), .int .i64 0] 232]) := by
 refine Does.enter Tryz.func106 rfl (m := 36) rfl (by simp) ?_
 rintro W0 ⟨hro, hbg⟩
 refine VC.seq ?_
 refine VC.region ?_
 refine VL.q (Q.assign rfl) ?_
 refine VL.nil ?_
 refine VE.seq ?_
 refine VC.seq ?_
 refine VC.seq ?_
 refine VC.region ?_
 refine VL.q (Q.move rfl) ?_
 refine VL.q (Q.nilCheck rfl) ?_
 refine VL.q (Q.fieldAddr fa232_1 rfl) ?_
 refine VL.q (Q.load1 ty72 rfl zM rfl) ?_
 refine VL.quietE (v' := .bool true) (by decide) (Q.eq rfl rfl) (by rfl) ?_
 refine VL.nil ?_
 refine VE.seq ?_
 refine VC.condT rfl ?_
 refine VC.seq ?_
 refine VC.region ?_
 refine VL.q (Q.move rfl) ?_
 refine VL.q (Q.nilCheck rfl) ?_
 refine VL.q (Q.fieldAddr fa232_0 rfl) ?_
 refine VL.q (Q.loadA ty230 rfl zM zS) ?_
 refine VL.q (Q.move rfl) ?_
 refine VL.eff (O.call0 ok108 rfl rfl (by decide) (otake_c b o n c at0 k l hl h h1 hc (by omega)) (fun _ ho _ => hro.only ho (fun x e => by cases e; simpa [Rs.ids] using hbg)) ?_)
 intro x19 y19
 refine VL.q (Q.move rfl) ?_
 refine VL.q (Q.extract rfl rfl) ?_
 refine VL.q (Q.extract rfl rfl) ?_
 refine VL.q (Q.extract rfl rfl) ?_
 refine VL.eff (O.alloc zo230 (by decide) ?_)
 intro g6
 refine VL.q (Q.assign rfl) ?_
 refine VL.eff (O.store ty230 rfl rfl rfl rfl zU zP ?_)
 refine VL.q (Q.assign rfl) ?_
 refine VL.nil ?_
 refine VE.seq ?_
 refine VC.seq ?_
 refine VC.seq ?_
 refine VC.region ?_
 refine VL.q (Q.move rfl) ?_
 refine VL.quietE (v' := .bool true) (by decide) (Q.eq rfl rfl) (by rfl) ?_
 refine VL.nil ?_
 refine VE.seq ?_
 refine VC.condT rfl ?_
 refine VC.seq ?_
 refine VC.region ?_
 refine VL.q (Q.move rfl) ?_
 refine VL.q (Q.loadA ty230 rfl zM zS) ?_
 refine VL.q (Q.nilCheck rfl) ?_
 refine VL.q (Q.fieldAddr fa232_0 rfl) ?_
 refine VL.eff (O.store ty230 rfl rfl rfl rfl zU zP ?_)
 refine VL.nil ?_
 refine VE.seq ?_
 refine VC.seq ?_
 refine VC.region ?_
 refine VL.q (Q.move rfl) ?_
 refine VL.q (Q.assign rfl) ?_
 refine VL.nil ?_
 refine VE.seq ?_
 refine VC.ret ?_
 refine VE.then_ret ?_
 refine VE.then_ret ?_
 exact VE.ret rfl (.tmp rfl .nil) x19 y19 rfl zB

theorem btwo_c (g b o n c at0 : Nat) (l : List UInt8) (hl : l.length = n) (hc : n ≤ c) (hn : n ≤ 2304) (x y : UInt8) (h : at0 + 2 ≤ n) (hxy : (l.drop at0).take 2 = [x, y]) :
  Does Tryz.prog 79 [.pointer (some ⟨g, 0, none⟩)] [.blk g [.slice (some ⟨b, o, none⟩) n c, .int .i64 (at0 : Int), .int .i64 0] 232] (fun W => Rd W (some ⟨b, o, none⟩) (bs l) ∧ b ≠ g) (X := Unit) (fun _ => True) (fun _ => .int .u16 (leP [x, y] : Int)) (fun _ => [.blk g [.slice (some ⟨b, o, none⟩) n c, .int .i64 ((at0 + 2 : Nat) : Int), .int .i64 0] 232]) := by
 have hbx := byte_bd x
 have hby := byte_bd y
 refine Does.enter Tryz.func79 rfl (m := 16) rfl (by simp) ?_
 rintro W0 ⟨hro, hbg⟩
 refine VC.seq ?_
 refine VC.region ?_
 refine VL.q (Q.assign rfl) ?_
 refine VL.nil ?_
 refine VE.seq ?_
 refine VC.seq ?_
 refine VC.region ?_
 refine VL.q (Q.move rfl) ?_
 refine VL.eff (O.callF ok106 rfl rfl (by decide) (bbytes_c g b o n c at0 2 l hl h (by decide) hc hn) zM2 (fun _ ho _ => ⟨hro.only ho (fun x e => by cases e; simpa [Rs.ids] using hbg), hbg⟩) ?_)
 rintro ⟨p5, c5⟩ y5
 rw [hxy]
 refine VK.rowHead (m := 2) (p := p5) (c := c5) zM (by decide) ?_
 intro gr hgr _ _
 subst hgr
 refine VL.q (Q.assign rfl) ?_
 refine VL.nil ?_
 refine VE.seq ?_
 refine VC.seq ?_
 refine VA.start (Ls := [.row (.slice (some ⟨gr, 0, none⟩) 2 c5) 5 1 2 (bs [x, y])]) (Cs := []) mixed ?_
 refine VA.tk 0 rfl (zt ze) (List.singleton_sublist.2 zM) Cells.nil (Quiet.c (Q.move rfl)) ?_
 refine VA.tk 1 rfl (zt ze) (List.singleton_sublist.2 zM) Cells.nil (Quiet.c (Q.indexAddr sl23 (j := 0) rfl rfl rfl (by omega))) ?_
 refine VA.tk 2 rfl (zt ze) (List.singleton_sublist.2 zM) Cells.nil (Quiet.c (Q.loadRow ty5 rfl zM rfl)) ?_
 refine VA.tk 3 rfl (zt ze) (List.singleton_sublist.2 zM) Cells.nil (Quiet.c ((by first | exact Q.convF ti5 ti26 rfl (by simp only [klo]; omega) (by simp only [khi]; omega) | exact Q.convM (M := 65536) ti5 ti26 rfl rfl rfl | exact Q.conv ti5 ti26 rfl))) ?_
 refine VA.tk 4 rfl (zt ze) (List.singleton_sublist.2 zM) Cells.nil (Quiet.c (Q.move rfl)) ?_
 refine VA.tk 5 rfl (zt ze) (List.singleton_sublist.2 zM) Cells.nil (Quiet.c (Q.indexAddr sl23 (j := 1) rfl rfl rfl (by omega))) ?_
 refine VA.tk 6 rfl (zt ze) (List.singleton_sublist.2 zM) Cells.nil (Quiet.c (Q.loadRow ty5 rfl zM rfl)) ?_
 refine VA.tk 7 rfl (zt ze) (List.singleton_sublist.2 zM) Cells.nil (Quiet.c ((by first | exact Q.convF ti5 ti26 rfl (by simp only [klo]; omega) (by simp only [khi]; omega) | exact Q.convM (M := 65536) ti5 ti26 rfl rfl rfl | exact Q.conv ti5 ti26 rfl))) ?_
 refine VA.tk 8 rfl (zt ze) (List.singleton_sublist.2 zM) Cells.nil (Quiet.c ((by first | exact Q.shlF (s := 8) (m := 256) rfl rfl (by decide) (by decide) (by simp only [klo]; omega) (by simp only [khi]; omega) | exact Q.shlM (M := 65536) (s := 8) (m := 256) rfl rfl (by decide) (by decide) rfl rfl))) ?_
 refine VA.tk 9 rfl (zt ze) (List.singleton_sublist.2 zM) Cells.nil (Quiet.c (Quiet.to (v' := .int .u16 (leP [x, y] : Int)) (Q.or rfl rfl (by omega) (by simp only [khi]; omega) (by omega) (by simp only [khi]; omega)) (congrArg (Value.int .u16) (or2 x y)))) ?_
 refine VA.tk 10 rfl (zt ze) (List.singleton_sublist.2 zM) Cells.nil (Quiet.c (Q.assign rfl)) ?_
 refine VA.done (by kernel_rfl) ?_
 refine VE.seq ?_
 refine VC.ret ?_
 exact VE.ret rfl (.tmp rfl .nil) () trivial rfl zB

theorem beight_c (g b o n c at0 : Nat) (l : List UInt8) (hl : l.length = n) (hc : n ≤ c) (hn : n ≤ 2304) (h : at0 + 8 ≤ n) :
  Does Tryz.prog 80 [.pointer (some ⟨g, 0, none⟩)] [.blk g [.slice (some ⟨b, o, none⟩) n c, .int .i64 (at0 : Int), .int .i64 0] 232] (fun W => Rd W (some ⟨b, o, none⟩) (bs l) ∧ b ≠ g) (X := Unit) (fun _ => True) (fun _ => .int .u64 (leP ((l.drop at0).take 8) : Int)) (fun _ => [.blk g [.slice (some ⟨b, o, none⟩) n c, .int .i64 ((at0 + 8 : Nat) : Int), .int .i64 0] 232]) := by
 have hlb : ((l.drop at0).take 8).length = 8 := by simp; omega
 have hle := leP_lt ((l.drop at0).take 8)
 rw [hlb] at hle
 refine Does.enter Tryz.func80 rfl (m := 22) rfl (by simp) ?_
 rintro W0 ⟨hro, hbg⟩
 refine VC.seq ?_
 refine VC.region ?_
 refine VL.q (Q.assign rfl) ?_
 refine VL.nil ?_
 refine VE.seq ?_
 refine VC.seq ?_
 refine VC.seq ?_
 refine VC.region ?_
 refine VL.q (Q.move rfl) ?_
 refine VL.eff (O.callF ok106 rfl rfl (by decide) (bbytes_c g b o n c at0 8 l hl h (by decide) hc hn) zM2 (fun _ ho _ => ⟨hro.only ho (fun x e => by cases e; simpa [Rs.ids] using hbg), hbg⟩) ?_)
 rintro ⟨p6, c6⟩ y6
 refine VK.rowHead (m := 8) (p := p6) (c := c6) zM (by decide) ?_
 intro gr hgr _ _
 subst hgr
 refine VL.q (Q.len sl23 rfl) ?_
 refine VL.q (Q.move rfl) ?_
 refine VL.nil ?_
 refine VE.seq ?_
 refine VC.block ?_
 refine VC.loop (X := Nat) (fun k => [(6, .slice (some ⟨gr, 0, none⟩) 8 c6), (7, .int .i64 8), (8, .int .i64 (k : Int)), (2, .int .u64 (leP (((l.drop at0).take 8).take k) : Int))]) (fun k => [.row (.slice (some ⟨gr, 0, none⟩) 8 c6) 5 1 8 (bs ((l.drop at0).take 8)), .blk g [.slice (some ⟨b, o, none⟩) n c, .int .i64 ((at0 + 8 : Nat) : Int), .int .i64 0] 232]) (fun k => k ≤ 8) (fun k => 8 - k) 0 (Nat.zero_le _) ?_ ?_
 ·
  exact VS.mk zE zB
 ·
  intro k hk
  refine VC.seq ?_
  refine VC.region ?_
  refine VL.q (Q.lt rfl rfl) ?_
  refine VL.nil ?_
  refine VE.seq ?_
  refine VC.seq ?_
  refine VC.cond rfl ?_ ?_
  ·
   intro h9
   have hkl : k < ((l.drop at0).take 8).length := by rw [hlb]; have := of_decide_eq_true h9; omega
   have hst := leP_step ((l.drop at0).take 8) k hkl
   have hbk := byte_bd ((l.drop at0).take 8)[k]
   have hk64 := leP_lt64 (((l.drop at0).take 8).take k) (by simp; omega)
   have hs64 : ((l.drop at0).take 8)[k].toNat * 2 ^ (8 * k) < 18446744073709551616 := by
    have h1 : 2 ^ (8 * k) ≤ 2 ^ 56 := Nat.pow_le_pow_right (by decide) (by omega)
    have h2 : ((l.drop at0).take 8)[k].toNat * 2 ^ (8 * k) ≤ 255 * 2 ^ 56 := Nat.mul_le_mul (by omega) h1
    omega
   refine VC.skip ?_
   refine VE.seq ?_
   refine VC.seq ?_
   refine VC.block ?_
   refine VC.seq ?_
   refine VC.region ?_
   refine VL.q (Q.move rfl) ?_
   refine VL.q (Q.indexAddr sl23 (j := k) rfl rfl rfl (by omega)) ?_
   refine VL.q (Q.loadRow (v := .int .u8 (((l.drop at0).take 8)[k].toNat : Int)) ty5 rfl zM (by rw [Nat.zero_add, Nat.mul_one]; exact bs_get _ k hkl)) ?_
   refine VL.q (Q.assign rfl) ?_
   refine VL.q (Q.assign rfl) ?_
   refine VL.nil ?_
   refine VE.seq ?_
   refine VC.region ?_
   refine VL.q (Q.move rfl) ?_
   refine VL.q (Q.move rfl) ?_
   refine VL.q ((by first | exact Q.convF ti5 ti108 rfl (by simp only [klo]; omega) (by simp only [khi]; omega) | exact Q.convM (M := 18446744073709551616) ti5 ti108 rfl rfl rfl | exact Q.conv ti5 ti108 rfl)) ?_
   refine VL.q (Q.move rfl) ?_
   refine VL.q ((by first | exact Q.mulI rfl rfl (by omega) (by omega) | exact Q.mul rfl rfl)) ?_
   refine VL.quietE (v' := .int .u64 ((((l.drop at0).take 8)[k].toNat * 2 ^ (8 * k) : Nat) : Int)) (by decide) (Q.shl rfl rfl (by omega)) (congrArg (Value.int .u64) (shl_le _ k (by omega) (by omega))) ?_
   refine VL.quietE (v' := .int .u64 (leP (((l.drop at0).take 8).take (k + 1)) : Int)) (by decide) (Q.or rfl rfl (by omega) (by simp only [khi]; omega) (by omega) (by simp only [khi]; omega)) (congrArg (Value.int .u64) (by rw [Int.toNat_natCast, Int.toNat_natCast, hst])) ?_
   refine VL.q (Q.assign rfl) ?_
   refine VL.nil ?_
   refine VE.block_normal ?_
   refine VE.seq ?_
   refine VC.region ?_
   refine VL.q ((by first | exact Q.addI rfl rfl (by omega) (by omega) | exact Q.add rfl rfl)) ?_
   refine VL.q (Q.move rfl) ?_
   refine VL.nil ?_
   refine VE.then_normal ?_
   exact VE.round (k + 1) (by omega) (by omega) zE (List.Sublist.refl _)
  ·
   intro h9
   have hge : k = 8 := by have := of_decide_eq_false h9; omega
   subst hge
   have hfull : ((l.drop at0).take 8).take 8 = ((l.drop at0).take 8) := List.take_of_length_le (by omega)
   refine VC.exit ?_
   refine VE.then_exit ?_
   refine VE.then_exit ?_
   refine VE.block_here ?_
   refine VE.seq ?_
   refine VC.seq ?_
   refine VC.region ?_
   refine VL.q (Q.move rfl) ?_
   refine VL.q (Q.assign rfl) ?_
   refine VL.nil ?_
   refine VE.seq ?_
   refine VC.ret ?_
   rw [hfull]
   exact VE.ret rfl (.tmp rfl .nil) () trivial rfl zB

theorem belems_c (g b o n c at0 : Nat) (l : List UInt8) (hl : l.length = n) (hc : n ≤ c) (hn : n ≤ 2304) (els : List El) (hok : ∀ e ∈ els, ElOk e) (hln : els.length ≤ 10) (h0 : 0 < (encE els).length) (hd : l.drop at0 = encE els) (hat : at0 + (encE els).length = n) :
  Does Tryz.prog 81 [.pointer (some ⟨g, 0, none⟩)] [.blk g [.slice (some ⟨b, o, none⟩) n c, .int .i64 (at0 : Int), .int .i64 0] 232] (fun W => Rd W (some ⟨b, o, none⟩) (bs l) ∧ b ≠ g) (X := Dx) (fun x => x.els.map elK = els.map elK ∧ x.els.length = els.length) (fun x => .slice x.p x.els.length x.c) (fun x => [.frz x.ids (RdE x.p x.els), .blk g [.slice (some ⟨b, o, none⟩) n c, .int .i64 (at0 : Int), .int .i64 0] 232]) := by
 refine Does.enter Tryz.func81 rfl (m := 30) rfl (by simp) ?_
 rintro W0 ⟨hro, hbg⟩
 refine VC.seq ?_
 refine VC.region ?_
 refine VL.q (Q.assign rfl) ?_
 refine VL.nil ?_
 refine VE.seq ?_
 refine VC.seq ?_
 refine VC.seq ?_
 refine VC.region ?_
 refine VL.q (Q.move rfl) ?_
 refine VL.q (Q.nilCheck rfl) ?_
 refine VL.q (Q.fieldAddr fa232_1 rfl) ?_
 refine VL.q (Q.load1 ty72 rfl zM rfl) ?_
 refine VL.quietE (v' := .bool false) (by decide) (Q.ne rfl rfl) (by rfl) ?_
 refine VL.nil ?_
 refine VE.seq ?_
 refine VC.condF rfl ?_
 refine VC.skip ?_
 refine VE.seq ?_
 refine VC.seq ?_
 refine VA.start (Ls := [.blk g [.slice (some ⟨b, o, none⟩) n c, .int .i64 (at0 : Int), .int .i64 0] 232]) (Cs := []) mixed ?_
 refine VA.tk 0 rfl (zt ze) (List.singleton_sublist.2 zM) Cells.nil (Quiet.c (Q.move rfl)) ?_
 refine VA.tk 1 rfl (zt ze) (List.singleton_sublist.2 zM) Cells.nil (Quiet.c (Q.nilCheck rfl)) ?_
 refine VA.tk 2 rfl (zt ze) (List.singleton_sublist.2 zM) Cells.nil (Quiet.c (Q.fieldAddr fa232_0 rfl)) ?_
 refine VA.tk 3 rfl (zt ze) (List.singleton_sublist.2 zM) Cells.nil (Quiet.c (Q.fieldAddr fa230_0 rfl)) ?_
 refine VA.tk 4 rfl (zt ze) (List.singleton_sublist.2 zM) Cells.nil (Quiet.c (Q.load1 ty23 rfl zM rfl)) ?_
 refine VA.tk 5 rfl (zt ze) (List.singleton_sublist.2 zM) Cells.nil (Quiet.c (Q.move rfl)) ?_
 refine VA.tk 6 rfl (zt ze) (List.singleton_sublist.2 zM) Cells.nil (Quiet.c (Q.nilCheck rfl)) ?_
 refine VA.tk 7 rfl (zt ze) (List.singleton_sublist.2 zM) Cells.nil (Quiet.c (Q.fieldAddr fa232_0 rfl)) ?_
 refine VA.tk 8 rfl (zt ze) (List.singleton_sublist.2 zM) Cells.nil (Quiet.c (Q.fieldAddr fa230_1 rfl)) ?_
 refine VA.tk 9 rfl (zt ze) (List.singleton_sublist.2 zM) Cells.nil (Quiet.c (Q.load1 ty3 rfl zM rfl)) ?_
 refine VA.tk 10 rfl (zt ze) (List.singleton_sublist.2 zM) Cells.nil (Quiet.c (Q.slcL sl23 (l := at0) (h := n) rfl ⟨_, _, rfl, rfl⟩ rfl (by omega) (by omega) (by omega))) ?_
 refine VA.all (rs := [11]) (by kernel_rfl) (by simp) ?_
 refine VA.forall1 ?_
 ·
  refine VA.eff rfl ?_
  refine id (O.call0 ok159 rfl rfl (by decide) (eldecode_c b (o + at0 * 1) (n - at0) (c - at0) els hok hln (by omega) (by omega) (by omega) (by omega)) (fun _ ho _ => by have := (hro.only ho (fun x e => by cases e; simpa [Rs.ids] using hbg)).drop at0; rw [← bs_drop, hd] at this; rw [Nat.mul_one]; exact this) ?_)
  intro x22 y22
  refine VA.next (List.singleton_sublist.2 zM) Cells.nil ?_
  refine VA.tk 12 rfl (zt ze) (List.singleton_sublist.2 zM) Cells.nil (Quiet.c (Q.move rfl)) ?_
  refine VA.tk 13 rfl (zt ze) (List.singleton_sublist.2 zM) Cells.nil (Quiet.c (Q.extract rfl rfl)) ?_
  refine VA.tk 14 rfl (zt ze) (List.singleton_sublist.2 zM) Cells.nil (Quiet.c (Q.extract rfl rfl)) ?_
  refine VA.tk 15 rfl (zt ze) (List.singleton_sublist.2 zM) Cells.nil (Quiet.c (Q.assign rfl)) ?_
  refine VA.tk 16 rfl (zt ze) (List.singleton_sublist.2 zM) Cells.nil (Quiet.c (Q.assign rfl)) ?_
  refine VA.done (by kernel_rfl) ?_
  refine VE.seq ?_
  refine VC.seq ?_
  refine VC.region ?_
  refine VL.q (Q.move rfl) ?_
  refine VL.q (Q.move rfl) ?_
  refine VL.q (Q.nilCheck rfl) ?_
  refine VL.q (Q.fieldAddr fa232_1 rfl) ?_
  refine VL.eff (O.store ty72 rfl rfl rfl rfl zU zP ?_)
  refine VL.nil ?_
  refine VE.seq ?_
  refine VC.seq ?_
  refine VC.region ?_
  refine VL.q (Q.move rfl) ?_
  refine VL.q (Q.assign rfl) ?_
  refine VL.nil ?_
  refine VE.seq ?_
  refine VC.ret ?_
  exact VE.ret rfl (.tmp rfl .nil) x22 y22 rfl zB

theorem bresult_c (g iv : Nat) (q : Option Addr) (m d : Nat) :
  Does Tryz.prog 82 [.agg #[.int .u64 7, .int .u16 (iv : Int), .int .u16 0, .slice q m d], .pointer (some ⟨g, 0, none⟩)] [] (fun W => W.cell? ⟨g, 0 + 2, none⟩ = some (.int .i64 0)) (X := Unit) (fun _ => True) (fun _ => .tuple #[.agg #[.int .u64 7, .int .u16 (iv : Int), .int .u16 0, .slice q m d], .int .i64 0]) (fun _ => []) := by
 refine Does.enter Tryz.func82 rfl (m := 18) rfl (by simp) ?_
 intro W0 hro
 refine VC.seq ?_
 refine VC.region ?_
 refine VL.eff (O.box rfl rfl (by decide) ?_)
 intro g2
 refine VL.eff (O.alloc zo111 (by decide) ?_)
 intro g4
 refine VL.q (Q.assign rfl) ?_
 refine VL.nil ?_
 refine VE.seq ?_
 refine VC.seq ?_
 refine VC.region ?_
 refine VL.eff (O.alloc zo111 (by decide) ?_)
 intro g6
 refine VL.nil ?_
 refine VE.seq ?_
 refine VC.seq ?_
 refine VC.seq ?_
 refine VC.region ?_
 refine VL.q (Q.move rfl) ?_
 refine VL.q (Q.nilCheck rfl) ?_
 refine VL.q (Q.fieldAddr fa232_1 rfl) ?_
 refine VL.q (Q.load0 ty72 rfl hro (by simp)) ?_
 refine VL.quietE (v' := .bool false) (by decide) (Q.ne rfl rfl) (by rfl) ?_
 refine VL.nil ?_
 refine VE.seq ?_
 refine VC.condF rfl ?_
 refine VC.skip ?_
 refine VE.seq ?_
 refine VC.seq ?_
 refine VC.region ?_
 refine VL.q (Q.loadA ty111 rfl zM zS) ?_
 refine VL.eff (O.store ty111 rfl rfl rfl rfl zU zP ?_)
 refine VL.q (Q.assign rfl) ?_
 refine VL.nil ?_
 refine VE.seq ?_
 refine VC.ret ?_
 refine VE.ret rfl (.cell ty111 rfl zM rfl (.tmp rfl .nil)) () ?_ ?_ (List.nil_sublist _)
 ·
  trivial
 ·
  first | rfl | (exfalso; simp at *; omega)

theorem decbcn_c (p : Option Addr) (c iv : Nat) (hiv : iv < 65536) (els : List El) (hok : ∀ e ∈ els, ElOk e) (hln : els.length ≤ 10) (h0 : 0 < (encE els).length) (hm : (encE els).length ≤ 2000) (hc : (bcnB iv els).length ≤ c) :
  Does Tryz.prog 26 [.slice p (bcnB iv els).length c] [] (fun W => Rd W p (bs (bcnB iv els))) (X := Dx) (fun x => x.els.map elK = els.map elK ∧ x.els.length = els.length) (fun x => .tuple #[.agg #[.int .u64 7, .int .u16 (iv : Int), .int .u16 0, .slice x.p x.els.length x.c], .int .i64 0]) (fun x => [.frz x.ids (RdE x.p x.els)]) := by
 have hbl := bcnB_len iv els
 refine Does.enter Tryz.func26 rfl (m := 28) rfl (by simp) ?_
 intro W0 hro
 obtain ⟨b, o, rfl⟩ := hro.pos (by rw [bs_length]; omega)
 have hb := hro.lt (by rw [bs_length]; omega)
 refine VC.seq ?_
 refine VC.region ?_
 refine VL.eff (O.alloc zo111 (by decide) ?_)
 intro g2
 refine VL.q (Q.assign rfl) ?_
 refine VL.nil ?_
 refine VE.seq ?_
 refine VC.seq ?_
 refine VC.region ?_
 refine VL.q (Q.move rfl) ?_
 refine VL.eff (O.call0 ok78 rfl rfl (by decide) (bread_c b o (bcnB iv els).length c (by omega)) (fun _ _ _ => trivial) ?_)
 intro x8 y8
 refine VK.freshR (r := .blk x8 [.slice (some ⟨b, o, none⟩) (bcnB iv els).length c, .int .i64 ((0 : Nat) : Int), .int .i64 0] 232) zM ?_
 intro f8
 have d8 : W0.heap.size ≤ x8 := by simpa [Rs.ids] using f8
 refine VL.q (Q.assign rfl) ?_
 refine VL.nil ?_
 refine VE.seq ?_
 refine VC.seq ?_
 refine VC.region ?_
 refine VL.q (Q.move rfl) ?_
 refine VL.q (Q.makeFunc rfl rfl) ?_
 refine VL.q (Q.assign rfl) ?_
 refine VL.nil ?_
 refine VE.seq ?_
 refine VC.seq ?_
 refine VC.region ?_
 refine VL.q (Q.move rfl) ?_
 refine VL.eff (O.callF ok80 rfl rfl (by decide) (beight_c x8 b o (bcnB iv els).length c 0 (bcnB iv els) rfl hc (by omega) (by omega)) zM2 (fun _ ho _ => ⟨hro.only0 ho, by omega⟩) ?_)
 intro x12 y12
 rw [bcn_time]
 refine VL.q (Q.build lay111 zF) ?_
 refine VL.eff (O.alloc zo111 (by decide) ?_)
 intro g6
 refine VL.eff (O.store ty111 rfl rfl rfl rfl zU zP ?_)
 refine VL.nil ?_
 refine VE.seq ?_
 refine VC.seq ?_
 refine VC.region ?_
 refine VL.q (Q.move rfl) ?_
 refine VL.eff (O.callP (first := [.pointer (some ⟨x8, 0, none⟩)]) (capt := []) ok79 rfl rfl (by decide) (btwo_c x8 b o (bcnB iv els).length c 8 (bcnB iv els) rfl hc (by omega) _ _ (by omega) (bcn_iv iv els)) zM2 (fun _ ho _ => ⟨hro.only0 ho, by omega⟩) ?_)
 intro x15 y15
 rw [le_iv iv hiv]
 refine VL.q (Q.move rfl) ?_
 refine VL.eff (O.callP (first := [.pointer (some ⟨x8, 0, none⟩)]) (capt := []) ok79 rfl rfl (by decide) (btwo_c x8 b o (bcnB iv els).length c 10 (bcnB iv els) rfl hc (by omega) _ _ (by omega) (bcn_caps iv els)) zM2 (fun _ ho _ => ⟨hro.only0 ho, by omega⟩) ?_)
 intro x17 y17
 rw [le_iv 0 (by decide)]
 refine VL.q (Q.fieldAddr fa111_1 rfl) ?_
 refine VL.eff (O.store ty26 rfl rfl rfl rfl zU zP ?_)
 refine VL.q (Q.fieldAddr fa111_2 rfl) ?_
 refine VL.eff (O.store ty26 rfl rfl rfl rfl zU zP ?_)
 refine VL.nil ?_
 refine VE.seq ?_
 refine VC.seq ?_
 refine VC.region ?_
 refine VL.q (Q.move rfl) ?_
 refine VL.eff (O.callF ok81 rfl rfl (by decide) (belems_c x8 b o (bcnB iv els).length c 12 (bcnB iv els) rfl hc (by omega) els hok hln h0 (by rfl) (by omega)) zM2 (fun _ ho _ => ⟨hro.only0 ho, by omega⟩) ?_)
 intro x21 y21
 refine VL.q (Q.fieldAddr fa111_3 rfl) ?_
 refine VL.eff (O.store ty109 rfl rfl rfl rfl zU zP ?_)
 refine VL.nil ?_
 refine VE.seq ?_
 refine VC.seq ?_
 refine VC.region ?_
 refine VL.q (Q.loadA ty111 rfl zM zS) ?_
 refine VL.q (Q.move rfl) ?_
 refine VL.eff (O.call0 ok82 rfl rfl (by decide) (bresult_c x8 iv x21.p x21.els.length x21.c) (fun _ _ hw => (own_cell hw zM 2).trans rfl) ?_)
 intro x25 y25
 refine VL.q (Q.extract rfl rfl) ?_
 refine VL.q (Q.extract rfl rfl) ?_
 refine VL.eff (O.store ty111 rfl rfl rfl rfl zU zP ?_)
 refine VL.q (Q.assign rfl) ?_
 refine VL.nil ?_
 refine VE.seq ?_
 refine VC.ret ?_
 exact VE.ret rfl (.cell ty111 rfl zM rfl (.tmp rfl .nil)) x21 y21 rfl zB

end Go.Proofs.YtencghlmckbmlaaGreat
