/- The contracts of frames in the air. Conditions: those that each bears. -/
import Derived.Test.YtencghlmckbmlaaGreatRows
import Derived.Test.YtencghlmckbmlaaGreatZHead3
import Derived.Test.YtencghlmckbmlaaGreatZBase
import Derived.Test.YtencghlmckbmlaaGreatAir
namespace Go.Proofs.YtencghlmckbmlaaGreat
open Go Go.RowKit Go.Sx
set_option maxRecDepth 100000

theorem ok105 : okFunc Tryz.prog 105 = true := by kernel_rfl
theorem ok25 : okFunc Tryz.prog 25 = true := by kernel_rfl
theorem ok64 : okFunc Tryz.prog 64 = true := by kernel_rfl
theorem ti191 : tyInt Tryz.prog 191 = some .u64 := by kernel_rfl
theorem ust : Tryz.prog.underlying 9 = some .string := by kernel_rfl

theorem decode_bad (p : Option Addr) (n c : Nat) (l : List UInt8) (hl : l.length = n) (hn : n ≤ 1000000) (hc : n ≤ c) (hv : verifyP l = ([], 31)) :
  Does Tryz.prog 25 [.slice p n c] [] (fun W => Rd W p (bs l)) (X := Unit) (fun _ => True) (fun _ => .tuple #[.agg #[.int .u8 0, .int .u8 0, .bool false, .bool false, .bool false, .bool false, .bool false, .bool false, .bool false, .int .i64 0, .int .u8 0, .int .u8 0, .int .u8 0, .int .u8 0, .int .u8 0, .int .u8 0, .int .u8 0, .int .u8 0, .int .u8 0, .int .u8 0, .int .u8 0, .int .u8 0, .int .u8 0, .int .u8 0, .int .u8 0, .int .u8 0, .int .u8 0, .int .u8 0, .int .u8 0, .int .u8 0, .int .u8 0, .int .u8 0, .int .u8 0, .int .u8 0, .int .i64 0, .int .i64 0, .int .i64 0, .int .u8 0, .bool false, .bool false, .slice none 0 0], .int .i64 31]) (fun _ => []) := by
 have hv0 := verify_c p n c l hl hn hc
 rw [hv] at hv0
 refine Does.enter Tryz.func25 rfl (m := 213) rfl (by simp) ?_
 intro W0 hro
 refine VC.seq ?_
 refine VC.region ?_
 refine VL.eff (O.alloc zo105 (by decide) ?_)
 intro g2
 refine VL.q (Q.assign rfl) ?_
 refine VL.nil ?_
 refine VE.seq ?_
 refine VC.seq ?_
 refine VC.region ?_
 refine VL.q (Q.move rfl) ?_
 refine VL.eff (O.call0 ok71 rfl rfl (by decide) (hv0) (fun _ ho _ => hro.only0 ho) ?_)
 intro x22 y22
 refine VL.q (Q.move rfl) ?_
 refine VL.q (Q.extract rfl rfl) ?_
 refine VL.q (Q.extract rfl rfl) ?_
 refine VL.q (Q.assign rfl) ?_
 refine VL.q (Q.assign rfl) ?_
 refine VL.nil ?_
 refine VE.seq ?_
 refine VC.seq ?_
 refine VC.seq ?_
 refine VC.region ?_
 refine VL.q (Q.move rfl) ?_
 refine VL.quietE (v' := .bool true) (by decide) (Q.ne rfl rfl) (by rfl) ?_
 refine VL.nil ?_
 refine VE.seq ?_
 refine VC.condT rfl ?_
 refine VC.seq ?_
 refine VC.region ?_
 refine VL.q (Q.build lay105 zF) ?_
 refine VL.q (Q.move rfl) ?_
 refine VL.eff (O.store ty105 rfl rfl rfl rfl zU zP ?_)
 refine VL.q (Q.assign rfl) ?_
 refine VL.nil ?_
 refine VE.seq ?_
 refine VC.ret ?_
 refine VE.then_ret ?_
 refine VE.ret rfl (.cell ty105 rfl zM rfl (.tmp rfl .nil)) () ?_ ?_ (List.nil_sublist _)
 ·
  trivial
 ·
  first | rfl | (exfalso; simp at *; omega)

theorem same_c (t f b o c b2 o2 c2 m : Nat) (l : List UInt8) (hl : l.length = m) :
  Does Tryz.prog 105 [.agg #[.int .u8 0, .int .u8 13, .bool false, .bool false, .bool false, .bool false, .bool false, .bool false, .bool false, .int .i64 0, .int .u8 2, .int .u8 0, .int .u8 0, .int .u8 0, .int .u8 2, .int .u8 (t : Int), .int .u8 2, .int .u8 0, .int .u8 0, .int .u8 0, .int .u8 2, .int .u8 (f : Int), .int .u8 2, .int .u8 0, .int .u8 0, .int .u8 0, .int .u8 2, .int .u8 (f : Int), .int .u8 0, .int .u8 0, .int .u8 0, .int .u8 0, .int .u8 0, .int .u8 0, .int .i64 0, .int .i64 0, .int .i64 0, .int .u8 0, .bool false, .bool false, .slice (some ⟨b, o, none⟩) m c], .agg #[.int .u8 0, .int .u8 13, .bool false, .bool false, .bool false, .bool false, .bool false, .bool false, .bool false, .int .i64 0, .int .u8 2, .int .u8 0, .int .u8 0, .int .u8 0, .int .u8 2, .int .u8 (t : Int), .int .u8 2, .int .u8 0, .int .u8 0, .int .u8 0, .int .u8 2, .int .u8 (f : Int), .int .u8 2, .int .u8 0, .int .u8 0, .int .u8 0, .int .u8 2, .int .u8 (f : Int), .int .u8 0, .int .u8 0, .int .u8 0, .int .u8 0, .int .u8 0, .int .u8 0, .int .i64 0, .int .i64 0, .int .i64 0, .int .u8 0, .bool false, .bool false, .slice (some ⟨b2, o2, none⟩) m c2]] [] (fun W => Rd W (some ⟨b, o, none⟩) (bs l) ∧ Rd W (some ⟨b2, o2, none⟩) (bs l)) (X := Unit) (fun _ => True) (fun _ => .bool true) (fun _ => []) := by
 refine Does.enter Tryz.func105 rfl (m := 19) rfl (by simp) ?_
 intro W0 hro
 refine VC.seq ?_
 refine VC.region ?_
 refine VL.eff (O.box rfl rfl (by decide) ?_)
 intro g2
 refine VL.eff (O.box rfl rfl (by decide) ?_)
 intro g3
 refine VL.q (Q.assign rfl) ?_
 refine VL.nil ?_
 refine VE.seq ?_
 refine VC.seq ?_
 refine VC.region ?_
 refine VL.q (Q.fieldAddr fa105_0 rfl) ?_
 refine VL.q (Q.loadA ty103 rfl zM zS) ?_
 refine VL.q (Q.fieldAddr fa105_0 rfl) ?_
 refine VL.q (Q.loadA ty103 rfl zM zS) ?_
 refine VL.quietE (v' := .bool true) (by decide) (Q.eqS flt103 (by decide) ty103 eg103 rfl rfl rfl rfl) (congrArg Value.bool (vsEq_refl _ rfl)) ?_
 refine VL.q (Q.move rfl) ?_
 refine VL.yes rfl rfl ?_
 refine VL.q (Q.fieldAddr fa105_1 rfl) ?_
 refine VL.yes rfl rfl ?_
 refine VL.q (Q.load1 ty23 rfl zM rfl) ?_
 refine VL.yes rfl rfl ?_
 refine VL.q (Q.convStr sl23 ti5 ust rfl hl (fun _ ho _ => hro.1.only0 ho)) ?_
 refine VL.yes rfl rfl ?_
 refine VL.q (Q.fieldAddr fa105_1 rfl) ?_
 refine VL.yes rfl rfl ?_
 refine VL.q (Q.load1 ty23 rfl zM rfl) ?_
 refine VL.yes rfl rfl ?_
 refine VL.q (Q.convStr sl23 ti5 ust rfl hl (fun _ ho _ => hro.2.only0 ho)) ?_
 refine VL.yes rfl rfl ?_
 refine VL.quietE (v' := .bool true) (by decide) (Q.eqStr rfl rfl) (by rfl) ?_
 refine VL.quietE (v' := .bool true) (by decide) (Q.pick_true rfl rfl) (by rfl) ?_
 refine VL.q (Q.assign rfl) ?_
 refine VL.nil ?_
 refine VE.seq ?_
 refine VC.ret ?_
 refine VE.ret rfl (.tmp rfl .nil) () ?_ ?_ (List.nil_sublist _)
 ·
  trivial
 ·
  first | rfl | (exfalso; simp at *; omega)

theorem vaneair_c (t f : Nat) (ht : t ≤ 255) (hf : f ≤ 255) (p : Option Addr) (m c : Nat) (l : List UInt8) (hl : l.length = m) (h1 : 1 ≤ m) (hm : m ≤ 2304) (k : Nat) :
  Does Tryz.prog 40 [.agg #[.int .u8 0, .int .u8 13, .bool false, .bool false, .bool false, .bool false, .bool false, .bool false, .bool false, .int .i64 0, .int .u8 2, .int .u8 0, .int .u8 0, .int .u8 0, .int .u8 2, .int .u8 (t : Int), .int .u8 2, .int .u8 0, .int .u8 0, .int .u8 0, .int .u8 2, .int .u8 (f : Int), .int .u8 2, .int .u8 0, .int .u8 0, .int .u8 0, .int .u8 2, .int .u8 (f : Int), .int .u8 0, .int .u8 0, .int .u8 0, .int .u8 0, .int .u8 0, .int .u8 0, .int .i64 0, .int .i64 0, .int .i64 0, .int .u8 0, .bool false, .bool false, .slice p m c], .int .i64 (k : Int)] [] (fun W => Rd W p (bs l)) (X := Option Addr × Nat) (fun x => m ≤ x.2) (fun x => .tuple #[.agg #[.int .u8 0, .int .u8 13, .bool false, .bool false, .bool false, .bool false, .bool false, .bool false, .bool false, .int .i64 0, .int .u8 2, .int .u8 0, .int .u8 0, .int .u8 0, .int .u8 2, .int .u8 (t : Int), .int .u8 2, .int .u8 0, .int .u8 0, .int .u8 0, .int .u8 2, .int .u8 (f : Int), .int .u8 2, .int .u8 0, .int .u8 0, .int .u8 0, .int .u8 2, .int .u8 (f : Int), .int .u8 0, .int .u8 0, .int .u8 0, .int .u8 0, .int .u8 0, .int .u8 0, .int .i64 0, .int .i64 0, .int .i64 0, .int .u8 0, .bool false, .bool false, .slice x.1 m x.2], .bool true]) (fun x => [.row (.slice x.1 m x.2) 5 1 m (bs l)]) := by
 have hLn : (hb_act 0 t f ++ l ++ crcBytes (hb_act 0 t f ++ l)).length = m + 28 := by simp only [List.length_append, hbl_act, hl]; have h4 : (crcBytes (hb_act 0 t f ++ l)).length = 4 := rfl; omega
 have hj : (k % (hb_act 0 t f ++ l ++ crcBytes (hb_act 0 t f ++ l)).length) < (hb_act 0 t f ++ l ++ crcBytes (hb_act 0 t f ++ l)).length := Nat.mod_lt _ (by omega)
 have hb8 : k % 8 < 8 := Nat.mod_lt _ (by decide)
 have hb := byte_bd (hb_act 0 t f ++ l ++ crcBytes (hb_act 0 t f ++ l))[(k % (hb_act 0 t f ++ l ++ crcBytes (hb_act 0 t f ++ l)).length)]
 have hp8 : 2 ^ (k % 8) < 256 := Nat.pow_lt_pow_right (by decide) hb8
 refine Does.enter Tryz.func40 rfl (m := 63) rfl (by simp) ?_
 intro W0 hro
 obtain ⟨b, o, rfl⟩ := hro.pos (by rw [bs_length]; omega)
 refine VC.seq ?_
 refine VC.region ?_
 refine VL.eff (O.box rfl rfl (by decide) ?_)
 intro g2
 refine VL.eff (O.alloc zo105 (by decide) ?_)
 intro g4
 refine VL.q (Q.assign rfl) ?_
 refine VL.nil ?_
 refine VE.seq ?_
 refine VC.seq ?_
 refine VC.region ?_
 refine VL.q (Q.loadA ty105 rfl zM zS) ?_
 refine VL.eff (O.call0 ok64 rfl rfl (by decide) (encode_act 0 (by decide) t f ht hf (some ⟨b, o, none⟩) m c l hl hm) (fun _ ho _ => hro.only0 ho) ?_)
 intro x14 y14
 obtain ⟨pe, ce⟩ := x14
 have hce : 28 + m ≤ ce := y14
 refine VL.q (Q.move rfl) ?_
 refine VL.q (Q.extract rfl rfl) ?_
 refine VL.q (Q.extract rfl rfl) ?_
 refine VL.q (Q.assign rfl) ?_
 refine VL.q (Q.assign rfl) ?_
 refine VL.nil ?_
 refine VE.seq ?_
 refine VC.seq ?_
 refine VC.seq ?_
 refine VC.region ?_
 refine VL.q (Q.move rfl) ?_
 refine VL.quietE (v' := .bool false) (by decide) (Q.ne rfl rfl) (by rfl) ?_
 refine VL.q (Q.move rfl) ?_
 refine VL.yes rfl rfl ?_
 refine VL.q (Q.move rfl) ?_
 refine VL.yes rfl rfl ?_
 refine VL.q (Q.len sl23 rfl) ?_
 refine VL.yes rfl rfl ?_
 refine VL.quietE (v' := .bool false) (by decide) (Q.lt rfl rfl) (congrArg Value.bool (decide_eq_false (by omega))) ?_
 refine VL.quietE (v' := .bool false) (by decide) (Q.pick_false rfl rfl) (by rfl) ?_
 refine VL.nil ?_
 refine VE.seq ?_
 refine VC.condF rfl ?_
 refine VC.skip ?_
 refine VE.seq ?_
 refine VC.seq ?_
 refine VC.region ?_
 refine VL.eff (O.buildSlice0 sl23 (by decide) ?_)
 intro g25
 refine VK.toRow (g := g25) (s := 1) (m := 0) (c := 0) zU rfl (by omega) (by unfold maxLen; omega) ?_
 refine VL.q (Q.move rfl) ?_
 refine VL.eff (O.append sl23 ze5 rfl (by decide) rfl rfl (by rw [bs_length]; omega) (bs_one (hb_act 0 t f ++ l ++ crcBytes (hb_act 0 t f ++ l))) (by decide) (by unfold maxLen; omega) (by omega) zA (fun _ _ hw => Rd.row hw zM) ?_)
 intro pc cc hcc
 rw [Nat.zero_add] at hcc
 rw [Nat.zero_add, show List.take (0 * 1) ([] : List Value) ++ bs (hb_act 0 t f ++ l ++ crcBytes (hb_act 0 t f ++ l)) = bs (hb_act 0 t f ++ l ++ crcBytes (hb_act 0 t f ++ l)) from rfl]
 refine VK.rowHead (m := (hb_act 0 t f ++ l ++ crcBytes (hb_act 0 t f ++ l)).length) (p := pc) (c := cc) zM (by omega) ?_
 intro gc hgc _ _
 subst hgc
 refine VL.q (Q.assign rfl) ?_
 refine VL.nil ?_
 refine VE.seq ?_
 refine VC.seq ?_
 refine VC.region ?_
 refine VL.q (Q.move rfl) ?_
 refine VL.q (Q.move rfl) ?_
 refine VL.q (Q.move rfl) ?_
 refine VL.q (Q.len sl23 rfl) ?_
 refine VL.quietE (v' := .int .i64 (((k % (hb_act 0 t f ++ l ++ crcBytes (hb_act 0 t f ++ l)).length) : Nat) : Int)) (by decide) (Q.rem rfl rfl (by omega) (by omega)) (by rfl) ?_
 refine VL.q (Q.indexAddr sl23 (j := (k % (hb_act 0 t f ++ l ++ crcBytes (hb_act 0 t f ++ l)).length)) rfl rfl rfl hj) ?_
 refine VL.q (Q.loadRow (v := .int .u8 ((hb_act 0 t f ++ l ++ crcBytes (hb_act 0 t f ++ l))[(k % (hb_act 0 t f ++ l ++ crcBytes (hb_act 0 t f ++ l)).length)].toNat : Int)) ty5 rfl zM (by rw [Nat.zero_add, Nat.mul_one]; exact bs_get _ _ hj)) ?_
 refine VL.q (Q.move rfl) ?_
 refine VL.quietE (v' := .int .i64 ((k % 8 : Nat) : Int)) (by decide) (Q.rem rfl rfl (by omega) (by omega)) (by rfl) ?_
 refine VL.q ((by first | exact Q.convF ti3 ti191 rfl (by simp only [klo]; omega) (by simp only [khi]; omega) | exact Q.convM (M := 18446744073709551616) ti3 ti191 rfl rfl rfl | exact Q.conv ti3 ti191 rfl)) ?_
 refine VL.quietE (v' := .int .u8 ((2 ^ (k % 8) : Nat) : Int)) (by decide) (Q.shl rfl rfl (by omega)) (congrArg (Value.int .u8) (shl_bit _ hb8)) ?_
 refine VL.quietE (v' := .int .u8 ((flipB (hb_act 0 t f ++ l ++ crcBytes (hb_act 0 t f ++ l))[(k % (hb_act 0 t f ++ l ++ crcBytes (hb_act 0 t f ++ l)).length)] (k % 8)).toNat : Int)) (by decide) (Q.xor rfl rfl (by omega) (by simp only [khi]; omega) (Int.natCast_nonneg _) (show ((2 ^ (k % 8) : Nat) : Int) ≤ ((255 : Nat) : Int) from Int.ofNat_le.2 (by omega))) (congrArg (Value.int .u8) (xor_bit _ _ hb8)) ?_
 refine VL.q (Q.indexAddr sl23 (j := (k % (hb_act 0 t f ++ l ++ crcBytes (hb_act 0 t f ++ l)).length)) rfl rfl rfl hj) ?_
 refine VL.eff (O.storeRow (ys := [.int .u8 ((flipB (hb_act 0 t f ++ l ++ crcBytes (hb_act 0 t f ++ l))[(k % (hb_act 0 t f ++ l ++ crcBytes (hb_act 0 t f ++ l)).length)] (k % 8)).toNat : Int)]) (xs' := bs (flipL (hb_act 0 t f ++ l ++ crcBytes (hb_act 0 t f ++ l)) (k % (hb_act 0 t f ++ l ++ crcBytes (hb_act 0 t f ++ l)).length) (k % 8))) ty5 rfl rfl rfl rfl zA (by rw [Nat.zero_add, Nat.mul_one]; exact put_flip _ _ _ hj _ rfl) ?_)
 refine VL.nil ?_
 refine VE.seq ?_
 refine VC.seq ?_
 refine VC.region ?_
 refine VL.q (Q.move rfl) ?_
 refine VL.eff (O.call0 ok25 rfl rfl (by decide) (decode_bad (some ⟨gc, 0, none⟩) (hb_act 0 t f ++ l ++ crcBytes (hb_act 0 t f ++ l)).length cc (flipL (hb_act 0 t f ++ l ++ crcBytes (hb_act 0 t f ++ l)) (k % (hb_act 0 t f ++ l ++ crcBytes (hb_act 0 t f ++ l)).length) (k % 8)) (by unfold flipL; rw [List.length_set]) (by omega) hcc (verify_flip _ _ _ hj hb8)) (fun _ _ hw => Rd.row hw zM) ?_)
 intro x43 y43
 refine VL.q (Q.move rfl) ?_
 refine VL.q (Q.extract rfl rfl) ?_
 refine VL.q (Q.extract rfl rfl) ?_
 refine VL.eff (O.alloc zo105 (by decide) ?_)
 intro g9
 refine VL.eff (O.store ty105 rfl rfl rfl rfl zU zP ?_)
 refine VL.q (Q.assign rfl) ?_
 refine VL.nil ?_
 refine VE.seq ?_
 refine VC.seq ?_
 refine VK.keep (by exact .cons (i := 2) rfl (.cons (i := 4) rfl (.cons (i := 5) rfl (.cons (i := 6) rfl (.cons (i := 7) rfl (.cons (i := 10) rfl ( .nil))))))) ?_
 refine VC.region ?_
 refine VL.q (Q.move rfl) ?_
 refine VL.eff (O.call0 ok25 rfl rfl (by decide) (decode_act 0 (by decide) t f ht hf pe m ce l hl hm (by omega)) (fun _ _ hw => Rd.row hw zM) ?_)
 intro x48 y48
 obtain ⟨px, cx⟩ := x48
 have hcx : m ≤ cx := y48
 refine VK.rowHead (m := m) (p := px) (c := cx) zM (by omega) ?_
 intro gx hgx _ _
 subst hgx
 refine VL.q (Q.move rfl) ?_
 refine VL.q (Q.extract rfl rfl) ?_
 refine VL.q (Q.extract rfl rfl) ?_
 refine VL.eff (O.alloc zo105 (by decide) ?_)
 intro g11
 refine VL.eff (O.store ty105 rfl rfl rfl rfl zU zP ?_)
 refine VL.q (Q.assign rfl) ?_
 refine VL.nil ?_
 refine VE.seq ?_
 refine VC.seq ?_
 refine VA.start (Ls := [.blk g11 [.int .u8 0, .int .u8 13, .bool false, .bool false, .bool false, .bool false, .bool false, .bool false, .bool false, .int .i64 0, .int .u8 2, .int .u8 0, .int .u8 0, .int .u8 0, .int .u8 2, .int .u8 (t : Int), .int .u8 2, .int .u8 0, .int .u8 0, .int .u8 0, .int .u8 2, .int .u8 (f : Int), .int .u8 2, .int .u8 0, .int .u8 0, .int .u8 0, .int .u8 2, .int .u8 (f : Int), .int .u8 0, .int .u8 0, .int .u8 0, .int .u8 0, .int .u8 0, .int .u8 0, .int .i64 0, .int .i64 0, .int .i64 0, .int .u8 0, .bool false, .bool false, .slice (some ⟨gx, 0, none⟩) m cx] 105, .blk g2 [.int .u8 0, .int .u8 13, .bool false, .bool false, .bool false, .bool false, .bool false, .bool false, .bool false, .int .i64 0, .int .u8 2, .int .u8 0, .int .u8 0, .int .u8 0, .int .u8 2, .int .u8 (t : Int), .int .u8 2, .int .u8 0, .int .u8 0, .int .u8 0, .int .u8 2, .int .u8 (f : Int), .int .u8 2, .int .u8 0, .int .u8 0, .int .u8 0, .int .u8 2, .int .u8 (f : Int), .int .u8 0, .int .u8 0, .int .u8 0, .int .u8 0, .int .u8 0, .int .u8 0, .int .i64 0, .int .i64 0, .int .i64 0, .int .u8 0, .bool false, .bool false, .slice (some ⟨b, o, none⟩) m c] 105]) (Cs := []) mixed ?_
 refine VA.tk 0 rfl (Still.then Still.body) zB Cells.nil (Quiet.c (Q.loadA ty105 rfl zM zS)) ?_
 refine VA.tk 1 rfl (Still.then Still.body) zB Cells.nil (Quiet.c (Q.move rfl)) ?_
 refine VA.tk 2 rfl (Still.then Still.body) zB Cells.nil (Quiet.c (Q.eq rfl rfl)) ?_
 refine VA.tk 3 rfl (Still.then Still.body) zB Cells.nil (Quiet.c (Q.move rfl)) ?_
 refine VA.takeY 4 rfl rfl rfl (by kernel_rfl) (by kernel_rfl) (by kernel_rfl) (Still.then Still.body) zB Cells.nil (by decide) (Quiet.c (Q.move rfl)) ?_
 refine VA.takeY 5 rfl rfl rfl (by kernel_rfl) (by kernel_rfl) (by kernel_rfl) (Still.then Still.body) zB Cells.nil (by decide) (Quiet.c (Q.eq rfl rfl)) ?_
 refine VA.tk 6 rfl (Still.then Still.body) zB Cells.nil (Quiet.c (Q.pick_true rfl rfl)) ?_
 refine VA.tk 7 rfl (Still.then Still.body) zB Cells.nil (Quiet.c (Q.move rfl)) ?_
 refine VA.takeY 8 rfl rfl rfl (by kernel_rfl) (by kernel_rfl) (by kernel_rfl) (Still.then Still.body) zB Cells.nil (by decide) (Quiet.c (Q.loadA ty105 rfl zM zS)) ?_
 refine VA.takeY 9 rfl rfl rfl (by kernel_rfl) (by kernel_rfl) (by kernel_rfl) (Still.then Still.body) zB Cells.nil (by decide) (Quiet.c (Q.loadA ty105 rfl zM zS)) ?_
 refine VA.all (rs := [10]) (by kernel_rfl) (by simp) ?_
 refine VA.forall1 ?_
 ·
  refine VA.effY rfl rfl rfl ?_
  refine id (O.call0 ok105 rfl rfl (by decide) (same_c t f gx 0 cx b o c m l hl) (fun _ ho hw => ⟨Rd.row hw zM, hro.only0 ho⟩) ?_)
  intro x61 y61
  refine VA.next zB Cells.nil ?_
  refine VA.tk 11 rfl (Still.then Still.body) zB Cells.nil (Quiet.c (Q.pick_true rfl rfl)) ?_
  refine VA.all (rs := [12]) (by kernel_rfl) (by simp) ?_
  refine VA.forall1 ?_
  ·
   refine VA.eff rfl ?_
   refine id (O.store ty105 rfl rfl rfl rfl zU zP ?_)
   refine VA.next zB Cells.nil ?_
   refine VA.tk 13 rfl (Still.then Still.body) zB Cells.nil (Quiet.c (Q.assign rfl)) ?_
   refine VA.done (by kernel_rfl) ?_
   refine VE.seq ?_
   refine VC.ret ?_
   exact VE.ret rfl (.cell ty105 rfl zM rfl (.tmp rfl .nil)) (some ⟨gx, 0, none⟩, cx) hcx rfl zB

end Go.Proofs.YtencghlmckbmlaaGreat
