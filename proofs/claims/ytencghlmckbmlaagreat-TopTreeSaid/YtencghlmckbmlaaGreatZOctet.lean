/- The contracts of package octet. Conditions: those that each bears. -/
import Derived.Test.YtencghlmckbmlaaGreatRows
import Derived.Test.YtencghlmckbmlaaGreatZBase
namespace Go.Proofs.YtencghlmckbmlaaGreat
open Go Go.RowKit Go.Sx
set_option maxRecDepth 100000

theorem fa230_0 : tyField Tryz.prog 230 0 = some 0 := by kernel_rfl
theorem fa230_1 : tyField Tryz.prog 230 1 = some 1 := by kernel_rfl
theorem ok108 : okFunc Tryz.prog 108 = true := by kernel_rfl
theorem ok172 : okFunc Tryz.prog 172 = true := by kernel_rfl
theorem ti108 : tyInt Tryz.prog 108 = some .u64 := by kernel_rfl
theorem ty230 : tySz Tryz.prog 230 = some (true, 2) := by kernel_rfl
theorem zo230 : tyZero Tryz.prog 230 = some [.slice none 0 0, .int .i64 0] := by kernel_rfl

theorem ocheck_c (p : Option Addr) (m c : Nat) (i0 : Int) (h : 0 ≤ i0 ∧ i0 ≤ m) :
  Does Tryz.prog 172 [.agg #[.slice p m c, .int .i64 i0]] [] (fun _ => True) (X := Unit) (fun _ => True) (fun _ => .int .i64 0) (fun _ => []) := by
 refine Does.enter Tryz.func172 rfl (m := 14) rfl (by simp) ?_
 intro W0 hro
 refine VC.seq ?_
 refine VC.region ?_
 refine VL.eff (O.box rfl rfl (by decide) ?_)
 intro g1
 refine VL.q (Q.assign rfl) ?_
 refine VL.nil ?_
 refine VE.seq ?_
 refine VC.seq ?_
 refine VC.seq ?_
 refine VC.region ?_
 refine VL.q (Q.fieldAddr fa230_1 rfl) ?_
 refine VL.q (Q.load1 ty3 rfl zM rfl) ?_
 refine VL.quietE (v' := .bool false) (by decide) (Q.lt rfl rfl) (congrArg Value.bool (decide_eq_false (by omega))) ?_
 refine VL.q (Q.move rfl) ?_
 refine VL.yes rfl rfl ?_
 refine VL.q (Q.fieldAddr fa230_1 rfl) ?_
 refine VL.yes rfl rfl ?_
 refine VL.q (Q.load1 ty3 rfl zM rfl) ?_
 refine VL.yes rfl rfl ?_
 refine VL.q (Q.fieldAddr fa230_0 rfl) ?_
 refine VL.yes rfl rfl ?_
 refine VL.q (Q.load1 ty23 rfl zM rfl) ?_
 refine VL.yes rfl rfl ?_
 refine VL.q (Q.len sl23 rfl) ?_
 refine VL.yes rfl rfl ?_
 refine VL.quietE (v' := .bool false) (by decide) (Q.gt rfl rfl) (congrArg Value.bool (decide_eq_false (by omega))) ?_
 refine VL.quietE (v' := .bool false) (by decide) (Q.pick_false rfl rfl) (by rfl) ?_
 refine VL.nil ?_
 refine VE.seq ?_
 refine VC.condF rfl ?_
 refine VC.skip ?_
 refine VE.seq ?_
 refine VC.seq ?_
 refine VC.region ?_
 refine VL.q (Q.assign rfl) ?_
 refine VL.nil ?_
 refine VE.seq ?_
 refine VC.ret ?_
 refine VE.ret rfl (.tmp rfl .nil) () ?_ ?_ (List.nil_sublist _)
 ·
  trivial
 ·
  first | rfl | (exfalso; simp at *; omega)

theorem odone_c (p : Option Addr) (m c : Nat) (i0 : Int) (h : i0 = m) :
  Does Tryz.prog 112 [.agg #[.slice p m c, .int .i64 i0]] [] (fun _ => True) (X := Unit) (fun _ => True) (fun _ => .int .i64 0) (fun _ => []) := by
 refine Does.enter Tryz.func112 rfl (m := 15) rfl (by simp) ?_
 intro W0 hro
 refine VC.seq ?_
 refine VC.region ?_
 refine VL.eff (O.box rfl rfl (by decide) ?_)
 intro g1
 refine VL.q (Q.assign rfl) ?_
 refine VL.nil ?_
 refine VE.seq ?_
 refine VC.seq ?_
 refine VC.seq ?_
 refine VC.region ?_
 refine VL.q (Q.loadA ty230 rfl zM zS) ?_
 refine VL.eff (O.call0 ok172 rfl rfl (by decide) (ocheck_c _ _ _ _ (by omega)) (fun _ _ _ => trivial) ?_)
 intro x5 y5
 refine VL.q (Q.assign rfl) ?_
 refine VL.nil ?_
 refine VE.seq ?_
 refine VC.seq ?_
 refine VC.region ?_
 refine VL.q (Q.move rfl) ?_
 refine VL.quietE (v' := .bool false) (by decide) (Q.ne rfl rfl) (by rfl) ?_
 refine VL.nil ?_
 refine VE.seq ?_
 refine VC.condF rfl ?_
 refine VC.skip ?_
 refine VE.seq ?_
 refine VC.seq ?_
 refine VC.seq ?_
 refine VC.region ?_
 refine VL.q (Q.fieldAddr fa230_1 rfl) ?_
 refine VL.q (Q.load1 ty3 rfl zM rfl) ?_
 refine VL.q (Q.fieldAddr fa230_0 rfl) ?_
 refine VL.q (Q.load1 ty23 rfl zM rfl) ?_
 refine VL.q (Q.len sl23 rfl) ?_
 refine VL.quietE (v' := .bool false) (by decide) (Q.lt rfl rfl) (congrArg Value.bool (decide_eq_false (by omega))) ?_
 refine VL.nil ?_
 refine VE.seq ?_
 refine VC.condF rfl ?_
 refine VC.skip ?_
 refine VE.seq ?_
 refine VC.seq ?_
 refine VC.region ?_
 refine VL.q (Q.assign rfl) ?_
 refine VL.nil ?_
 refine VE.seq ?_
 refine VC.ret ?_
 refine VE.ret rfl (.tmp rfl .nil) () ?_ ?_ (List.nil_sublist _)
 ·
  trivial
 ·
  first | rfl | (exfalso; simp at *; omega)

theorem otake_c (b o m c i0 n : Nat) (l : List UInt8) (hl : l.length = m) (h : i0 + n ≤ m) (h1 : 1 ≤ n) (hc : m ≤ c) (hm : m ≤ 100000) :
  Does Tryz.prog 108 [.agg #[.slice (some ⟨b, o, none⟩) m c, .int .i64 (i0 : Int)], .int .i64 (n : Int)] [] (fun W => Rd W (some ⟨b, o, none⟩) (bs l)) (X := Option Addr × Nat) (fun x => n ≤ x.2) (fun x => .tuple #[.slice x.1 n x.2, .agg #[.slice (some ⟨b, o, none⟩) m c, .int .i64 ((i0 + n : Nat) : Int)], .int .i64 0]) (fun x => [.row (.slice x.1 n x.2) 5 1 n (bs ((l.drop i0).take n))]) := by
 refine Does.enter Tryz.func108 rfl (m := 45) rfl (by simp) ?_
 intro W0 hro
 refine VC.seq ?_
 refine VC.region ?_
 refine VL.eff (O.box rfl rfl (by decide) ?_)
 intro g2
 refine VL.q (Q.assign rfl) ?_
 refine VL.eff (O.alloc zo230 (by decide) ?_)
 intro g5
 refine VL.q (Q.assign rfl) ?_
 refine VL.nil ?_
 refine VE.seq ?_
 refine VC.seq ?_
 refine VC.seq ?_
 refine VC.region ?_
 refine VL.q (Q.loadA ty230 rfl zM zS) ?_
 refine VL.eff (O.call0 ok172 rfl rfl (by decide) (ocheck_c _ _ _ _ (by omega)) (fun _ _ _ => trivial) ?_)
 intro x10 y10
 refine VL.q (Q.assign rfl) ?_
 refine VL.nil ?_
 refine VE.seq ?_
 refine VC.seq ?_
 refine VC.region ?_
 refine VL.q (Q.move rfl) ?_
 refine VL.quietE (v' := .bool false) (by decide) (Q.ne rfl rfl) (by rfl) ?_
 refine VL.nil ?_
 refine VE.seq ?_
 refine VC.condF rfl ?_
 refine VC.skip ?_
 refine VE.seq ?_
 refine VC.seq ?_
 refine VC.seq ?_
 refine VC.region ?_
 refine VL.q (Q.move rfl) ?_
 refine VL.quietE (v' := .bool false) (by decide) (Q.lt rfl rfl) (congrArg Value.bool (decide_eq_false (by omega))) ?_
 refine VL.nil ?_
 refine VE.seq ?_
 refine VC.condF rfl ?_
 refine VC.skip ?_
 refine VE.seq ?_
 refine VC.seq ?_
 refine VC.seq ?_
 refine VC.region ?_
 refine VL.q (Q.move rfl) ?_
 refine VL.q (Q.fieldAddr fa230_0 rfl) ?_
 refine VL.q (Q.load1 ty23 rfl zM rfl) ?_
 refine VL.q (Q.len sl23 rfl) ?_
 refine VL.q (Q.fieldAddr fa230_1 rfl) ?_
 refine VL.q (Q.load1 ty3 rfl zM rfl) ?_
 refine VL.q ((by first | exact Q.subI rfl rfl (by omega) (by omega) | exact Q.sub rfl rfl)) ?_
 refine VL.quietE (v' := .bool false) (by decide) (Q.gt rfl rfl) (congrArg Value.bool (decide_eq_false (by omega))) ?_
 refine VL.nil ?_
 refine VE.seq ?_
 refine VC.condF rfl ?_
 refine VC.skip ?_
 refine VE.seq ?_
 refine VC.seq ?_
 refine VC.region ?_
 refine VL.eff (O.buildSlice0 sl23 (by decide) ?_)
 intro g27
 refine VK.toRow (g := g27) (s := 1) (m := 0) (c := 0) zU rfl (by omega) (by unfold maxLen; omega) ?_
 refine VL.q (Q.fieldAddr fa230_0 rfl) ?_
 refine VL.q (Q.load1 ty23 rfl zM rfl) ?_
 refine VL.q (Q.fieldAddr fa230_1 rfl) ?_
 refine VL.q (Q.load1 ty3 rfl zM rfl) ?_
 refine VL.q (Q.fieldAddr fa230_1 rfl) ?_
 refine VL.q (Q.load1 ty3 rfl zM rfl) ?_
 refine VL.q (Q.move rfl) ?_
 refine VL.q ((by first | exact Q.addI rfl rfl (by omega) (by omega) | exact Q.add rfl rfl)) ?_
 refine VL.q (Q.slcL sl23 (l := i0) (h := i0 + n) rfl ⟨_, _, rfl, rfl⟩ ⟨_, _, rfl, by omega⟩ (by omega) (by omega) (by omega)) ?_
 refine VL.eff (O.append sl23 ze5 rfl (by decide) rfl rfl (by rw [bs_length, List.length_take, List.length_drop]; omega) (bs_one ((l.drop i0).take n)) (by decide) (by unfold maxLen; omega) (by omega) zA (fun _ ho _ => by rw [Nat.mul_one, bs_take, bs_drop]; exact ((hro.only0 ho).drop i0).take n) ?_)
 intro p37 c37 hc37
 rw [show 0 + (i0 + n - i0) = n from by omega]
 refine VL.q (Q.assign rfl) ?_
 refine VL.nil ?_
 refine VE.seq ?_
 refine VC.seq ?_
 refine VC.region ?_
 refine VL.q (Q.fieldAddr fa230_1 rfl) ?_
 refine VL.q (Q.load1 ty3 rfl zM rfl) ?_
 refine VL.q (Q.move rfl) ?_
 refine VL.q ((by first | exact Q.addI rfl rfl (by omega) (by omega) | exact Q.add rfl rfl)) ?_
 refine VL.q (Q.fieldAddr fa230_1 rfl) ?_
 refine VL.eff (O.store ty3 rfl rfl rfl rfl zU zP ?_)
 refine VL.nil ?_
 refine VE.seq ?_
 refine VC.seq ?_
 refine VA.start (Ls := [.blk g2 [.slice (some ⟨b, o, none⟩) m c, .int .i64 ((i0 : Int) + (n : Int))] 230]) (Cs := []) mixed ?_
 refine VA.take 0 rfl (by kernel_rfl) (by kernel_rfl) (by kernel_rfl) (Still.then Still.body) (List.singleton_sublist.2 zM) Cells.nil (by decide) (Quiet.c (Q.move rfl)) ?_
 refine VA.take 1 rfl (by kernel_rfl) (by kernel_rfl) (by kernel_rfl) (Still.then Still.body) (List.singleton_sublist.2 zM) Cells.nil (by decide) (Quiet.c (Q.loadA ty230 rfl zM zS)) ?_
 refine VA.take 2 rfl (by kernel_rfl) (by kernel_rfl) (by kernel_rfl) (Still.then Still.body) (List.singleton_sublist.2 zM) Cells.nil (by decide) (Quiet.c (Q.assign rfl)) ?_
 refine VA.all (rs := [3]) (by kernel_rfl) (by simp) ?_
 refine VA.forall1 ?_
 ·
  refine VA.eff rfl ?_
  refine id (O.store ty230 rfl rfl rfl rfl zU zP ?_)
  refine VA.next (List.singleton_sublist.2 zM) Cells.nil ?_
  refine VA.take 4 rfl (by kernel_rfl) (by kernel_rfl) (by kernel_rfl) (Still.then Still.body) (List.singleton_sublist.2 zM) Cells.nil (by decide) (Quiet.c (Q.assign rfl)) ?_
  refine VA.done (by kernel_rfl) ?_
  refine VE.seq ?_
  refine VC.ret ?_
  exact VE.ret rfl (.tmp rfl (.cell ty230 rfl zM rfl (.tmp rfl .nil))) (p37, c37) (by omega) rfl (by repeat (first | exact List.Sublist.refl _ | exact .cons_cons _ (List.nil_sublist _) | apply List.Sublist.cons))

def leP (l : List UInt8) : Nat := l.foldr (fun c r => c.toNat + 256 * r) 0
theorem leP_lt (l : List UInt8) : leP l < 256 ^ l.length := by
  induction l with
  | nil => simp [leP]
  | cons c l ih =>
    have h : leP (c :: l) = c.toNat + 256 * leP l := rfl
    have := c.toNat_lt
    rw [h, List.length_cons, Nat.pow_succ]
    omega
theorem leP_snoc (l : List UInt8) (c : UInt8) : leP (l ++ [c]) = leP l + 256 ^ l.length * c.toNat := by
  induction l with
  | nil => simp [leP]
  | cons d l ih =>
    have h : leP (d :: l ++ [c]) = d.toNat + 256 * leP (l ++ [c]) := rfl
    have h2 : leP (d :: l) = d.toNat + 256 * leP l := rfl
    rw [h, h2, ih, List.length_cons, Nat.pow_succ, Nat.mul_add, ← Nat.mul_assoc, Nat.mul_comm 256 (256 ^ l.length)]
    omega
theorem leP_step (l : List UInt8) (k : Nat) (h : k < l.length) : (leP (l.take k) ||| l[k].toNat * 2 ^ (8 * k)) = leP (l.take (k + 1)) := by
  have hl : (l.take k).length = k := by simp; omega
  have hlt := leP_lt (l.take k)
  rw [hl] at hlt
  have e : (256 : Nat) ^ k = 2 ^ (8 * k) := by rw [Nat.pow_mul]
  rw [List.take_succ_eq_append_getElem h, leP_snoc, hl, e]
  rw [e] at hlt
  have := Nat.two_pow_add_eq_or_of_lt hlt l[k].toNat
  rw [Nat.mul_comm l[k].toNat, Nat.or_comm, ← this]
  omega

theorem shl_le (c k : Nat) (hc : c < 256) (hk : k < 8) : IntKind.u64.wrap ((c : Int) * 2 ^ min ((8 * (k : Int)).toNat) IntKind.u64.bits) = ((c * 2 ^ (8 * k) : Nat) : Int) := by
  have e : (8 * (k : Int)).toNat = 8 * k := by omega
  have e2 : min (8 * k) IntKind.u64.bits = 8 * k := by have : IntKind.u64.bits = 64 := rfl; omega
  rw [e, e2]
  have h1 : 2 ^ (8 * k) ≤ 2 ^ 56 := Nat.pow_le_pow_right (by decide) (by omega)
  have h2 : c * 2 ^ (8 * k) ≤ 255 * 2 ^ 56 := Nat.mul_le_mul (by omega) h1
  have h3 : ((c * 2 ^ (8 * k) : Nat) : Int) = (c : Int) * 2 ^ (8 * k) := by push_cast; rfl
  rw [← h3]
  exact wrap_fit (by simp only [klo]; omega) (by simp only [khi]; omega)
theorem leP_lt64 (l : List UInt8) (h : l.length ≤ 8) : leP l < 18446744073709551616 := by
  have := leP_lt l
  have h2 : (256 : Nat) ^ l.length ≤ 256 ^ 8 := Nat.pow_le_pow_right (by decide) h
  omega

theorem number_u8 (b o m c i0 : Nat) (l : List UInt8) (hl : l.length = m) (h : i0 + 1 ≤ m) (hc : m ≤ c) (hm : m ≤ 100000) :
  Does Tryz.prog 174 [.agg #[.slice (some ⟨b, o, none⟩) m c, .int .i64 (i0 : Int)], .int .i64 1] [] (fun W => Rd W (some ⟨b, o, none⟩) (bs l)) (X := Unit) (fun _ => True) (fun _ => .tuple #[.int .u8 (leP ((l.drop i0).take 1) : Int), .agg #[.slice (some ⟨b, o, none⟩) m c, .int .i64 ((i0 + 1 : Nat) : Int)], .int .i64 0]) (fun _ => []) := by
 have hlb : ((l.drop i0).take 1).length = 1 := by simp; omega
 have hle := leP_lt ((l.drop i0).take 1)
 rw [hlb] at hle
 refine Does.enter Tryz.func174 rfl (m := 42) rfl (by simp) ?_
 intro W0 hro
 refine VC.seq ?_
 refine VC.region ?_
 refine VL.eff (O.box rfl rfl (by decide) ?_)
 intro g2
 refine VL.q (Q.assign rfl) ?_
 refine VL.eff (O.alloc zo230 (by decide) ?_)
 intro g5
 refine VL.q (Q.assign rfl) ?_
 refine VL.nil ?_
 refine VE.seq ?_
 refine VC.seq ?_
 refine VC.region ?_
 refine VL.q (Q.loadA ty230 rfl zM zS) ?_
 refine VL.q (Q.move rfl) ?_
 refine VL.eff (O.call0 ok108 rfl rfl (by decide) (otake_c b o m c i0 1 l hl h (by omega) hc hm) (fun _ ho _ => hro.only0 ho) ?_)
 intro x16 y16
 obtain ⟨p16, c16⟩ := x16
 refine VK.rowHead (m := 1) zM (by decide) ?_
 intro gr hgr _ _
 dsimp only at hgr
 subst hgr
 refine VL.q (Q.move rfl) ?_
 refine VL.q (Q.extract rfl rfl) ?_
 refine VL.q (Q.extract rfl rfl) ?_
 refine VL.q (Q.extract rfl rfl) ?_
 refine VL.eff (O.alloc zo230 (by decide) ?_)
 intro g8
 refine VL.q (Q.assign rfl) ?_
 refine VL.eff (O.store ty230 rfl rfl rfl rfl zU zP ?_)
 refine VL.q (Q.assign rfl) ?_
 refine VL.nil ?_
 refine VE.seq ?_
 refine VC.seq ?_
 refine VC.seq ?_
 refine VC.region ?_
 refine VL.q (Q.move rfl) ?_
 refine VL.quietE (v' := .bool false) (by decide) (Q.ne rfl rfl) (by rfl) ?_
 refine VL.nil ?_
 refine VE.seq ?_
 refine VC.condF rfl ?_
 refine VC.skip ?_
 refine VE.seq ?_
 refine VC.seq ?_
 refine VC.region ?_
 refine VL.q (Q.assign rfl) ?_
 refine VL.nil ?_
 refine VE.seq ?_
 refine VC.seq ?_
 refine VC.seq ?_
 refine VC.region ?_
 refine VL.q (Q.move rfl) ?_
 refine VL.q (Q.len sl23 rfl) ?_
 refine VL.q (Q.move rfl) ?_
 refine VL.nil ?_
 refine VE.seq ?_
 refine VC.block ?_
 refine VC.loop (X := Nat) (fun k => [(5, .pointer (some ⟨g5, 0, none⟩)), (8, .pointer (some ⟨g8, 0, none⟩)), (24, .slice (some ⟨gr, 0, none⟩) 1 c16), (25, .int .i64 1), (26, .int .i64 (k : Int)), (10, .int .u64 (leP (((l.drop i0).take 1).take k) : Int))]) (fun k => [.blk g8 [.slice (some ⟨b, o, none⟩) m c, .int .i64 ((i0 + 1 : Nat) : Int)] 230, .row (.slice (some ⟨gr, 0, none⟩) 1 c16) 5 1 1 (bs ((l.drop i0).take 1)), .blk g5 [.slice none 0 0, .int .i64 0] 230]) (fun k => k ≤ 1) (fun k => 1 - k) 0 (Nat.zero_le _) ?_ ?_
 ·
  exact VS.mk zE zB
 ·
  intro k hk
  refine VC.seq ?_
  refine VC.region ?_
  refine VL.q (Q.lt rfl rfl) ?_
  refine VL.nil ?_
  refine VE.seq ?_
  refine VC.seq ?_
  refine VC.cond rfl ?_ ?_
  ·
   intro h27
   have hkl : k < ((l.drop i0).take 1).length := by rw [hlb]; have := of_decide_eq_true h27; omega
   have hst := leP_step ((l.drop i0).take 1) k hkl
   have hbk := byte_bd ((l.drop i0).take 1)[k]
   have hk64 := leP_lt64 (((l.drop i0).take 1).take k) (by simp; omega)
   have hs64 : ((l.drop i0).take 1)[k].toNat * 2 ^ (8 * k) < 18446744073709551616 := by
    have h1 : 2 ^ (8 * k) ≤ 2 ^ 56 := Nat.pow_le_pow_right (by decide) (by omega)
    have h2 : ((l.drop i0).take 1)[k].toNat * 2 ^ (8 * k) ≤ 255 * 2 ^ 56 := Nat.mul_le_mul (by omega) h1
    omega
   refine VC.skip ?_
   refine VE.seq ?_
   refine VC.seq ?_
   refine VC.block ?_
   refine VC.seq ?_
   refine VC.region ?_
   refine VL.q (Q.move rfl) ?_
   refine VL.q (Q.indexAddr sl23 (j := k) rfl rfl rfl (by omega)) ?_
   refine VL.q (Q.loadRow (v := .int .u8 (((l.drop i0).take 1)[k].toNat : Int)) ty5 rfl zM (by rw [Nat.zero_add, Nat.mul_one]; exact bs_get _ k hkl)) ?_
   refine VL.q (Q.assign rfl) ?_
   refine VL.q (Q.assign rfl) ?_
   refine VL.nil ?_
   refine VE.seq ?_
   refine VC.region ?_
   refine VL.q (Q.move rfl) ?_
   refine VL.q (Q.move rfl) ?_
   refine VL.q ((by first | exact Q.convF ti5 ti108 rfl (by simp only [klo]; omega) (by simp only [khi]; omega) | exact Q.convM (M := 18446744073709551616) ti5 ti108 rfl rfl rfl | exact Q.conv ti5 ti108 rfl)) ?_
   refine VL.q (Q.move rfl) ?_
   refine VL.q ((by first | exact Q.mulI rfl rfl (by omega) (by omega) | exact Q.mul rfl rfl)) ?_
   refine VL.quietE (v' := .int .u64 ((((l.drop i0).take 1)[k].toNat * 2 ^ (8 * k) : Nat) : Int)) (by decide) (Q.shl rfl rfl (by omega)) (congrArg (Value.int .u64) (shl_le _ k (by omega) (by omega))) ?_
   refine VL.quietE (v' := .int .u64 (leP (((l.drop i0).take 1).take (k + 1)) : Int)) (by decide) (Q.or rfl rfl (by omega) (by simp only [khi]; omega) (by omega) (by simp only [khi]; omega)) (congrArg (Value.int .u64) (by rw [Int.toNat_natCast, Int.toNat_natCast, hst])) ?_
   refine VL.q (Q.assign rfl) ?_
   refine VL.nil ?_
   refine VE.block_normal ?_
   refine VE.seq ?_
   refine VC.region ?_
   refine VL.q ((by first | exact Q.addI rfl rfl (by omega) (by omega) | exact Q.add rfl rfl)) ?_
   refine VL.q (Q.move rfl) ?_
   refine VL.nil ?_
   refine VE.then_normal ?_
   exact VE.round (k + 1) (by omega) (by omega) zE (List.Sublist.refl _)
  ·
   intro h27
   have hge : k = 1 := by have := of_decide_eq_false h27; omega
   subst hge
   have hfull : ((l.drop i0).take 1).take 1 = ((l.drop i0).take 1) := List.take_of_length_le (by omega)
   refine VC.exit ?_
   refine VE.then_exit ?_
   refine VE.then_exit ?_
   refine VE.block_here ?_
   refine VE.seq ?_
   refine VC.seq ?_
   refine VA.start (Ls := [.blk g8 [.slice (some ⟨b, o, none⟩) m c, .int .i64 ((i0 + 1 : Nat) : Int)] 230]) (Cs := []) mixed ?_
   refine VA.take 0 rfl (by kernel_rfl) (by kernel_rfl) (by kernel_rfl) (Still.then Still.body) (List.singleton_sublist.2 zM) Cells.nil (by decide) (Quiet.c (Q.move rfl)) ?_
   refine VA.take 1 rfl (by kernel_rfl) (by kernel_rfl) (by kernel_rfl) (Still.then Still.body) (List.singleton_sublist.2 zM) Cells.nil (by decide) (Quiet.c ((by first | exact Q.convF ti108 ti5 rfl (by simp only [klo]; omega) (by simp only [khi]; omega) | exact Q.convM (M := 256) ti108 ti5 rfl rfl rfl | exact Q.conv ti108 ti5 rfl))) ?_
   refine VA.take 2 rfl (by kernel_rfl) (by kernel_rfl) (by kernel_rfl) (Still.then Still.body) (List.singleton_sublist.2 zM) Cells.nil (by decide) (Quiet.c (Q.loadA ty230 rfl zM zS)) ?_
   refine VA.take 3 rfl (by kernel_rfl) (by kernel_rfl) (by kernel_rfl) (Still.then Still.body) (List.singleton_sublist.2 zM) Cells.nil (by decide) (Quiet.c (Q.assign rfl)) ?_
   refine VA.all (rs := [4]) (by kernel_rfl) (by simp) ?_
   refine VA.forall1 ?_
   ·
    refine VA.eff rfl ?_
    refine id (O.store ty230 rfl rfl rfl rfl zU zP ?_)
    refine VA.next (List.singleton_sublist.2 zM) Cells.nil ?_
    refine VA.take 5 rfl (by kernel_rfl) (by kernel_rfl) (by kernel_rfl) (Still.then Still.body) (List.singleton_sublist.2 zM) Cells.nil (by decide) (Quiet.c (Q.assign rfl)) ?_
    refine VA.done (by kernel_rfl) ?_
    refine VE.seq ?_
    refine VC.ret ?_
    refine VE.ret rfl (.tmp rfl (.cell ty230 rfl zM rfl (.tmp rfl .nil))) () ?_ ?_ (List.nil_sublist _)
    ·
     trivial
    ·
     rw [hfull]; first | rfl | (rw [show ((leP ((l.drop i0).take 1) : Nat) : Int) % 256 = (leP ((l.drop i0).take 1) : Int) from by (have : (256 : Nat) ^ 1 = 256 := by decide); omega]; rfl)

theorem number_u32 (b o m c i0 : Nat) (l : List UInt8) (hl : l.length = m) (h : i0 + 4 ≤ m) (hc : m ≤ c) (hm : m ≤ 100000) :
  Does Tryz.prog 173 [.agg #[.slice (some ⟨b, o, none⟩) m c, .int .i64 (i0 : Int)], .int .i64 4] [] (fun W => Rd W (some ⟨b, o, none⟩) (bs l)) (X := Unit) (fun _ => True) (fun _ => .tuple #[.int .u32 (leP ((l.drop i0).take 4) : Int), .agg #[.slice (some ⟨b, o, none⟩) m c, .int .i64 ((i0 + 4 : Nat) : Int)], .int .i64 0]) (fun _ => []) := by
 have hlb : ((l.drop i0).take 4).length = 4 := by simp; omega
 have hle := leP_lt ((l.drop i0).take 4)
 rw [hlb] at hle
 refine Does.enter Tryz.func173 rfl (m := 42) rfl (by simp) ?_
 intro W0 hro
 refine VC.seq ?_
 refine VC.region ?_
 refine VL.eff (O.box rfl rfl (by decide) ?_)
 intro g2
 refine VL.q (Q.assign rfl) ?_
 refine VL.eff (O.alloc zo230 (by decide) ?_)
 intro g5
 refine VL.q (Q.assign rfl) ?_
 refine VL.nil ?_
 refine VE.seq ?_
 refine VC.seq ?_
 refine VC.region ?_
 refine VL.q (Q.loadA ty230 rfl zM zS) ?_
 refine VL.q (Q.move rfl) ?_
 refine VL.eff (O.call0 ok108 rfl rfl (by decide) (otake_c b o m c i0 4 l hl h (by omega) hc hm) (fun _ ho _ => hro.only0 ho) ?_)
 intro x16 y16
 obtain ⟨p16, c16⟩ := x16
 refine VK.rowHead (m := 4) zM (by decide) ?_
 intro gr hgr _ _
 dsimp only at hgr
 subst hgr
 refine VL.q (Q.move rfl) ?_
 refine VL.q (Q.extract rfl rfl) ?_
 refine VL.q (Q.extract rfl rfl) ?_
 refine VL.q (Q.extract rfl rfl) ?_
 refine VL.eff (O.alloc zo230 (by decide) ?_)
 intro g8
 refine VL.q (Q.assign rfl) ?_
 refine VL.eff (O.store ty230 rfl rfl rfl rfl zU zP ?_)
 refine VL.q (Q.assign rfl) ?_
 refine VL.nil ?_
 refine VE.seq ?_
 refine VC.seq ?_
 refine VC.seq ?_
 refine VC.region ?_
 refine VL.q (Q.move rfl) ?_
 refine VL.quietE (v' := .bool false) (by decide) (Q.ne rfl rfl) (by rfl) ?_
 refine VL.nil ?_
 refine VE.seq ?_
 refine VC.condF rfl ?_
 refine VC.skip ?_
 refine VE.seq ?_
 refine VC.seq ?_
 refine VC.region ?_
 refine VL.q (Q.assign rfl) ?_
 refine VL.nil ?_
 refine VE.seq ?_
 refine VC.seq ?_
 refine VC.seq ?_
 refine VC.region ?_
 refine VL.q (Q.move rfl) ?_
 refine VL.q (Q.len sl23 rfl) ?_
 refine VL.q (Q.move rfl) ?_
 refine VL.nil ?_
 refine VE.seq ?_
 refine VC.block ?_
 refine VC.loop (X := Nat) (fun k => [(5, .pointer (some ⟨g5, 0, none⟩)), (8, .pointer (some ⟨g8, 0, none⟩)), (24, .slice (some ⟨gr, 0, none⟩) 4 c16), (25, .int .i64 4), (26, .int .i64 (k : Int)), (10, .int .u64 (leP (((l.drop i0).take 4).take k) : Int))]) (fun k => [.blk g8 [.slice (some ⟨b, o, none⟩) m c, .int .i64 ((i0 + 4 : Nat) : Int)] 230, .row (.slice (some ⟨gr, 0, none⟩) 4 c16) 5 1 4 (bs ((l.drop i0).take 4)), .blk g5 [.slice none 0 0, .int .i64 0] 230]) (fun k => k ≤ 4) (fun k => 4 - k) 0 (Nat.zero_le _) ?_ ?_
 ·
  exact VS.mk zE zB
 ·
  intro k hk
  refine VC.seq ?_
  refine VC.region ?_
  refine VL.q (Q.lt rfl rfl) ?_
  refine VL.nil ?_
  refine VE.seq ?_
  refine VC.seq ?_
  refine VC.cond rfl ?_ ?_
  ·
   intro h27
   have hkl : k < ((l.drop i0).take 4).length := by rw [hlb]; have := of_decide_eq_true h27; omega
   have hst := leP_step ((l.drop i0).take 4) k hkl
   have hbk := byte_bd ((l.drop i0).take 4)[k]
   have hk64 := leP_lt64 (((l.drop i0).take 4).take k) (by simp; omega)
   have hs64 : ((l.drop i0).take 4)[k].toNat * 2 ^ (8 * k) < 18446744073709551616 := by
    have h1 : 2 ^ (8 * k) ≤ 2 ^ 56 := Nat.pow_le_pow_right (by decide) (by omega)
    have h2 : ((l.drop i0).take 4)[k].toNat * 2 ^ (8 * k) ≤ 255 * 2 ^ 56 := Nat.mul_le_mul (by omega) h1
    omega
   refine VC.skip ?_
   refine VE.seq ?_
   refine VC.seq ?_
   refine VC.block ?_
   refine VC.seq ?_
   refine VC.region ?_
   refine VL.q (Q.move rfl) ?_
   refine VL.q (Q.indexAddr sl23 (j := k) rfl rfl rfl (by omega)) ?_
   refine VL.q (Q.loadRow (v := .int .u8 (((l.drop i0).take 4)[k].toNat : Int)) ty5 rfl zM (by rw [Nat.zero_add, Nat.mul_one]; exact bs_get _ k hkl)) ?_
   refine VL.q (Q.assign rfl) ?_
   refine VL.q (Q.assign rfl) ?_
   refine VL.nil ?_
   refine VE.seq ?_
   refine VC.region ?_
   refine VL.q (Q.move rfl) ?_
   refine VL.q (Q.move rfl) ?_
   refine VL.q ((by first | exact Q.convF ti5 ti108 rfl (by simp only [klo]; omega) (by simp only [khi]; omega) | exact Q.convM (M := 18446744073709551616) ti5 ti108 rfl rfl rfl | exact Q.conv ti5 ti108 rfl)) ?_
   refine VL.q (Q.move rfl) ?_
   refine VL.q ((by first | exact Q.mulI rfl rfl (by omega) (by omega) | exact Q.mul rfl rfl)) ?_
   refine VL.quietE (v' := .int .u64 ((((l.drop i0).take 4)[k].toNat * 2 ^ (8 * k) : Nat) : Int)) (by decide) (Q.shl rfl rfl (by omega)) (congrArg (Value.int .u64) (shl_le _ k (by omega) (by omega))) ?_
   refine VL.quietE (v' := .int .u64 (leP (((l.drop i0).take 4).take (k + 1)) : Int)) (by decide) (Q.or rfl rfl (by omega) (by simp only [khi]; omega) (by omega) (by simp only [khi]; omega)) (congrArg (Value.int .u64) (by rw [Int.toNat_natCast, Int.toNat_natCast, hst])) ?_
   refine VL.q (Q.assign rfl) ?_
   refine VL.nil ?_
   refine VE.block_normal ?_
   refine VE.seq ?_
   refine VC.region ?_
   refine VL.q ((by first | exact Q.addI rfl rfl (by omega) (by omega) | exact Q.add rfl rfl)) ?_
   refine VL.q (Q.move rfl) ?_
   refine VL.nil ?_
   refine VE.then_normal ?_
   exact VE.round (k + 1) (by omega) (by omega) zE (List.Sublist.refl _)
  ·
   intro h27
   have hge : k = 4 := by have := of_decide_eq_false h27; omega
   subst hge
   have hfull : ((l.drop i0).take 4).take 4 = ((l.drop i0).take 4) := List.take_of_length_le (by omega)
   refine VC.exit ?_
   refine VE.then_exit ?_
   refine VE.then_exit ?_
   refine VE.block_here ?_
   refine VE.seq ?_
   refine VC.seq ?_
   refine VA.start (Ls := [.blk g8 [.slice (some ⟨b, o, none⟩) m c, .int .i64 ((i0 + 4 : Nat) : Int)] 230]) (Cs := []) mixed ?_
   refine VA.take 0 rfl (by kernel_rfl) (by kernel_rfl) (by kernel_rfl) (Still.then Still.body) (List.singleton_sublist.2 zM) Cells.nil (by decide) (Quiet.c (Q.move rfl)) ?_
   refine VA.take 1 rfl (by kernel_rfl) (by kernel_rfl) (by kernel_rfl) (Still.then Still.body) (List.singleton_sublist.2 zM) Cells.nil (by decide) (Quiet.c ((by first | exact Q.convF ti108 ti236 rfl (by simp only [klo]; omega) (by simp only [khi]; omega) | exact Q.convM (M := 4294967296) ti108 ti236 rfl rfl rfl | exact Q.conv ti108 ti236 rfl))) ?_
   refine VA.take 2 rfl (by kernel_rfl) (by kernel_rfl) (by kernel_rfl) (Still.then Still.body) (List.singleton_sublist.2 zM) Cells.nil (by decide) (Quiet.c (Q.loadA ty230 rfl zM zS)) ?_
   refine VA.take 3 rfl (by kernel_rfl) (by kernel_rfl) (by kernel_rfl) (Still.then Still.body) (List.singleton_sublist.2 zM) Cells.nil (by decide) (Quiet.c (Q.assign rfl)) ?_
   refine VA.all (rs := [4]) (by kernel_rfl) (by simp) ?_
   refine VA.forall1 ?_
   ·
    refine VA.eff rfl ?_
    refine id (O.store ty230 rfl rfl rfl rfl zU zP ?_)
    refine VA.next (List.singleton_sublist.2 zM) Cells.nil ?_
    refine VA.take 5 rfl (by kernel_rfl) (by kernel_rfl) (by kernel_rfl) (Still.then Still.body) (List.singleton_sublist.2 zM) Cells.nil (by decide) (Quiet.c (Q.assign rfl)) ?_
    refine VA.done (by kernel_rfl) ?_
    refine VE.seq ?_
    refine VC.ret ?_
    refine VE.ret rfl (.tmp rfl (.cell ty230 rfl zM rfl (.tmp rfl .nil))) () ?_ ?_ (List.nil_sublist _)
    ·
     trivial
    ·
     rw [hfull]; first | rfl | (rw [show ((leP ((l.drop i0).take 4) : Nat) : Int) % 4294967296 = (leP ((l.drop i0).take 4) : Int) from by (have : (256 : Nat) ^ 4 = 4294967296 := by decide); omega]; rfl)

theorem number_u64 (b o m c i0 : Nat) (l : List UInt8) (hl : l.length = m) (h : i0 + 8 ≤ m) (hc : m ≤ c) (hm : m ≤ 100000) :
  Does Tryz.prog 175 [.agg #[.slice (some ⟨b, o, none⟩) m c, .int .i64 (i0 : Int)], .int .i64 8] [] (fun W => Rd W (some ⟨b, o, none⟩) (bs l)) (X := Unit) (fun _ => True) (fun _ => .tuple #[.int .u64 (leP ((l.drop i0).take 8) : Int), .agg #[.slice (some ⟨b, o, none⟩) m c, .int .i64 ((i0 + 8 : Nat) : Int)], .int .i64 0]) (fun _ => []) := by
 have hlb : ((l.drop i0).take 8).length = 8 := by simp; omega
 have hle := leP_lt ((l.drop i0).take 8)
 rw [hlb] at hle
 refine Does.enter Tryz.func175 rfl (m := 41) rfl (by simp) ?_
 intro W0 hro
 refine VC.seq ?_
 refine VC.region ?_
 refine VL.eff (O.box rfl rfl (by decide) ?_)
 intro g2
 refine VL.q (Q.assign rfl) ?_
 refine VL.eff (O.alloc zo230 (by decide) ?_)
 intro g5
 refine VL.q (Q.assign rfl) ?_
 refine VL.nil ?_
 refine VE.seq ?_
 refine VC.seq ?_
 refine VC.region ?_
 refine VL.q (Q.loadA ty230 rfl zM zS) ?_
 refine VL.q (Q.move rfl) ?_
 refine VL.eff (O.call0 ok108 rfl rfl (by decide) (otake_c b o m c i0 8 l hl h (by omega) hc hm) (fun _ ho _ => hro.only0 ho) ?_)
 intro x16 y16
 obtain ⟨p16, c16⟩ := x16
 refine VK.rowHead (m := 8) zM (by decide) ?_
 intro gr hgr _ _
 dsimp only at hgr
 subst hgr
 refine VL.q (Q.move rfl) ?_
 refine VL.q (Q.extract rfl rfl) ?_
 refine VL.q (Q.extract rfl rfl) ?_
 refine VL.q (Q.extract rfl rfl) ?_
 refine VL.eff (O.alloc zo230 (by decide) ?_)
 intro g8
 refine VL.q (Q.assign rfl) ?_
 refine VL.eff (O.store ty230 rfl rfl rfl rfl zU zP ?_)
 refine VL.q (Q.assign rfl) ?_
 refine VL.nil ?_
 refine VE.seq ?_
 refine VC.seq ?_
 refine VC.seq ?_
 refine VC.region ?_
 refine VL.q (Q.move rfl) ?_
 refine VL.quietE (v' := .bool false) (by decide) (Q.ne rfl rfl) (by rfl) ?_
 refine VL.nil ?_
 refine VE.seq ?_
 refine VC.condF rfl ?_
 refine VC.skip ?_
 refine VE.seq ?_
 refine VC.seq ?_
 refine VC.region ?_
 refine VL.q (Q.assign rfl) ?_
 refine VL.nil ?_
 refine VE.seq ?_
 refine VC.seq ?_
 refine VC.seq ?_
 refine VC.region ?_
 refine VL.q (Q.move rfl) ?_
 refine VL.q (Q.len sl23 rfl) ?_
 refine VL.q (Q.move rfl) ?_
 refine VL.nil ?_
 refine VE.seq ?_
 refine VC.block ?_
 refine VC.loop (X := Nat) (fun k => [(5, .pointer (some ⟨g5, 0, none⟩)), (8, .pointer (some ⟨g8, 0, none⟩)), (24, .slice (some ⟨gr, 0, none⟩) 8 c16), (25, .int .i64 8), (26, .int .i64 (k : Int)), (10, .int .u64 (leP (((l.drop i0).take 8).take k) : Int))]) (fun k => [.blk g8 [.slice (some ⟨b, o, none⟩) m c, .int .i64 ((i0 + 8 : Nat) : Int)] 230, .row (.slice (some ⟨gr, 0, none⟩) 8 c16) 5 1 8 (bs ((l.drop i0).take 8)), .blk g5 [.slice none 0 0, .int .i64 0] 230]) (fun k => k ≤ 8) (fun k => 8 - k) 0 (Nat.zero_le _) ?_ ?_
 ·
  exact VS.mk zE zB
 ·
  intro k hk
  refine VC.seq ?_
  refine VC.region ?_
  refine VL.q (Q.lt rfl rfl) ?_
  refine VL.nil ?_
  refine VE.seq ?_
  refine VC.seq ?_
  refine VC.cond rfl ?_ ?_
  ·
   intro h27
   have hkl : k < ((l.drop i0).take 8).length := by rw [hlb]; have := of_decide_eq_true h27; omega
   have hst := leP_step ((l.drop i0).take 8) k hkl
   have hbk := byte_bd ((l.drop i0).take 8)[k]
   have hk64 := leP_lt64 (((l.drop i0).take 8).take k) (by simp; omega)
   have hs64 : ((l.drop i0).take 8)[k].toNat * 2 ^ (8 * k) < 18446744073709551616 := by
    have h1 : 2 ^ (8 * k) ≤ 2 ^ 56 := Nat.pow_le_pow_right (by decide) (by omega)
    have h2 : ((l.drop i0).take 8)[k].toNat * 2 ^ (8 * k) ≤ 255 * 2 ^ 56 := Nat.mul_le_mul (by omega) h1
    omega
   refine VC.skip ?_
   refine VE.seq ?_
   refine VC.seq ?_
   refine VC.block ?_
   refine VC.seq ?_
   refine VC.region ?_
   refine VL.q (Q.move rfl) ?_
   refine VL.q (Q.indexAddr sl23 (j := k) rfl rfl rfl (by omega)) ?_
   refine VL.q (Q.loadRow (v := .int .u8 (((l.drop i0).take 8)[k].toNat : Int)) ty5 rfl zM (by rw [Nat.zero_add, Nat.mul_one]; exact bs_get _ k hkl)) ?_
   refine VL.q (Q.assign rfl) ?_
   refine VL.q (Q.assign rfl) ?_
   refine VL.nil ?_
   refine VE.seq ?_
   refine VC.region ?_
   refine VL.q (Q.move rfl) ?_
   refine VL.q (Q.move rfl) ?_
   refine VL.q ((by first | exact Q.convF ti5 ti108 rfl (by simp only [klo]; omega) (by simp only [khi]; omega) | exact Q.convM (M := 18446744073709551616) ti5 ti108 rfl rfl rfl | exact Q.conv ti5 ti108 rfl)) ?_
   refine VL.q (Q.move rfl) ?_
   refine VL.q ((by first | exact Q.mulI rfl rfl (by omega) (by omega) | exact Q.mul rfl rfl)) ?_
   refine VL.quietE (v' := .int .u64 ((((l.drop i0).take 8)[k].toNat * 2 ^ (8 * k) : Nat) : Int)) (by decide) (Q.shl rfl rfl (by omega)) (congrArg (Value.int .u64) (shl_le _ k (by omega) (by omega))) ?_
   refine VL.quietE (v' := .int .u64 (leP (((l.drop i0).take 8).take (k + 1)) : Int)) (by decide) (Q.or rfl rfl (by omega) (by simp only [khi]; omega) (by omega) (by simp only [khi]; omega)) (congrArg (Value.int .u64) (by rw [Int.toNat_natCast, Int.toNat_natCast, hst])) ?_
   refine VL.q (Q.assign rfl) ?_
   refine VL.nil ?_
   refine VE.block_normal ?_
   refine VE.seq ?_
   refine VC.region ?_
   refine VL.q ((by first | exact Q.addI rfl rfl (by omega) (by omega) | exact Q.add rfl rfl)) ?_
   refine VL.q (Q.move rfl) ?_
   refine VL.nil ?_
   refine VE.then_normal ?_
   exact VE.round (k + 1) (by omega) (by omega) zE (List.Sublist.refl _)
  ·
   intro h27
   have hge : k = 8 := by have := of_decide_eq_false h27; omega
   subst hge
   have hfull : ((l.drop i0).take 8).take 8 = ((l.drop i0).take 8) := List.take_of_length_le (by omega)
   refine VC.exit ?_
   refine VE.then_exit ?_
   refine VE.then_exit ?_
   refine VE.block_here ?_
   refine VE.seq ?_
   refine VC.seq ?_
   refine VA.start (Ls := [.blk g8 [.slice (some ⟨b, o, none⟩) m c, .int .i64 ((i0 + 8 : Nat) : Int)] 230]) (Cs := []) mixed ?_
   refine VA.take 0 rfl (by kernel_rfl) (by kernel_rfl) (by kernel_rfl) (Still.then Still.body) (List.singleton_sublist.2 zM) Cells.nil (by decide) (Quiet.c (Q.move rfl)) ?_
   refine VA.take 1 rfl (by kernel_rfl) (by kernel_rfl) (by kernel_rfl) (Still.then Still.body) (List.singleton_sublist.2 zM) Cells.nil (by decide) (Quiet.c (Q.loadA ty230 rfl zM zS)) ?_
   refine VA.take 2 rfl (by kernel_rfl) (by kernel_rfl) (by kernel_rfl) (Still.then Still.body) (List.singleton_sublist.2 zM) Cells.nil (by decide) (Quiet.c (Q.assign rfl)) ?_
   refine VA.all (rs := [3]) (by kernel_rfl) (by simp) ?_
   refine VA.forall1 ?_
   ·
    refine VA.eff rfl ?_
    refine id (O.store ty230 rfl rfl rfl rfl zU zP ?_)
    refine VA.next (List.singleton_sublist.2 zM) Cells.nil ?_
    refine VA.take 4 rfl (by kernel_rfl) (by kernel_rfl) (by kernel_rfl) (Still.then Still.body) (List.singleton_sublist.2 zM) Cells.nil (by decide) (Quiet.c (Q.assign rfl)) ?_
    refine VA.done (by kernel_rfl) ?_
    refine VE.seq ?_
    refine VC.ret ?_
    refine VE.ret rfl (.tmp rfl (.cell ty230 rfl zM rfl (.tmp rfl .nil))) () ?_ ?_ (List.nil_sublist _)
    ·
     trivial
    ·
     rw [hfull]; first | rfl | (rw [show ((leP ((l.drop i0).take 8) : Nat) : Int) % 18446744073709551616 = (leP ((l.drop i0).take 8) : Int) from by (have : (256 : Nat) ^ 8 = 18446744073709551616 := by decide); omega]; rfl)

end Go.Proofs.YtencghlmckbmlaaGreat
