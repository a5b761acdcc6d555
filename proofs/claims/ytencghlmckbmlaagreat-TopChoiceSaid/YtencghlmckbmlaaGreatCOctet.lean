/- The contracts of package octet. Conditions: those that each bears. -/
import Derived.Test.YtencghlmckbmlaaGreatRows
import Derived.Test.YtencghlmckbmlaaGreatCel
namespace Go.Proofs.YtencghlmckbmlaaGreat
open Go Go.RowKit Go.Sx
set_option maxRecDepth 100000

theorem fa230_0 : tyField Tryz.prog 230 0 = some 0 := by kernel_rfl
theorem fa230_1 : tyField Tryz.prog 230 1 = some 1 := by kernel_rfl
theorem mixed : Tryz.prog.follows .mixedOrders = true := by kernel_rfl
theorem ok172 : okFunc Tryz.prog 172 = true := by kernel_rfl
theorem ok192 : okFunc Tryz.prog 192 = true := by kernel_rfl
theorem ok215 : okFunc Tryz.prog 215 = true := by kernel_rfl
theorem sl23 : tySlice Tryz.prog 23 = some (5, 1, 1) := by kernel_rfl
theorem ti108 : tyInt Tryz.prog 108 = some .u64 := by kernel_rfl
theorem ti26 : tyInt Tryz.prog 26 = some .u16 := by kernel_rfl
theorem ti5 : tyInt Tryz.prog 5 = some .u8 := by kernel_rfl
theorem ty23 : tySz Tryz.prog 23 = some (false, 1) := by kernel_rfl
theorem ty230 : tySz Tryz.prog 230 = some (true, 2) := by kernel_rfl
theorem ty3 : tySz Tryz.prog 3 = some (false, 1) := by kernel_rfl
theorem ty5 : tySz Tryz.prog 5 = some (false, 1) := by kernel_rfl
theorem ze5 : (Tryz.prog.info? 5).bind (·.zero) = some (.int .u8 0) := by kernel_rfl
theorem zo230 : tyZero Tryz.prog 230 = some [.slice none 0 0, .int .i64 0] := by kernel_rfl

theorem ocheck_c (p : Option Addr) (m c : Nat) (i0 : Int) (h : 0 ≤ i0 ∧ i0 ≤ m) :
  Does Tryz.prog 172 [.agg #[.slice p m c, .int .i64 i0]] [] (fun _ => True) (X := Unit) (fun _ => True) (fun _ => .int .i64 0) (fun _ => []) := by
 refine Does.enter Tryz.func172 rfl (m := 14) rfl (by simp) ?_
 intro W0 hro
 refine VC.seq ?_
 refine VC.region ?_
 refine VL.eff (O.box rfl rfl (by decide) ?_)
 intro g1
 refine VL.q (Q.assign rfl) ?_
 refine VL.nil ?_
 refine VE.seq ?_
 refine VC.seq ?_
 refine VC.seq ?_
 refine VC.region ?_
 refine VL.q (Q.fieldAddr fa230_1 rfl) ?_
 refine VL.q (Q.load1 ty3 rfl zM rfl) ?_
 refine VL.quietE (v' := .bool false) (by decide) (Q.lt rfl rfl) (congrArg Value.bool (decide_eq_false (by omega))) ?_
 refine VL.q (Q.move rfl) ?_
 refine VL.yes rfl rfl ?_
 refine VL.q (Q.fieldAddr fa230_1 rfl) ?_
 refine VL.yes rfl rfl ?_
 refine VL.q (Q.load1 ty3 rfl zM rfl) ?_
 refine VL.yes rfl rfl ?_
 refine VL.q (Q.fieldAddr fa230_0 rfl) ?_
 refine VL.yes rfl rfl ?_
 refine VL.q (Q.load1 ty23 rfl zM rfl) ?_
 refine VL.yes rfl rfl ?_
 refine VL.q (Q.len sl23 rfl) ?_
 refine VL.yes rfl rfl ?_
 refine VL.quietE (v' := .bool false) (by decide) (Q.gt rfl rfl) (congrArg Value.bool (decide_eq_false (by omega))) ?_
 refine VL.quietE (v' := .bool false) (by decide) (Q.pick_false rfl rfl) (by rfl) ?_
 refine VL.nil ?_
 refine VE.seq ?_
 refine VC.condF rfl ?_
 refine VC.skip ?_
 refine VE.seq ?_
 refine VC.seq ?_
 refine VC.region ?_
 refine VL.q (Q.assign rfl) ?_
 refine VL.nil ?_
 refine VE.seq ?_
 refine VC.ret ?_
 refine VE.ret rfl (.tmp rfl .nil) () ?_ ?_ (List.nil_sublist _)
 ·
  trivial
 ·
  first | rfl | (exfalso; simp at *; omega)

theorem otake_c (b o m c i0 n : Nat) (l : List UInt8) (hl : l.length = m) (h : i0 + n ≤ m) (h1 : 1 ≤ n) (hc : m ≤ c) (hm : m ≤ 100000) :
  Does Tryz.prog 108 [.agg #[.slice (some ⟨b, o, none⟩) m c, .int .i64 (i0 : Int)], .int .i64 (n : Int)] [] (fun W => Rd W (some ⟨b, o, none⟩) (bs l)) (X := Option Addr × Nat) (fun x => n ≤ x.2) (fun x => .tuple #[.slice x.1 n x.2, .agg #[.slice (some ⟨b, o, none⟩) m c, .int .i64 ((i0 + n : Nat) : Int)], .int .i64 0]) (fun x => [.row (.slice x.1 n x.2) 5 1 n (bs ((l.drop i0).take n))]) := by
 refine Does.enter Tryz.func108 rfl (m := 45) rfl (by simp) ?_
 intro W0 hro
 refine VC.seq ?_
 refine VC.region ?_
 refine VL.eff (O.box rfl rfl (by decide) ?_)
 intro g2
 refine VL.q (Q.assign rfl) ?_
 refine VL.eff (O.alloc zo230 (by decide) ?_)
 intro g5
 refine VL.q (Q.assign rfl) ?_
 refine VL.nil ?_
 refine VE.seq ?_
 refine VC.seq ?_
 refine VC.seq ?_
 refine VC.region ?_
 refine VL.q (Q.loadA ty230 rfl zM zS) ?_
 refine VL.eff (O.call0 ok172 rfl rfl (by decide) (ocheck_c _ _ _ _ (by omega)) (fun _ _ _ => trivial) ?_)
 intro x10 y10
 refine VL.q (Q.assign rfl) ?_
 refine VL.nil ?_
 refine VE.seq ?_
 refine VC.seq ?_
 refine VC.region ?_
 refine VL.q (Q.move rfl) ?_
 refine VL.quietE (v' := .bool false) (by decide) (Q.ne rfl rfl) (by rfl) ?_
 refine VL.nil ?_
 refine VE.seq ?_
 refine VC.condF rfl ?_
 refine VC.skip ?_
 refine VE.seq ?_
 refine VC.seq ?_
 refine VC.seq ?_
 refine VC.region ?_
 refine VL.q (Q.move rfl) ?_
 refine VL.quietE (v' := .bool false) (by decide) (Q.lt rfl rfl) (congrArg Value.bool (decide_eq_false (by omega))) ?_
 refine VL.nil ?_
 refine VE.seq ?_
 refine VC.condF rfl ?_
 refine VC.skip ?_
 refine VE.seq ?_
 refine VC.seq ?_
 refine VC.seq ?_
 refine VC.region ?_
 refine VL.q (Q.move rfl) ?_
 refine VL.q (Q.fieldAddr fa230_0 rfl) ?_
 refine VL.q (Q.load1 ty23 rfl zM rfl) ?_
 refine VL.q (Q.len sl23 rfl) ?_
 refine VL.q (Q.fieldAddr fa230_1 rfl) ?_
 refine VL.q (Q.load1 ty3 rfl zM rfl) ?_
 refine VL.q ((by first | exact Q.subI rfl rfl (by omega) (by omega) | exact Q.sub rfl rfl)) ?_
 refine VL.quietE (v' := .bool false) (by decide) (Q.gt rfl rfl) (congrArg Value.bool (decide_eq_false (by omega))) ?_
 refine VL.nil ?_
 refine VE.seq ?_
 refine VC.condF rfl ?_
 refine VC.skip ?_
 refine VE.seq ?_
 refine VC.seq ?_
 refine VC.region ?_
 refine VL.eff (O.buildSlice0 sl23 (by decide) ?_)
 intro g27
 refine VK.toRow (g := g27) (s := 1) (m := 0) (c := 0) zU rfl (by omega) (by unfold maxLen; omega) ?_
 refine VL.q (Q.fieldAddr fa230_0 rfl) ?_
 refine VL.q (Q.load1 ty23 rfl zM rfl) ?_
 refine VL.q (Q.fieldAddr fa230_1 rfl) ?_
 refine VL.q (Q.load1 ty3 rfl zM rfl) ?_
 refine VL.q (Q.fieldAddr fa230_1 rfl) ?_
 refine VL.q (Q.load1 ty3 rfl zM rfl) ?_
 refine VL.q (Q.move rfl) ?_
 refine VL.q ((by first | exact Q.addI rfl rfl (by omega) (by omega) | exact Q.add rfl rfl)) ?_
 refine VL.q (Q.slcL sl23 (l := i0) (h := i0 + n) rfl ⟨_, _, rfl, rfl⟩ ⟨_, _, rfl, by omega⟩ (by omega) (by omega) (by omega)) ?_
 refine VL.eff (O.append sl23 ze5 rfl (by decide) rfl rfl (by rw [bs_length, List.length_take, List.length_drop]; omega) (bs_one ((l.drop i0).take n)) (by decide) (by unfold maxLen; omega) (by omega) zA (fun _ ho _ => by rw [Nat.mul_one, bs_take, bs_drop]; exact ((hro.only0 ho).drop i0).take n) ?_)
 intro p37 c37 hc37
 rw [show 0 + (i0 + n - i0) = n from by omega]
 refine VL.q (Q.assign rfl) ?_
 refine VL.nil ?_
 refine VE.seq ?_
 refine VC.seq ?_
 refine VC.region ?_
 refine VL.q (Q.fieldAddr fa230_1 rfl) ?_
 refine VL.q (Q.load1 ty3 rfl zM rfl) ?_
 refine VL.q (Q.move rfl) ?_
 refine VL.q ((by first | exact Q.addI rfl rfl (by omega) (by omega) | exact Q.add rfl rfl)) ?_
 refine VL.q (Q.fieldAddr fa230_1 rfl) ?_
 refine VL.eff (O.store ty3 rfl rfl rfl rfl zU zP ?_)
 refine VL.nil ?_
 refine VE.seq ?_
 refine VC.seq ?_
 refine VA.start (Ls := [.blk g2 [.slice (some ⟨b, o, none⟩) m c, .int .i64 ((i0 : Int) + (n : Int))] 230]) (Cs := []) mixed ?_
 refine VA.tk 0 rfl (zt ze) (List.singleton_sublist.2 zM) Cells.nil (Quiet.c (Q.move rfl)) ?_
 refine VA.tk 1 rfl (zt ze) (List.singleton_sublist.2 zM) Cells.nil (Quiet.c (Q.loadA ty230 rfl zM zS)) ?_
 refine VA.tk 2 rfl (zt ze) (List.singleton_sublist.2 zM) Cells.nil (Quiet.c (Q.assign rfl)) ?_
 refine VA.all (rs := [3]) (by kernel_rfl) (by simp) ?_
 refine VA.forall1 ?_
 ·
  refine VA.eff rfl ?_
  refine id (O.store ty230 rfl rfl rfl rfl zU zP ?_)
  refine VA.next (List.singleton_sublist.2 zM) Cells.nil ?_
  refine VA.tk 4 rfl (zt ze) (List.singleton_sublist.2 zM) Cells.nil (Quiet.c (Q.assign rfl)) ?_
  refine VA.done (by kernel_rfl) ?_
  refine VE.seq ?_
  refine VC.ret ?_
  exact VE.ret rfl (.tmp rfl (.cell ty230 rfl zM rfl (.tmp rfl .nil))) (p37, c37) (by omega) rfl (by repeat (first | exact List.Sublist.refl _ | exact .cons_cons _ (List.nil_sublist _) | apply List.Sublist.cons))

def leP (l : List UInt8) : Nat := l.foldr (fun c r => c.toNat + 256 * r) 0
theorem leP_lt (l : List UInt8) : leP l < 256 ^ l.length := by
  induction l with
  | nil => simp [leP]
  | cons c l ih =>
    have h : leP (c :: l) = c.toNat + 256 * leP l := rfl
    have := c.toNat_lt
    rw [h, List.length_cons, Nat.pow_succ]
    omega
theorem leP_snoc (l : List UInt8) (c : UInt8) : leP (l ++ [c]) = leP l + 256 ^ l.length * c.toNat := by
  induction l with
  | nil => simp [leP]
  | cons d l ih =>
    have h : leP (d :: l ++ [c]) = d.toNat + 256 * leP (l ++ [c]) := rfl
    have h2 : leP (d :: l) = d.toNat + 256 * leP l := rfl
    rw [h, h2, ih, List.length_cons, Nat.pow_succ, Nat.mul_add, ← Nat.mul_assoc, Nat.mul_comm 256 (256 ^ l.length)]
    omega
theorem leP_step (l : List UInt8) (k : Nat) (h : k < l.length) : (leP (l.take k) ||| l[k].toNat * 2 ^ (8 * k)) = leP (l.take (k + 1)) := by
  have hl : (l.take k).length = k := by simp; omega
  have hlt := leP_lt (l.take k)
  rw [hl] at hlt
  have e : (256 : Nat) ^ k = 2 ^ (8 * k) := by rw [Nat.pow_mul]
  rw [List.take_succ_eq_append_getElem h, leP_snoc, hl, e]
  rw [e] at hlt
  have := Nat.two_pow_add_eq_or_of_lt hlt l[k].toNat
  rw [Nat.mul_comm l[k].toNat, Nat.or_comm, ← this]
  omega

theorem shl_le (c k : Nat) (hc : c < 256) (hk : k < 8) : IntKind.u64.wrap ((c : Int) * 2 ^ min ((8 * (k : Int)).toNat) IntKind.u64.bits) = ((c * 2 ^ (8 * k) : Nat) : Int) := by
  have e : (8 * (k : Int)).toNat = 8 * k := by omega
  have e2 : min (8 * k) IntKind.u64.bits = 8 * k := by have : IntKind.u64.bits = 64 := rfl; omega
  rw [e, e2]
  have h1 : 2 ^ (8 * k) ≤ 2 ^ 56 := Nat.pow_le_pow_right (by decide) (by omega)
  have h2 : c * 2 ^ (8 * k) ≤ 255 * 2 ^ 56 := Nat.mul_le_mul (by omega) h1
  have h3 : ((c * 2 ^ (8 * k) : Nat) : Int) = (c : Int) * 2 ^ (8 * k) := by push_cast; rfl
  rw [← h3]
  exact wrap_fit (by simp only [klo]; omega) (by simp only [khi]; omega)
theorem leP_lt64 (l : List UInt8) (h : l.length ≤ 8) : leP l < 18446744073709551616 := by
  have := leP_lt l
  have h2 : (256 : Nat) ^ l.length ≤ 256 ^ 8 := Nat.pow_le_pow_right (by decide) h
  omega

def putLE (n v : Nat) : List UInt8 := (List.range n).map fun i => UInt8.ofNat (v / 256 ^ i)
theorem putLE_len (n v : Nat) : (putLE n v).length = n := by simp [putLE]
theorem putLE_succ (k v : Nat) : putLE (k + 1) v = putLE k v ++ [UInt8.ofNat (v / 256 ^ k)] := by simp [putLE, List.range_succ]
theorem bs_put (l : List UInt8) (k v : Nat) : bs (l ++ putLE (k + 1) v) = bs (l ++ putLE k v) ++ [.int .u8 ((UInt8.ofNat (v / 256 ^ k)).toNat : Int)] := by
  rw [putLE_succ, ← List.append_assoc]
  simp [bs]
theorem bs_put0 (l : List UInt8) (v : Nat) : bs (l ++ putLE 0 v) = bs l := by simp [putLE]
theorem leP_put (v : Nat) : ∀ n, v < 256 ^ n → leP (putLE n v) = v := by
  have key : ∀ n, leP (putLE n v) = v % 256 ^ n := by
    intro n
    induction n with
    | zero => simp [putLE, leP, Nat.mod_one]
    | succ n ih =>
      rw [putLE_succ, leP_snoc, ih, putLE_len, Nat.pow_succ, Nat.mod_mul]
      simp
  intro n h
  rw [key, Nat.mod_eq_of_lt h]
theorem shr_le (v k : Nat) (hk : k < 8) : (v : Int) / 2 ^ min ((8 * (k : Int)).toNat) IntKind.u64.bits = ((v / 256 ^ k : Nat) : Int) := by
  have e : (8 * (k : Int)).toNat = 8 * k := by omega
  have e2 : min (8 * k) IntKind.u64.bits = 8 * k := by have : IntKind.u64.bits = 64 := rfl; omega
  rw [e, e2]
  have e3 : (256 : Nat) ^ k = 2 ^ (8 * k) := by rw [Nat.pow_mul]
  rw [e3]
  push_cast
  rfl
theorem byte_of (x : Nat) : ((x : Nat) : Int) % 256 = ((UInt8.ofNat x).toNat : Int) := by simp
theorem put_all {A B ys : List Value} (h : A.length = ys.length) : Put (A ++ B) 0 ys (ys ++ B) := put_over h

theorem put_u64 (p : Option Addr) (m c v : Nat) (l : List UInt8) (hl : l.length = m) (hm : m ≤ 100000) (hv : v < 18446744073709551616) :
  Does Tryz.prog 192 [.slice p m c, .int .u64 (v : Int), .int .i64 8] [] (fun W => Rd W p (bs l)) (X := Option Addr × Nat) (fun x => m + 8 ≤ x.2) (fun x => .slice x.1 (m + 8) x.2) (fun x => [.row (.slice x.1 (m + 8) x.2) 5 1 (m + 8) (bs (l ++ putLE 8 v))]) := by
 refine Does.enter Tryz.func192 rfl (m := 33) rfl (by simp) ?_
 intro W0 hro
 refine VC.seq ?_
 refine VC.region ?_
 refine VL.q (Q.assign rfl) ?_
 refine VL.nil ?_
 refine VE.seq ?_
 refine VC.seq ?_
 refine VC.region ?_
 refine VL.q (Q.move rfl) ?_
 refine VL.q (Q.len sl23 rfl) ?_
 refine VL.q (Q.move rfl) ?_
 refine VL.q (Q.len sl23 rfl) ?_
 refine VL.q (Q.move rfl) ?_
 refine VL.q ((by first | exact Q.addI rfl rfl (by omega) (by omega) | exact Q.add rfl rfl)) ?_
 refine VL.eff (O.make (m) ((m + 8)) sl23 ze5 rfl rfl rfl (by omega) (by omega) (by omega) (by unfold maxLen; omega) (by decide) ?_)
 intro g15
 refine VL.q (Q.assign rfl) ?_
 refine VL.nil ?_
 refine VE.seq ?_
 refine VC.seq ?_
 refine VC.region ?_
 refine VL.q (Q.move rfl) ?_
 refine VL.q (Q.move rfl) ?_
 refine VK.openAt (g := g15) (m := m) (c := m + 8) (s := 1) zA ?_
 intro D hD hxl _ _
 refine VL.eff (O.copy (news := bs l) (C' := bs l ++ D) sl23 rfl rfl (by rw [bs_length]; omega) (bs_one l) (by decide) (fun _ ho _ => hro.only0 ho) zU (put_over (by rw [hxl, bs_length]; omega)) ?_)
 refine VK.toRow (g := g15) (s := 1) (m := m) (c := m + 8) zU (by rw [List.length_append, bs_length]; omega) (by omega) (by unfold maxLen; omega) ?_
 rw [List.take_left' (by rw [bs_length]; omega), ← bs_put0 l v]
 refine VL.nil ?_
 refine VE.seq ?_
 refine VC.seq ?_
 refine VC.seq ?_
 refine VC.region ?_
 refine VL.q (Q.move rfl) ?_
 refine VL.q (Q.move rfl) ?_
 refine VL.nil ?_
 refine VE.seq ?_
 refine VC.block ?_
 refine VC.loop (X := Nat × (Option Addr × Nat)) (fun x => [(1, .int .u64 (v : Int)), (7, .slice x.2.1 (m + x.1) x.2.2), (19, .int .i64 8), (20, .int .i64 (x.1 : Int))]) (fun x => [.row (.slice x.2.1 (m + x.1) x.2.2) 5 1 (m + x.1) (bs (l ++ putLE x.1 v))]) (fun x => x.1 ≤ 8 ∧ m + x.1 ≤ x.2.2) (fun x => 8 - x.1) (0, (some ⟨g15, 0, none⟩, m + 8)) ⟨Nat.zero_le _, by omega⟩ ?_ ?_
 ·
  exact VS.mk zE zB
 ·
  rintro ⟨k, pk, ck⟩ ⟨hk, hck⟩
  dsimp only at hk hck
  refine VC.seq ?_
  refine VC.region ?_
  refine VL.q (Q.lt rfl rfl) ?_
  refine VL.nil ?_
  refine VE.seq ?_
  refine VC.seq ?_
  refine VC.cond rfl ?_ ?_
  ·
   intro h21
   have hlt : k < 8 := by have := of_decide_eq_true h21; omega
   refine VC.skip ?_
   refine VE.seq ?_
   refine VC.seq ?_
   refine VC.block ?_
   refine VC.seq ?_
   refine VC.region ?_
   refine VL.q (Q.move rfl) ?_
   refine VL.q (Q.assign rfl) ?_
   refine VL.nil ?_
   refine VE.seq ?_
   refine VC.region ?_
   refine VL.q (Q.move rfl) ?_
   refine VL.q (Q.move rfl) ?_
   refine VL.q (Q.move rfl) ?_
   refine VL.q ((by first | exact Q.mulI rfl rfl (by omega) (by omega) | exact Q.mul rfl rfl)) ?_
   refine VL.quietE (v' := .int .u64 ((v / 256 ^ k : Nat) : Int)) (by decide) (Q.shr rfl rfl (by omega)) (congrArg (Value.int .u64) (shr_le v k (by omega))) ?_
   refine VL.quietE (v' := .int .u8 ((UInt8.ofNat (v / 256 ^ k)).toNat : Int)) (by decide) (Q.convM (M := 256) ti108 ti5 rfl rfl rfl) (congrArg (Value.int .u8) (byte_of _)) ?_
   refine VL.eff (O.buildSlice sl23 ze5 (by decide) zF (by decide) ?_)
   intro g29
   refine VL.eff (O.appendS sl23 ze5 rfl (by decide) rfl rfl zM zS rfl (by decide) (by unfold maxLen; omega) (by omega) zA ?_)
   intro p30 c30 hc30
   refine VL.q (Q.assign rfl) ?_
   refine VL.nil ?_
   refine VE.block_normal ?_
   refine VE.seq ?_
   refine VC.region ?_
   refine VL.q ((by first | exact Q.addI rfl rfl (by omega) (by omega) | exact Q.add rfl rfl)) ?_
   refine VL.q (Q.move rfl) ?_
   refine VL.nil ?_
   refine VE.then_normal ?_
   rw [← bs_put l k v]
   exact VE.round (k + 1, (p30, c30)) ⟨(by omega), hc30⟩ (by omega) zE zB
  ·
   intro h21
   have he : k = 8 := by have := of_decide_eq_false h21; omega
   subst he
   refine VC.exit ?_
   refine VE.then_exit ?_
   refine VE.then_exit ?_
   refine VE.block_here ?_
   refine VE.seq ?_
   refine VC.seq ?_
   refine VC.region ?_
   refine VL.q (Q.move rfl) ?_
   refine VL.q (Q.assign rfl) ?_
   refine VL.nil ?_
   refine VE.seq ?_
   refine VC.ret ?_
   exact VE.ret rfl (.tmp rfl .nil) (pk, ck) hck rfl zB

theorem put64_c (p : Option Addr) (m c v : Nat) (l : List UInt8) (hl : l.length = m) (hm : m ≤ 100000) (hv : v < 18446744073709551616) :
  Does Tryz.prog 140 [.slice p m c, .int .u64 (v : Int)] [] (fun W => Rd W p (bs l)) (X := Option Addr × Nat) (fun x => m + 8 ≤ x.2) (fun x => .slice x.1 (m + 8) x.2) (fun x => [.row (.slice x.1 (m + 8) x.2) 5 1 (m + 8) (bs (l ++ putLE 8 v))]) := by
 refine Does.enter Tryz.func140 rfl (m := 8) rfl (by simp) ?_
 intro W0 hro
 refine VC.seq ?_
 refine VC.region ?_
 refine VL.q (Q.assign rfl) ?_
 refine VL.nil ?_
 refine VE.seq ?_
 refine VC.seq ?_
 refine VC.region ?_
 refine VL.q (Q.move rfl) ?_
 refine VL.q (Q.move rfl) ?_
 refine VL.eff (O.call0 ok192 rfl rfl (by decide) (put_u64 p m c v l hl hm hv) (fun _ ho _ => hro.only0 ho) ?_)
 intro x7 y7
 refine VL.q (Q.assign rfl) ?_
 refine VL.nil ?_
 refine VE.seq ?_
 refine VC.ret ?_
 exact VE.ret rfl (.tmp rfl .nil) x7 y7 rfl zB

theorem put_u16 (p : Option Addr) (m c v : Nat) (l : List UInt8) (hl : l.length = m) (hm : m ≤ 100000) (hv : v < 65536) :
  Does Tryz.prog 215 [.slice p m c, .int .u16 (v : Int), .int .i64 2] [] (fun W => Rd W p (bs l)) (X := Option Addr × Nat) (fun x => m + 2 ≤ x.2) (fun x => .slice x.1 (m + 2) x.2) (fun x => [.row (.slice x.1 (m + 2) x.2) 5 1 (m + 2) (bs (l ++ putLE 2 v))]) := by
 refine Does.enter Tryz.func215 rfl (m := 34) rfl (by simp) ?_
 intro W0 hro
 refine VC.seq ?_
 refine VC.region ?_
 refine VL.q (Q.assign rfl) ?_
 refine VL.nil ?_
 refine VE.seq ?_
 refine VC.seq ?_
 refine VC.region ?_
 refine VL.q (Q.move rfl) ?_
 refine VL.q (Q.len sl23 rfl) ?_
 refine VL.q (Q.move rfl) ?_
 refine VL.q (Q.len sl23 rfl) ?_
 refine VL.q (Q.move rfl) ?_
 refine VL.q ((by first | exact Q.addI rfl rfl (by omega) (by omega) | exact Q.add rfl rfl)) ?_
 refine VL.eff (O.make (m) ((m + 2)) sl23 ze5 rfl rfl rfl (by omega) (by omega) (by omega) (by unfold maxLen; omega) (by decide) ?_)
 intro g15
 refine VL.q (Q.assign rfl) ?_
 refine VL.nil ?_
 refine VE.seq ?_
 refine VC.seq ?_
 refine VC.region ?_
 refine VL.q (Q.move rfl) ?_
 refine VL.q (Q.move rfl) ?_
 refine VK.openAt (g := g15) (m := m) (c := m + 2) (s := 1) zA ?_
 intro D hD hxl _ _
 refine VL.eff (O.copy (news := bs l) (C' := bs l ++ D) sl23 rfl rfl (by rw [bs_length]; omega) (bs_one l) (by decide) (fun _ ho _ => hro.only0 ho) zU (put_over (by rw [hxl, bs_length]; omega)) ?_)
 refine VK.toRow (g := g15) (s := 1) (m := m) (c := m + 2) zU (by rw [List.length_append, bs_length]; omega) (by omega) (by unfold maxLen; omega) ?_
 rw [List.take_left' (by rw [bs_length]; omega), ← bs_put0 l v]
 refine VL.nil ?_
 refine VE.seq ?_
 refine VC.seq ?_
 refine VC.seq ?_
 refine VC.region ?_
 refine VL.q (Q.move rfl) ?_
 refine VL.q (Q.move rfl) ?_
 refine VL.nil ?_
 refine VE.seq ?_
 refine VC.block ?_
 refine VC.loop (X := Nat × (Option Addr × Nat)) (fun x => [(1, .int .u16 (v : Int)), (7, .slice x.2.1 (m + x.1) x.2.2), (19, .int .i64 2), (20, .int .i64 (x.1 : Int))]) (fun x => [.row (.slice x.2.1 (m + x.1) x.2.2) 5 1 (m + x.1) (bs (l ++ putLE x.1 v))]) (fun x => x.1 ≤ 2 ∧ m + x.1 ≤ x.2.2) (fun x => 2 - x.1) (0, (some ⟨g15, 0, none⟩, m + 2)) ⟨Nat.zero_le _, by omega⟩ ?_ ?_
 ·
  exact VS.mk zE zB
 ·
  rintro ⟨k, pk, ck⟩ ⟨hk, hck⟩
  dsimp only at hk hck
  refine VC.seq ?_
  refine VC.region ?_
  refine VL.q (Q.lt rfl rfl) ?_
  refine VL.nil ?_
  refine VE.seq ?_
  refine VC.seq ?_
  refine VC.cond rfl ?_ ?_
  ·
   intro h21
   have hlt : k < 2 := by have := of_decide_eq_true h21; omega
   refine VC.skip ?_
   refine VE.seq ?_
   refine VC.seq ?_
   refine VC.block ?_
   refine VC.seq ?_
   refine VC.region ?_
   refine VL.q (Q.move rfl) ?_
   refine VL.q (Q.assign rfl) ?_
   refine VL.nil ?_
   refine VE.seq ?_
   refine VC.region ?_
   refine VL.q (Q.move rfl) ?_
   refine VL.q (Q.move rfl) ?_
   refine VL.quietE (v' := .int .u64 (v : Int)) (by decide) ((by first | exact Q.convF ti26 ti108 rfl (by simp only [klo]; omega) (by simp only [khi]; omega) | exact Q.convM (M := 18446744073709551616) ti26 ti108 rfl rfl rfl | exact Q.conv ti26 ti108 rfl)) (by rfl) ?_
   refine VL.q (Q.move rfl) ?_
   refine VL.q ((by first | exact Q.mulI rfl rfl (by omega) (by omega) | exact Q.mul rfl rfl)) ?_
   refine VL.quietE (v' := .int .u64 ((v / 256 ^ k : Nat) : Int)) (by decide) (Q.shr rfl rfl (by omega)) (congrArg (Value.int .u64) (shr_le v k (by omega))) ?_
   refine VL.quietE (v' := .int .u8 ((UInt8.ofNat (v / 256 ^ k)).toNat : Int)) (by decide) (Q.convM (M := 256) ti108 ti5 rfl rfl rfl) (congrArg (Value.int .u8) (byte_of _)) ?_
   refine VL.eff (O.buildSlice sl23 ze5 (by decide) zF (by decide) ?_)
   intro g30
   refine VL.eff (O.appendS sl23 ze5 rfl (by decide) rfl rfl zM zS rfl (by decide) (by unfold maxLen; omega) (by omega) zA ?_)
   intro p31 c31 hc31
   refine VL.q (Q.assign rfl) ?_
   refine VL.nil ?_
   refine VE.block_normal ?_
   refine VE.seq ?_
   refine VC.region ?_
   refine VL.q ((by first | exact Q.addI rfl rfl (by omega) (by omega) | exact Q.add rfl rfl)) ?_
   refine VL.q (Q.move rfl) ?_
   refine VL.nil ?_
   refine VE.then_normal ?_
   rw [← bs_put l k v]
   exact VE.round (k + 1, (p31, c31)) ⟨(by omega), hc31⟩ (by omega) zE zB
  ·
   intro h21
   have he : k = 2 := by have := of_decide_eq_false h21; omega
   subst he
   refine VC.exit ?_
   refine VE.then_exit ?_
   refine VE.then_exit ?_
   refine VE.block_here ?_
   refine VE.seq ?_
   refine VC.seq ?_
   refine VC.region ?_
   refine VL.q (Q.move rfl) ?_
   refine VL.q (Q.assign rfl) ?_
   refine VL.nil ?_
   refine VE.seq ?_
   refine VC.ret ?_
   exact VE.ret rfl (.tmp rfl .nil) (pk, ck) hck rfl zB

theorem oput16_c (p : Option Addr) (m c v : Nat) (l : List UInt8) (hl : l.length = m) (hm : m ≤ 100000) (hv : v < 65536) :
  Does Tryz.prog 193 [.slice p m c, .int .u16 (v : Int)] [] (fun W => Rd W p (bs l)) (X := Option Addr × Nat) (fun x => m + 2 ≤ x.2) (fun x => .slice x.1 (m + 2) x.2) (fun x => [.row (.slice x.1 (m + 2) x.2) 5 1 (m + 2) (bs (l ++ putLE 2 v))]) := by
 refine Does.enter Tryz.func193 rfl (m := 8) rfl (by simp) ?_
 intro W0 hro
 refine VC.seq ?_
 refine VC.region ?_
 refine VL.q (Q.assign rfl) ?_
 refine VL.nil ?_
 refine VE.seq ?_
 refine VC.seq ?_
 refine VC.region ?_
 refine VL.q (Q.move rfl) ?_
 refine VL.q (Q.move rfl) ?_
 refine VL.eff (O.call0 ok215 rfl rfl (by decide) (put_u16 p m c v l hl hm hv) (fun _ ho _ => hro.only0 ho) ?_)
 intro x7 y7
 refine VL.q (Q.assign rfl) ?_
 refine VL.nil ?_
 refine VE.seq ?_
 refine VC.ret ?_
 exact VE.ret rfl (.tmp rfl .nil) x7 y7 rfl zB

theorem clone_byte (p : Option Addr) (n c : Nat) (xs : List Value) (hl : xs.length = n * 1) (h1 : xs.all one = true) (hn : n ≤ 100000) :
  Does Tryz.prog 168 [.slice p n c] [] (fun W => Rd W p xs) (X := Option Addr × Nat) (fun x => n ≤ x.2) (fun x => .slice x.1 n x.2) (fun x => [.row (.slice x.1 n x.2) 5 1 n xs]) := by
 refine Does.enter Tryz.func168 rfl (m := 8) rfl (by simp) ?_
 intro W0 hro
 refine VC.seq ?_
 refine VC.region ?_
 refine VL.q (Q.assign rfl) ?_
 refine VL.nil ?_
 refine VE.seq ?_
 rcases p with _ | q
 ·
  have hx : xs = [] := by
   cases xs with
   | nil => rfl
   | cons u us =>
    obtain ⟨_, _, e, _⟩ := hro 0 u rfl
    cases e
  subst hx
  have hn0 : n = 0 := by simp at hl; omega
  subst hn0
  refine VK.addNil 5 1 ?_
  refine VC.seq ?_
  refine VC.seq ?_
  refine VC.region ?_
  refine VL.q (Q.move rfl) ?_
  refine VL.quietE (v' := .bool true) (by decide) (Q.eqNil sl23 rfl rfl rfl) (by rfl) ?_
  refine VL.nil ?_
  refine VE.seq ?_
  refine VC.condT rfl ?_
  refine VC.seq ?_
  refine VC.region ?_
  refine VL.q (Q.assign rfl) ?_
  refine VL.nil ?_
  refine VE.seq ?_
  refine VC.ret ?_
  refine VE.then_ret ?_
  exact VE.ret rfl (.tmp rfl .nil) (none, 0) (Nat.le_refl _) rfl zB
 ·
  refine VC.seq ?_
  refine VC.seq ?_
  refine VC.region ?_
  refine VL.q (Q.move rfl) ?_
  refine VL.quietE (v' := .bool false) (by decide) (Q.eqNil sl23 rfl rfl rfl) (by rfl) ?_
  refine VL.nil ?_
  refine VE.seq ?_
  refine VC.condF rfl ?_
  refine VC.skip ?_
  refine VE.seq ?_
  refine VC.seq ?_
  refine VC.region ?_
  refine VL.eff (O.buildSlice0 sl23 (by decide) ?_)
  intro g5
  refine VK.toRow (g := g5) (s := 1) (m := 0) (c := 0) zU rfl (by omega) (by unfold maxLen; omega) ?_
  refine VL.q (Q.move rfl) ?_
  refine VL.eff (O.append sl23 ze5 rfl (by decide) rfl rfl hl h1 (by decide) (by unfold maxLen; omega) (by rw [Nat.zero_add]; omega) zA (fun _ ho _ => hro.only0 ho) ?_)
  intro p7 c7 hc7
  rw [Nat.zero_add]
  refine VL.q (Q.assign rfl) ?_
  refine VL.nil ?_
  refine VE.seq ?_
  refine VC.ret ?_
  exact VE.ret rfl (.tmp rfl .nil) (p7, c7) (by simpa using hc7) rfl zB

end Go.Proofs.YtencghlmckbmlaaGreat
