/- The contracts of writing numbers, and of the wrappers that read them. Conditions: those that each bears. -/
import Derived.Test.YtencghlmckbmlaaGreatRows
import Derived.Test.YtencghlmckbmlaaGreatZSlice
namespace Go.Proofs.YtencghlmckbmlaaGreat
open Go Go.RowKit Go.Sx
set_option maxRecDepth 100000

theorem ok173 : okFunc Tryz.prog 173 = true := by kernel_rfl
theorem ok174 : okFunc Tryz.prog 174 = true := by kernel_rfl
theorem ok175 : okFunc Tryz.prog 175 = true := by kernel_rfl
theorem ok192 : okFunc Tryz.prog 192 = true := by kernel_rfl
theorem ok211 : okFunc Tryz.prog 211 = true := by kernel_rfl
theorem ok212 : okFunc Tryz.prog 212 = true := by kernel_rfl

def putLE (n v : Nat) : List UInt8 := (List.range n).map fun i => UInt8.ofNat (v / 256 ^ i)
theorem putLE_len (n v : Nat) : (putLE n v).length = n := by simp [putLE]
theorem putLE_succ (k v : Nat) : putLE (k + 1) v = putLE k v ++ [UInt8.ofNat (v / 256 ^ k)] := by simp [putLE, List.range_succ]
theorem bs_put (l : List UInt8) (k v : Nat) : bs (l ++ putLE (k + 1) v) = bs (l ++ putLE k v) ++ [.int .u8 ((UInt8.ofNat (v / 256 ^ k)).toNat : Int)] := by
  rw [putLE_succ, ← List.append_assoc]
  simp [bs]
theorem bs_put0 (l : List UInt8) (v : Nat) : bs (l ++ putLE 0 v) = bs l := by simp [putLE]
theorem leP_put (v : Nat) : ∀ n, v < 256 ^ n → leP (putLE n v) = v := by
  have key : ∀ n, leP (putLE n v) = v % 256 ^ n := by
    intro n
    induction n with
    | zero => simp [putLE, leP, Nat.mod_one]
    | succ n ih =>
      rw [putLE_succ, leP_snoc, ih, putLE_len, Nat.pow_succ, Nat.mod_mul]
      simp
  intro n h
  rw [key, Nat.mod_eq_of_lt h]
theorem shr_le (v k : Nat) (hk : k < 8) : (v : Int) / 2 ^ min ((8 * (k : Int)).toNat) IntKind.u64.bits = ((v / 256 ^ k : Nat) : Int) := by
  have e : (8 * (k : Int)).toNat = 8 * k := by omega
  have e2 : min (8 * k) IntKind.u64.bits = 8 * k := by have : IntKind.u64.bits = 64 := rfl; omega
  rw [e, e2]
  have e3 : (256 : Nat) ^ k = 2 ^ (8 * k) := by rw [Nat.pow_mul]
  rw [e3]
  push_cast
  rfl
theorem byte_of (x : Nat) : ((x : Nat) : Int) % 256 = ((UInt8.ofNat x).toNat : Int) := by simp
theorem put_all {A B ys : List Value} (h : A.length = ys.length) : Put (A ++ B) 0 ys (ys ++ B) := put_over h

theorem put_u8 (p : Option Addr) (m c v : Nat) (l : List UInt8) (hl : l.length = m) (hm : m ≤ 100000) (hv : v < 256) :
  Does Tryz.prog 212 [.slice p m c, .int .u8 (v : Int), .int .i64 1] [] (fun W => Rd W p (bs l)) (X := Option Addr × Nat) (fun x => m + 1 ≤ x.2) (fun x => .slice x.1 (m + 1) x.2) (fun x => [.row (.slice x.1 (m + 1) x.2) 5 1 (m + 1) (bs (l ++ putLE 1 v))]) := by
 refine Does.enter Tryz.func212 rfl (m := 34) rfl (by simp) ?_
 intro W0 hro
 refine VC.seq ?_
 refine VC.region ?_
 refine VL.q (Q.assign rfl) ?_
 refine VL.nil ?_
 refine VE.seq ?_
 refine VC.seq ?_
 refine VC.region ?_
 refine VL.q (Q.move rfl) ?_
 refine VL.q (Q.len sl23 rfl) ?_
 refine VL.q (Q.move rfl) ?_
 refine VL.q (Q.len sl23 rfl) ?_
 refine VL.q (Q.move rfl) ?_
 refine VL.q ((by first | exact Q.addI rfl rfl (by omega) (by omega) | exact Q.add rfl rfl)) ?_
 refine VL.eff (O.make (m) ((m + 1)) sl23 ze5 rfl rfl rfl (by omega) (by omega) (by omega) (by unfold maxLen; omega) (by decide) ?_)
 intro g15
 refine VL.q (Q.assign rfl) ?_
 refine VL.nil ?_
 refine VE.seq ?_
 refine VC.seq ?_
 refine VC.region ?_
 refine VL.q (Q.move rfl) ?_
 refine VL.q (Q.move rfl) ?_
 refine VK.openAt (g := g15) (m := m) (c := m + 1) (s := 1) zA ?_
 intro D hD hxl _ _
 refine VL.eff (O.copy (news := bs l) (C' := bs l ++ D) sl23 rfl rfl (by rw [bs_length]; omega) (bs_one l) (by decide) (fun _ ho _ => hro.only0 ho) zU (put_over (by rw [hxl, bs_length]; omega)) ?_)
 refine VK.toRow (g := g15) (s := 1) (m := m) (c := m + 1) zU (by rw [List.length_append, bs_length]; omega) (by omega) (by unfold maxLen; omega) ?_
 rw [List.take_left' (by rw [bs_length]; omega), ← bs_put0 l v]
 refine VL.nil ?_
 refine VE.seq ?_
 refine VC.seq ?_
 refine VC.seq ?_
 refine VC.region ?_
 refine VL.q (Q.move rfl) ?_
 refine VL.q (Q.move rfl) ?_
 refine VL.nil ?_
 refine VE.seq ?_
 refine VC.block ?_
 refine VC.loop (X := Nat × (Option Addr × Nat)) (fun x => [(1, .int .u8 (v : Int)), (7, .slice x.2.1 (m + x.1) x.2.2), (19, .int .i64 1), (20, .int .i64 (x.1 : Int))]) (fun x => [.row (.slice x.2.1 (m + x.1) x.2.2) 5 1 (m + x.1) (bs (l ++ putLE x.1 v))]) (fun x => x.1 ≤ 1 ∧ m + x.1 ≤ x.2.2) (fun x => 1 - x.1) (0, (some ⟨g15, 0, none⟩, m + 1)) ⟨Nat.zero_le _, by omega⟩ ?_ ?_
 ·
  exact VS.mk zE zB
 ·
  rintro ⟨k, pk, ck⟩ ⟨hk, hck⟩
  dsimp only at hk hck
  refine VC.seq ?_
  refine VC.region ?_
  refine VL.q (Q.lt rfl rfl) ?_
  refine VL.nil ?_
  refine VE.seq ?_
  refine VC.seq ?_
  refine VC.cond rfl ?_ ?_
  ·
   intro h21
   have hlt : k < 1 := by have := of_decide_eq_true h21; omega
   refine VC.skip ?_
   refine VE.seq ?_
   refine VC.seq ?_
   refine VC.block ?_
   refine VC.seq ?_
   refine VC.region ?_
   refine VL.q (Q.move rfl) ?_
   refine VL.q (Q.assign rfl) ?_
   refine VL.nil ?_
   refine VE.seq ?_
   refine VC.region ?_
   refine VL.q (Q.move rfl) ?_
   refine VL.q (Q.move rfl) ?_
   refine VL.quietE (v' := .int .u64 (v : Int)) (by decide) ((by first | exact Q.convF ti5 ti108 rfl (by simp only [klo]; omega) (by simp only [khi]; omega) | exact Q.convM (M := 18446744073709551616) ti5 ti108 rfl rfl rfl | exact Q.conv ti5 ti108 rfl)) (by rfl) ?_
   refine VL.q (Q.move rfl) ?_
   refine VL.q ((by first | exact Q.mulI rfl rfl (by omega) (by omega) | exact Q.mul rfl rfl)) ?_
   refine VL.quietE (v' := .int .u64 ((v / 256 ^ k : Nat) : Int)) (by decide) (Q.shr rfl rfl (by omega)) (congrArg (Value.int .u64) (shr_le v k (by omega))) ?_
   refine VL.quietE (v' := .int .u8 ((UInt8.ofNat (v / 256 ^ k)).toNat : Int)) (by decide) (Q.convM (M := 256) ti108 ti5 rfl rfl rfl) (congrArg (Value.int .u8) (byte_of _)) ?_
   refine VL.eff (O.buildSlice sl23 ze5 (by decide) zF (by decide) ?_)
   intro g30
   refine VL.eff (O.appendS sl23 ze5 rfl (by decide) rfl rfl zM zS rfl (by decide) (by unfold maxLen; omega) (by omega) zA ?_)
   intro p31 c31 hc31
   refine VL.q (Q.assign rfl) ?_
   refine VL.nil ?_
   refine VE.block_normal ?_
   refine VE.seq ?_
   refine VC.region ?_
   refine VL.q ((by first | exact Q.addI rfl rfl (by omega) (by omega) | exact Q.add rfl rfl)) ?_
   refine VL.q (Q.move rfl) ?_
   refine VL.nil ?_
   refine VE.then_normal ?_
   rw [← bs_put l k v]
   exact VE.round (k + 1, (p31, c31)) ⟨(by omega), hc31⟩ (by omega) zE zB
  ·
   intro h21
   have he : k = 1 := by have := of_decide_eq_false h21; omega
   subst he
   refine VC.exit ?_
   refine VE.then_exit ?_
   refine VE.then_exit ?_
   refine VE.block_here ?_
   refine VE.seq ?_
   refine VC.seq ?_
   refine VC.region ?_
   refine VL.q (Q.move rfl) ?_
   refine VL.q (Q.assign rfl) ?_
   refine VL.nil ?_
   refine VE.seq ?_
   refine VC.ret ?_
   exact VE.ret rfl (.tmp rfl .nil) (pk, ck) hck rfl zB

theorem put8_c (p : Option Addr) (m c v : Nat) (l : List UInt8) (hl : l.length = m) (hm : m ≤ 100000) (hv : v < 256) :
  Does Tryz.prog 170 [.slice p m c, .int .u8 (v : Int)] [] (fun W => Rd W p (bs l)) (X := Option Addr × Nat) (fun x => m + 1 ≤ x.2) (fun x => .slice x.1 (m + 1) x.2) (fun x => [.row (.slice x.1 (m + 1) x.2) 5 1 (m + 1) (bs (l ++ putLE 1 v))]) := by
 refine Does.enter Tryz.func170 rfl (m := 8) rfl (by simp) ?_
 intro W0 hro
 refine VC.seq ?_
 refine VC.region ?_
 refine VL.q (Q.assign rfl) ?_
 refine VL.nil ?_
 refine VE.seq ?_
 refine VC.seq ?_
 refine VC.region ?_
 refine VL.q (Q.move rfl) ?_
 refine VL.q (Q.move rfl) ?_
 refine VL.eff (O.call0 ok212 rfl rfl (by decide) (put_u8 p m c v l hl hm hv) (fun _ ho _ => hro.only0 ho) ?_)
 intro x7 y7
 refine VL.q (Q.assign rfl) ?_
 refine VL.nil ?_
 refine VE.seq ?_
 refine VC.ret ?_
 exact VE.ret rfl (.tmp rfl .nil) x7 y7 rfl zB

theorem u8_c (b o m c i0 : Nat) (l : List UInt8) (hl : l.length = m) (h : i0 + 1 ≤ m) (hc : m ≤ c) (hm : m ≤ 100000) :
  Does Tryz.prog 110 [.agg #[.slice (some ⟨b, o, none⟩) m c, .int .i64 (i0 : Int)]] [] (fun W => Rd W (some ⟨b, o, none⟩) (bs l)) (X := Unit) (fun _ => True) (fun _ => .tuple #[.int .u8 (leP ((l.drop i0).take 1) : Int), .agg #[.slice (some ⟨b, o, none⟩) m c, .int .i64 ((i0 + 1 : Nat) : Int)], .int .i64 0]) (fun _ => []) := by
 refine Does.enter Tryz.func110 rfl (m := 10) rfl (by simp) ?_
 intro W0 hro
 refine VC.seq ?_
 refine VC.region ?_
 refine VL.eff (O.box rfl rfl (by decide) ?_)
 intro g1
 refine VL.q (Q.assign rfl) ?_
 refine VL.eff (O.alloc zo230 (by decide) ?_)
 intro g3
 refine VL.q (Q.assign rfl) ?_
 refine VL.nil ?_
 refine VE.seq ?_
 refine VC.seq ?_
 refine VC.region ?_
 refine VL.q (Q.loadA ty230 rfl zM zS) ?_
 refine VL.eff (O.call0 ok174 rfl rfl (by decide) (number_u8 b o m c i0 l hl h hc hm) (fun _ ho _ => hro.only0 ho) ?_)
 intro x6 y6
 refine VL.q (Q.extract rfl rfl) ?_
 refine VL.q (Q.extract rfl rfl) ?_
 refine VL.q (Q.extract rfl rfl) ?_
 refine VL.q (Q.assign rfl) ?_
 refine VL.eff (O.store ty230 rfl rfl rfl rfl zU zP ?_)
 refine VL.q (Q.assign rfl) ?_
 refine VL.nil ?_
 refine VE.seq ?_
 refine VC.ret ?_
 refine VE.ret rfl (.tmp rfl (.cell ty230 rfl zM rfl (.tmp rfl .nil))) () ?_ ?_ (List.nil_sublist _)
 ·
  trivial
 ·
  first | rfl | (exfalso; simp at *; omega)

theorem put_u32 (p : Option Addr) (m c v : Nat) (l : List UInt8) (hl : l.length = m) (hm : m ≤ 100000) (hv : v < 4294967296) :
  Does Tryz.prog 211 [.slice p m c, .int .u32 (v : Int), .int .i64 4] [] (fun W => Rd W p (bs l)) (X := Option Addr × Nat) (fun x => m + 4 ≤ x.2) (fun x => .slice x.1 (m + 4) x.2) (fun x => [.row (.slice x.1 (m + 4) x.2) 5 1 (m + 4) (bs (l ++ putLE 4 v))]) := by
 refine Does.enter Tryz.func211 rfl (m := 34) rfl (by simp) ?_
 intro W0 hro
 refine VC.seq ?_
 refine VC.region ?_
 refine VL.q (Q.assign rfl) ?_
 refine VL.nil ?_
 refine VE.seq ?_
 refine VC.seq ?_
 refine VC.region ?_
 refine VL.q (Q.move rfl) ?_
 refine VL.q (Q.len sl23 rfl) ?_
 refine VL.q (Q.move rfl) ?_
 refine VL.q (Q.len sl23 rfl) ?_
 refine VL.q (Q.move rfl) ?_
 refine VL.q ((by first | exact Q.addI rfl rfl (by omega) (by omega) | exact Q.add rfl rfl)) ?_
 refine VL.eff (O.make (m) ((m + 4)) sl23 ze5 rfl rfl rfl (by omega) (by omega) (by omega) (by unfold maxLen; omega) (by decide) ?_)
 intro g15
 refine VL.q (Q.assign rfl) ?_
 refine VL.nil ?_
 refine VE.seq ?_
 refine VC.seq ?_
 refine VC.region ?_
 refine VL.q (Q.move rfl) ?_
 refine VL.q (Q.move rfl) ?_
 refine VK.openAt (g := g15) (m := m) (c := m + 4) (s := 1) zA ?_
 intro D hD hxl _ _
 refine VL.eff (O.copy (news := bs l) (C' := bs l ++ D) sl23 rfl rfl (by rw [bs_length]; omega) (bs_one l) (by decide) (fun _ ho _ => hro.only0 ho) zU (put_over (by rw [hxl, bs_length]; omega)) ?_)
 refine VK.toRow (g := g15) (s := 1) (m := m) (c := m + 4) zU (by rw [List.length_append, bs_length]; omega) (by omega) (by unfold maxLen; omega) ?_
 rw [List.take_left' (by rw [bs_length]; omega), ← bs_put0 l v]
 refine VL.nil ?_
 refine VE.seq ?_
 refine VC.seq ?_
 refine VC.seq ?_
 refine VC.region ?_
 refine VL.q (Q.move rfl) ?_
 refine VL.q (Q.move rfl) ?_
 refine VL.nil ?_
 refine VE.seq ?_
 refine VC.block ?_
 refine VC.loop (X := Nat × (Option Addr × Nat)) (fun x => [(1, .int .u32 (v : Int)), (7, .slice x.2.1 (m + x.1) x.2.2), (19, .int .i64 4), (20, .int .i64 (x.1 : Int))]) (fun x => [.row (.slice x.2.1 (m + x.1) x.2.2) 5 1 (m + x.1) (bs (l ++ putLE x.1 v))]) (fun x => x.1 ≤ 4 ∧ m + x.1 ≤ x.2.2) (fun x => 4 - x.1) (0, (some ⟨g15, 0, none⟩, m + 4)) ⟨Nat.zero_le _, by omega⟩ ?_ ?_
 ·
  exact VS.mk zE zB
 ·
  rintro ⟨k, pk, ck⟩ ⟨hk, hck⟩
  dsimp only at hk hck
  refine VC.seq ?_
  refine VC.region ?_
  refine VL.q (Q.lt rfl rfl) ?_
  refine VL.nil ?_
  refine VE.seq ?_
  refine VC.seq ?_
  refine VC.cond rfl ?_ ?_
  ·
   intro h21
   have hlt : k < 4 := by have := of_decide_eq_true h21; omega
   refine VC.skip ?_
   refine VE.seq ?_
   refine VC.seq ?_
   refine VC.block ?_
   refine VC.seq ?_
   refine VC.region ?_
   refine VL.q (Q.move rfl) ?_
   refine VL.q (Q.assign rfl) ?_
   refine VL.nil ?_
   refine VE.seq ?_
   refine VC.region ?_
   refine VL.q (Q.move rfl) ?_
   refine VL.q (Q.move rfl) ?_
   refine VL.quietE (v' := .int .u64 (v : Int)) (by decide) ((by first | exact Q.convF ti236 ti108 rfl (by simp only [klo]; omega) (by simp only [khi]; omega) | exact Q.convM (M := 18446744073709551616) ti236 ti108 rfl rfl rfl | exact Q.conv ti236 ti108 rfl)) (by rfl) ?_
   refine VL.q (Q.move rfl) ?_
   refine VL.q ((by first | exact Q.mulI rfl rfl (by omega) (by omega) | exact Q.mul rfl rfl)) ?_
   refine VL.quietE (v' := .int .u64 ((v / 256 ^ k : Nat) : Int)) (by decide) (Q.shr rfl rfl (by omega)) (congrArg (Value.int .u64) (shr_le v k (by omega))) ?_
   refine VL.quietE (v' := .int .u8 ((UInt8.ofNat (v / 256 ^ k)).toNat : Int)) (by decide) (Q.convM (M := 256) ti108 ti5 rfl rfl rfl) (congrArg (Value.int .u8) (byte_of _)) ?_
   refine VL.eff (O.buildSlice sl23 ze5 (by decide) zF (by decide) ?_)
   intro g30
   refine VL.eff (O.appendS sl23 ze5 rfl (by decide) rfl rfl zM zS rfl (by decide) (by unfold maxLen; omega) (by omega) zA ?_)
   intro p31 c31 hc31
   refine VL.q (Q.assign rfl) ?_
   refine VL.nil ?_
   refine VE.block_normal ?_
   refine VE.seq ?_
   refine VC.region ?_
   refine VL.q ((by first | exact Q.addI rfl rfl (by omega) (by omega) | exact Q.add rfl rfl)) ?_
   refine VL.q (Q.move rfl) ?_
   refine VL.nil ?_
   refine VE.then_normal ?_
   rw [← bs_put l k v]
   exact VE.round (k + 1, (p31, c31)) ⟨(by omega), hc31⟩ (by omega) zE zB
  ·
   intro h21
   have he : k = 4 := by have := of_decide_eq_false h21; omega
   subst he
   refine VC.exit ?_
   refine VE.then_exit ?_
   refine VE.then_exit ?_
   refine VE.block_here ?_
   refine VE.seq ?_
   refine VC.seq ?_
   refine VC.region ?_
   refine VL.q (Q.move rfl) ?_
   refine VL.q (Q.assign rfl) ?_
   refine VL.nil ?_
   refine VE.seq ?_
   refine VC.ret ?_
   exact VE.ret rfl (.tmp rfl .nil) (pk, ck) hck rfl zB

theorem put32_c (p : Option Addr) (m c v : Nat) (l : List UInt8) (hl : l.length = m) (hm : m ≤ 100000) (hv : v < 4294967296) :
  Does Tryz.prog 169 [.slice p m c, .int .u32 (v : Int)] [] (fun W => Rd W p (bs l)) (X := Option Addr × Nat) (fun x => m + 4 ≤ x.2) (fun x => .slice x.1 (m + 4) x.2) (fun x => [.row (.slice x.1 (m + 4) x.2) 5 1 (m + 4) (bs (l ++ putLE 4 v))]) := by
 refine Does.enter Tryz.func169 rfl (m := 8) rfl (by simp) ?_
 intro W0 hro
 refine VC.seq ?_
 refine VC.region ?_
 refine VL.q (Q.assign rfl) ?_
 refine VL.nil ?_
 refine VE.seq ?_
 refine VC.seq ?_
 refine VC.region ?_
 refine VL.q (Q.move rfl) ?_
 refine VL.q (Q.move rfl) ?_
 refine VL.eff (O.call0 ok211 rfl rfl (by decide) (put_u32 p m c v l hl hm hv) (fun _ ho _ => hro.only0 ho) ?_)
 intro x7 y7
 refine VL.q (Q.assign rfl) ?_
 refine VL.nil ?_
 refine VE.seq ?_
 refine VC.ret ?_
 exact VE.ret rfl (.tmp rfl .nil) x7 y7 rfl zB

theorem u32_c (b o m c i0 : Nat) (l : List UInt8) (hl : l.length = m) (h : i0 + 4 ≤ m) (hc : m ≤ c) (hm : m ≤ 100000) :
  Does Tryz.prog 109 [.agg #[.slice (some ⟨b, o, none⟩) m c, .int .i64 (i0 : Int)]] [] (fun W => Rd W (some ⟨b, o, none⟩) (bs l)) (X := Unit) (fun _ => True) (fun _ => .tuple #[.int .u32 (leP ((l.drop i0).take 4) : Int), .agg #[.slice (some ⟨b, o, none⟩) m c, .int .i64 ((i0 + 4 : Nat) : Int)], .int .i64 0]) (fun _ => []) := by
 refine Does.enter Tryz.func109 rfl (m := 10) rfl (by simp) ?_
 intro W0 hro
 refine VC.seq ?_
 refine VC.region ?_
 refine VL.eff (O.box rfl rfl (by decide) ?_)
 intro g1
 refine VL.q (Q.assign rfl) ?_
 refine VL.eff (O.alloc zo230 (by decide) ?_)
 intro g3
 refine VL.q (Q.assign rfl) ?_
 refine VL.nil ?_
 refine VE.seq ?_
 refine VC.seq ?_
 refine VC.region ?_
 refine VL.q (Q.loadA ty230 rfl zM zS) ?_
 refine VL.eff (O.call0 ok173 rfl rfl (by decide) (number_u32 b o m c i0 l hl h hc hm) (fun _ ho _ => hro.only0 ho) ?_)
 intro x6 y6
 refine VL.q (Q.extract rfl rfl) ?_
 refine VL.q (Q.extract rfl rfl) ?_
 refine VL.q (Q.extract rfl rfl) ?_
 refine VL.q (Q.assign rfl) ?_
 refine VL.eff (O.store ty230 rfl rfl rfl rfl zU zP ?_)
 refine VL.q (Q.assign rfl) ?_
 refine VL.nil ?_
 refine VE.seq ?_
 refine VC.ret ?_
 refine VE.ret rfl (.tmp rfl (.cell ty230 rfl zM rfl (.tmp rfl .nil))) () ?_ ?_ (List.nil_sublist _)
 ·
  trivial
 ·
  first | rfl | (exfalso; simp at *; omega)

theorem put_u64 (p : Option Addr) (m c v : Nat) (l : List UInt8) (hl : l.length = m) (hm : m ≤ 100000) (hv : v < 18446744073709551616) :
  Does Tryz.prog 192 [.slice p m c, .int .u64 (v : Int), .int .i64 8] [] (fun W => Rd W p (bs l)) (X := Option Addr × Nat) (fun x => m + 8 ≤ x.2) (fun x => .slice x.1 (m + 8) x.2) (fun x => [.row (.slice x.1 (m + 8) x.2) 5 1 (m + 8) (bs (l ++ putLE 8 v))]) := by
 refine Does.enter Tryz.func192 rfl (m := 33) rfl (by simp) ?_
 intro W0 hro
 refine VC.seq ?_
 refine VC.region ?_
 refine VL.q (Q.assign rfl) ?_
 refine VL.nil ?_
 refine VE.seq ?_
 refine VC.seq ?_
 refine VC.region ?_
 refine VL.q (Q.move rfl) ?_
 refine VL.q (Q.len sl23 rfl) ?_
 refine VL.q (Q.move rfl) ?_
 refine VL.q (Q.len sl23 rfl) ?_
 refine VL.q (Q.move rfl) ?_
 refine VL.q ((by first | exact Q.addI rfl rfl (by omega) (by omega) | exact Q.add rfl rfl)) ?_
 refine VL.eff (O.make (m) ((m + 8)) sl23 ze5 rfl rfl rfl (by omega) (by omega) (by omega) (by unfold maxLen; omega) (by decide) ?_)
 intro g15
 refine VL.q (Q.assign rfl) ?_
 refine VL.nil ?_
 refine VE.seq ?_
 refine VC.seq ?_
 refine VC.region ?_
 refine VL.q (Q.move rfl) ?_
 refine VL.q (Q.move rfl) ?_
 refine VK.openAt (g := g15) (m := m) (c := m + 8) (s := 1) zA ?_
 intro D hD hxl _ _
 refine VL.eff (O.copy (news := bs l) (C' := bs l ++ D) sl23 rfl rfl (by rw [bs_length]; omega) (bs_one l) (by decide) (fun _ ho _ => hro.only0 ho) zU (put_over (by rw [hxl, bs_length]; omega)) ?_)
 refine VK.toRow (g := g15) (s := 1) (m := m) (c := m + 8) zU (by rw [List.length_append, bs_length]; omega) (by omega) (by unfold maxLen; omega) ?_
 rw [List.take_left' (by rw [bs_length]; omega), ← bs_put0 l v]
 refine VL.nil ?_
 refine VE.seq ?_
 refine VC.seq ?_
 refine VC.seq ?_
 refine VC.region ?_
 refine VL.q (Q.move rfl) ?_
 refine VL.q (Q.move rfl) ?_
 refine VL.nil ?_
 refine VE.seq ?_
 refine VC.block ?_
 refine VC.loop (X := Nat × (Option Addr × Nat)) (fun x => [(1, .int .u64 (v : Int)), (7, .slice x.2.1 (m + x.1) x.2.2), (19, .int .i64 8), (20, .int .i64 (x.1 : Int))]) (fun x => [.row (.slice x.2.1 (m + x.1) x.2.2) 5 1 (m + x.1) (bs (l ++ putLE x.1 v))]) (fun x => x.1 ≤ 8 ∧ m + x.1 ≤ x.2.2) (fun x => 8 - x.1) (0, (some ⟨g15, 0, none⟩, m + 8)) ⟨Nat.zero_le _, by omega⟩ ?_ ?_
 ·
  exact VS.mk zE zB
 ·
  rintro ⟨k, pk, ck⟩ ⟨hk, hck⟩
  dsimp only at hk hck
  refine VC.seq ?_
  refine VC.region ?_
  refine VL.q (Q.lt rfl rfl) ?_
  refine VL.nil ?_
  refine VE.seq ?_
  refine VC.seq ?_
  refine VC.cond rfl ?_ ?_
  ·
   intro h21
   have hlt : k < 8 := by have := of_decide_eq_true h21; omega
   refine VC.skip ?_
   refine VE.seq ?_
   refine VC.seq ?_
   refine VC.block ?_
   refine VC.seq ?_
   refine VC.region ?_
   refine VL.q (Q.move rfl) ?_
   refine VL.q (Q.assign rfl) ?_
   refine VL.nil ?_
   refine VE.seq ?_
   refine VC.region ?_
   refine VL.q (Q.move rfl) ?_
   refine VL.q (Q.move rfl) ?_
   refine VL.q (Q.move rfl) ?_
   refine VL.q ((by first | exact Q.mulI rfl rfl (by omega) (by omega) | exact Q.mul rfl rfl)) ?_
   refine VL.quietE (v' := .int .u64 ((v / 256 ^ k : Nat) : Int)) (by decide) (Q.shr rfl rfl (by omega)) (congrArg (Value.int .u64) (shr_le v k (by omega))) ?_
   refine VL.quietE (v' := .int .u8 ((UInt8.ofNat (v / 256 ^ k)).toNat : Int)) (by decide) (Q.convM (M := 256) ti108 ti5 rfl rfl rfl) (congrArg (Value.int .u8) (byte_of _)) ?_
   refine VL.eff (O.buildSlice sl23 ze5 (by decide) zF (by decide) ?_)
   intro g29
   refine VL.eff (O.appendS sl23 ze5 rfl (by decide) rfl rfl zM zS rfl (by decide) (by unfold maxLen; omega) (by omega) zA ?_)
   intro p30 c30 hc30
   refine VL.q (Q.assign rfl) ?_
   refine VL.nil ?_
   refine VE.block_normal ?_
   refine VE.seq ?_
   refine VC.region ?_
   refine VL.q ((by first | exact Q.addI rfl rfl (by omega) (by omega) | exact Q.add rfl rfl)) ?_
   refine VL.q (Q.move rfl) ?_
   refine VL.nil ?_
   refine VE.then_normal ?_
   rw [← bs_put l k v]
   exact VE.round (k + 1, (p30, c30)) ⟨(by omega), hc30⟩ (by omega) zE zB
  ·
   intro h21
   have he : k = 8 := by have := of_decide_eq_false h21; omega
   subst he
   refine VC.exit ?_
   refine VE.then_exit ?_
   refine VE.then_exit ?_
   refine VE.block_here ?_
   refine VE.seq ?_
   refine VC.seq ?_
   refine VC.region ?_
   refine VL.q (Q.move rfl) ?_
   refine VL.q (Q.assign rfl) ?_
   refine VL.nil ?_
   refine VE.seq ?_
   refine VC.ret ?_
   exact VE.ret rfl (.tmp rfl .nil) (pk, ck) hck rfl zB

theorem put64_c (p : Option Addr) (m c v : Nat) (l : List UInt8) (hl : l.length = m) (hm : m ≤ 100000) (hv : v < 18446744073709551616) :
  Does Tryz.prog 140 [.slice p m c, .int .u64 (v : Int)] [] (fun W => Rd W p (bs l)) (X := Option Addr × Nat) (fun x => m + 8 ≤ x.2) (fun x => .slice x.1 (m + 8) x.2) (fun x => [.row (.slice x.1 (m + 8) x.2) 5 1 (m + 8) (bs (l ++ putLE 8 v))]) := by
 refine Does.enter Tryz.func140 rfl (m := 8) rfl (by simp) ?_
 intro W0 hro
 refine VC.seq ?_
 refine VC.region ?_
 refine VL.q (Q.assign rfl) ?_
 refine VL.nil ?_
 refine VE.seq ?_
 refine VC.seq ?_
 refine VC.region ?_
 refine VL.q (Q.move rfl) ?_
 refine VL.q (Q.move rfl) ?_
 refine VL.eff (O.call0 ok192 rfl rfl (by decide) (put_u64 p m c v l hl hm hv) (fun _ ho _ => hro.only0 ho) ?_)
 intro x7 y7
 refine VL.q (Q.assign rfl) ?_
 refine VL.nil ?_
 refine VE.seq ?_
 refine VC.ret ?_
 exact VE.ret rfl (.tmp rfl .nil) x7 y7 rfl zB

theorem u64_c (b o m c i0 : Nat) (l : List UInt8) (hl : l.length = m) (h : i0 + 8 ≤ m) (hc : m ≤ c) (hm : m ≤ 100000) :
  Does Tryz.prog 111 [.agg #[.slice (some ⟨b, o, none⟩) m c, .int .i64 (i0 : Int)]] [] (fun W => Rd W (some ⟨b, o, none⟩) (bs l)) (X := Unit) (fun _ => True) (fun _ => .tuple #[.int .u64 (leP ((l.drop i0).take 8) : Int), .agg #[.slice (some ⟨b, o, none⟩) m c, .int .i64 ((i0 + 8 : Nat) : Int)], .int .i64 0]) (fun _ => []) := by
 refine Does.enter Tryz.func111 rfl (m := 10) rfl (by simp) ?_
 intro W0 hro
 refine VC.seq ?_
 refine VC.region ?_
 refine VL.eff (O.box rfl rfl (by decide) ?_)
 intro g1
 refine VL.q (Q.assign rfl) ?_
 refine VL.eff (O.alloc zo230 (by decide) ?_)
 intro g3
 refine VL.q (Q.assign rfl) ?_
 refine VL.nil ?_
 refine VE.seq ?_
 refine VC.seq ?_
 refine VC.region ?_
 refine VL.q (Q.loadA ty230 rfl zM zS) ?_
 refine VL.eff (O.call0 ok175 rfl rfl (by decide) (number_u64 b o m c i0 l hl h hc hm) (fun _ ho _ => hro.only0 ho) ?_)
 intro x6 y6
 refine VL.q (Q.extract rfl rfl) ?_
 refine VL.q (Q.extract rfl rfl) ?_
 refine VL.q (Q.extract rfl rfl) ?_
 refine VL.q (Q.assign rfl) ?_
 refine VL.eff (O.store ty230 rfl rfl rfl rfl zU zP ?_)
 refine VL.q (Q.assign rfl) ?_
 refine VL.nil ?_
 refine VE.seq ?_
 refine VC.ret ?_
 refine VE.ret rfl (.tmp rfl (.cell ty230 rfl zM rfl (.tmp rfl .nil))) () ?_ ?_ (List.nil_sublist _)
 ·
  trivial
 ·
  first | rfl | (exfalso; simp at *; omega)

end Go.Proofs.YtencghlmckbmlaaGreat
