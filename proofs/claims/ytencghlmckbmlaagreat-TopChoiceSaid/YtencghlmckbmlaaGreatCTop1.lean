/- TopChoice: beacons, reach, the best rate. Conditions: those that each contract bears. -/
import Derived.Test.YtencghlmckbmlaaGreatRows
import Derived.Test.YtencghlmckbmlaaGreatCTop0
namespace Go.Proofs.YtencghlmckbmlaaGreat
open Go Go.RowKit Go.Sx
set_option maxRecDepth 100000

theorem fa34_3 : tyField Tryz.prog 34 3 = some 3 := by kernel_rfl
theorem fa34_4 : tyField Tryz.prog 34 4 = some 4 := by kernel_rfl
theorem fa34_5 : tyField Tryz.prog 34 5 = some 5 := by kernel_rfl
theorem fa34_6 : tyField Tryz.prog 34 6 = some 6 := by kernel_rfl
theorem fa71_1 : tyField Tryz.prog 71 1 = some 1 := by kernel_rfl
theorem lay176 : laysOf Tryz.prog 176 = some ([.int .u8 0, .int .u8 0, .slice none 0 0, .slice none 0 0], [(0, 1), (1, 1), (2, 1), (3, 1)]) := by kernel_rfl
theorem lay97 : laysOf Tryz.prog 97 = some ([.int .i64 0, .int .i64 0, .int .i64 0, .int .i64 0], [(0, 1), (1, 1), (2, 1), (3, 1)]) := by kernel_rfl
theorem ok22 : okFunc Tryz.prog 22 = true := by kernel_rfl
theorem ok24 : okFunc Tryz.prog 24 = true := by kernel_rfl
theorem ok29 : okFunc Tryz.prog 29 = true := by kernel_rfl
theorem ok63 : okFunc Tryz.prog 63 = true := by kernel_rfl
theorem ok64 : okFunc Tryz.prog 64 = true := by kernel_rfl
theorem ze97 : (Tryz.prog.info? 97).bind (·.zero) = some (.agg #[.int .i64 0, .int .i64 0, .int .i64 0, .int .i64 0]) := by kernel_rfl
theorem zo44 : tyZero Tryz.prog 44 = some [.int .u8 0, .int .u8 0, .int .u8 0, .int .u8 0, .int .u8 0, .int .u8 0] := by kernel_rfl

/-- the elements of a beacon -/
def bcnE (s : Sp) : List El := ⟨0, none, s.nm.data.toList.length, s.nm.data.toList⟩ :: ⟨11, none, 1, [UInt8.ofNat s.ld]⟩ :: (if s.sec then [⟨48, none, 1, [1]⟩] else [])
def bodyOf (s : Sp) : List UInt8 := bcnB (max 1 s.iv) (bcnE s)
/-- the frame of a beacon of node q -/
def txt (q : Nat) (s : Sp) : List UInt8 := (hb_bcn 0 0 q ++ bodyOf s) ++ crcBytes (hb_bcn 0 0 q ++ bodyOf s)
theorem bcnE_enc (s : Sp) (h : s.nm.data.toList.length ≤ 32) : (encE (bcnE s)).length ≤ 40 ∧ 0 < (encE (bcnE s)).length := by
  unfold bcnE
  cases s.sec <;> simp [encE] <;> simp at h <;> omega
theorem bodyOf_len (s : Sp) : (bodyOf s).length = 12 + (encE (bcnE s)).length := bcnB_len _ _
theorem txt_len (q : Nat) (s : Sp) (h : s.nm.data.toList.length ≤ 32) : (txt q s).length ≤ 100 := by
  have h1 := (bcnE_enc s h).1
  unfold txt
  rw [List.length_append, List.length_append, bodyOf_len, hbl_bcn]
  have h4 : (crcBytes (hb_bcn 0 0 q ++ bodyOf s)).length = 4 := rfl
  omega
def bestOk (lv : Int) (i : Nat) : Prop := i < 12 ∧ rNeed (i : Int) ≤ lv ∧ (i + 1 < 12 → lv < rNeed ((i + 1 : Nat) : Int))
structure BestI (lv : Int) (k i : Nat) (f : Bool) : Prop where
  lt : i < 12
  zero : k = 0 → f = false
  pos : 0 < k → f = true ∧ i < k ∧ rNeed (i : Int) ≤ lv ∧ ∀ q, i < q → q < k → lv < rNeed (q : Int)
theorem BestI.yes {lv : Int} {k i : Nat} {f : Bool} (_h : BestI lv k i f) (hk : k < 12) (h2 : rNeed (k : Int) ≤ lv) : BestI lv (k + 1) k true := ⟨hk, fun h => by omega, fun _ => ⟨rfl, by omega, h2, fun q h1 h3 => by omega⟩⟩
theorem BestI.no {lv : Int} {k i : Nat} {f : Bool} (h : BestI lv k i f) (hl : -820 ≤ lv) (h2 : ¬ rNeed (k : Int) ≤ lv) : BestI lv (k + 1) i f := by
  have hk : 0 < k := by
    rcases Nat.eq_zero_or_pos k with h0 | h0
    · subst h0
      exact absurd (show rNeed ((0 : Nat) : Int) ≤ lv from hl) h2
    · exact h0
  obtain ⟨a, b, c, d⟩ := h.pos hk
  refine ⟨h.lt, fun h => by omega, fun _ => ⟨a, by omega, c, fun q h1 h3 => ?_⟩⟩
  by_cases e : q = k
  · subst e; omega
  · exact d q h1 (by omega)
theorem need_bd (i : Int) (h0 : 0 ≤ i) (h1 : i < 12) : -820 ≤ rNeed i ∧ rNeed i ≤ -538 := by
  obtain ⟨j, rfl⟩ := Int.eq_ofNat_of_zero_le h0
  have key : ∀ j : Fin 12, -820 ≤ rNeed ((j : Nat) : Int) ∧ rNeed ((j : Nat) : Int) ≤ -538 := by decide
  exact key ⟨j, by omega⟩
theorem one_sd (n f : Nat) (need : Int) (hf : f < n) (hn : -2000 ≤ need ∧ need ≤ 2000) : SdsOk n [⟨f, 0, 100, need⟩] where
  most := by simp
  node := by intro x hx; rw [List.mem_singleton] at hx; subst hx; exact hf
  time := by intro x hx; rw [List.mem_singleton] at hx; subst hx; exact ⟨Int.le_refl _, by show (0 : Int) < 100; decide, by show (100 : Int) ≤ _; decide⟩
  need := by intro x hx; rw [List.mem_singleton] at hx; subst hx; exact hn
  apart := by intro i j hi hj h; simp at hi hj; omega

theorem point_c (i : Nat) (hi : i ≤ 255) :
  Does Tryz.prog 29 [.int .i64 (i : Int)] [] (fun _ => True) (X := Unit) (fun _ => True) (fun _ => .agg #[.int .u8 2, .int .u8 0, .int .u8 0, .int .u8 0, .int .u8 1, .int .u8 (i : Int)]) (fun _ => []) := by
 refine Does.enter Tryz.func29 rfl (m := 6) rfl (by simp) ?_
 intro W0 hro
 refine VC.seq ?_
 refine VC.region ?_
 refine VL.eff (O.alloc zo44 (by decide) ?_)
 intro g2
 refine VL.nil ?_
 refine VE.seq ?_
 refine VC.seq ?_
 refine VC.region ?_
 refine VL.q (Q.move rfl) ?_
 refine VL.q ((by first | exact Q.convF ti3 ti5 rfl (by simp only [klo]; omega) (by simp only [khi]; omega) | exact Q.convM (M := 256) ti3 ti5 rfl rfl rfl | exact Q.conv ti3 ti5 rfl)) ?_
 refine VL.q (Q.build lay44 zF) ?_
 refine VL.eff (O.store ty44 rfl rfl rfl rfl zU zP ?_)
 refine VL.nil ?_
 refine VE.seq ?_
 refine VC.ret ?_
 refine VE.ret rfl (.cell ty44 rfl zM rfl .nil) () ?_ ?_ (List.nil_sublist _)
 ·
  trivial
 ·
  first | rfl | (exfalso; simp at *; omega)

theorem beacon_c (i : Nat) (hi : i ≤ 255) (x y : Int) (ch ld : Nat) (hld : ld ≤ 255) (nm : ByteArray) (hnm : nm.data.toList.length ≤ 32) (iv : Nat) (hiv : iv ≤ 65535) (sec : Bool) :
  Does Tryz.prog 20 [.int .i64 (i : Int), .agg #[.int .i16 x, .int .i16 y, .int .u8 (ch : Int), .int .u8 (ld : Int), .string nm, .int .u16 (iv : Int), .bool sec]] [] (fun _ => True) (X := Option Addr × Nat) (fun z => (txt i (⟨x, y, ch, ld, nm, iv, sec⟩ : Sp)).length ≤ z.2) (fun z => .tuple #[.slice z.1 (txt i (⟨x, y, ch, ld, nm, iv, sec⟩ : Sp)).length z.2, .bool true]) (fun z => [.row (.slice z.1 (txt i (⟨x, y, ch, ld, nm, iv, sec⟩ : Sp)).length z.2) 5 1 (txt i (⟨x, y, ch, ld, nm, iv, sec⟩ : Sp)).length (bs (txt i (⟨x, y, ch, ld, nm, iv, sec⟩ : Sp)))]) := by
 have hbl : (.int .u8 ((UInt8.ofNat ld).toNat : Int) : Value) = .int .u8 (ld : Int) := by rw [UInt8.toNat_ofNat_of_lt' (by show ld < 256; omega)]
 refine Does.enter Tryz.func20 rfl (m := 57) rfl (by simp) ?_
 intro W0 hro
 refine VC.seq ?_
 refine VC.region ?_
 refine VL.eff (O.box rfl rfl (by decide) ?_)
 intro g3
 refine VL.q (Q.assign rfl) ?_
 refine VL.q (Q.assign rfl) ?_
 refine VL.nil ?_
 refine VE.seq ?_
 refine VC.seq ?_
 refine VC.region ?_
 refine VL.q (Q.fieldAddr fa34_4 rfl) ?_
 refine VL.q (Q.load1 ty9 rfl zM rfl) ?_
 refine VL.eff (O.strBytes ust sl23 ti5 rfl (by decide) ?_)
 intro g14 c14 hc14
 refine VL.q (Q.build lay176 zF) ?_
 refine VL.q (Q.fieldAddr fa34_3 rfl) ?_
 refine VL.q (Q.load1 ty5 rfl zM rfl) ?_
 refine VL.eff (O.buildSlice sl23 ze5 (by decide) zF (by decide) ?_)
 intro g18
 refine VL.q (Q.build lay176 zF) ?_
 refine VL.eff (O.buildSlice sl109 ze176 (by decide) zF (by decide) ?_)
 intro g20
 refine VL.q (Q.assign rfl) ?_
 refine VL.nil ?_
 refine VE.seq ?_
 refine VC.seq ?_
 refine VC.seq ?_
 refine VC.region ?_
 refine VL.q (Q.fieldAddr fa34_6 rfl) ?_
 refine VL.q (Q.load1 ty4 rfl zM rfl) ?_
 refine VL.nil ?_
 refine VE.seq ?_
 refine VC.cond rfl ?_ ?_
 ·
  intro h22
  subst h22
  refine VC.region ?_
  refine VL.q (Q.move rfl) ?_
  refine VL.eff (O.buildSlice sl23 ze5 (by decide) zF (by decide) ?_)
  intro g24
  refine VL.q (Q.build lay176 zF) ?_
  refine VL.eff (O.buildSlice sl109 ze176 (by decide) zF (by decide) ?_)
  intro g26
  refine VK.toRow (g := g20) (s := 4) (m := 2) (c := 2) zU rfl (by omega) (by unfold maxLen; omega) ?_
  refine VL.eff (O.appendS sl109 ze176 rfl (by decide) rfl rfl zM zS rfl (by decide) (by unfold maxLen; omega) (by omega) zA ?_)
  intro p27 c27 hc27
  refine VL.q (Q.assign rfl) ?_
  refine VL.nil ?_
  refine VE.seq ?_
  refine VC.seq ?_
  refine VC.region ?_
  refine VL.q (Q.fieldAddr fa34_5 rfl) ?_
  refine VL.q (Q.load1 ty26 rfl zM rfl) ?_
  refine VL.quietE (v' := .int .u16 ((max 1 iv : Nat) : Int)) (by decide) (Q.max2 rfl rfl) (congrArg (Value.int .u16) (by split <;> omega)) ?_
  refine VL.q (Q.move rfl) ?_
  refine VL.q (Q.build lay111 zF) ?_
  have hels : ∀ e ∈ ([(⟨0, some ⟨g14, 0, none⟩, c14, nm.data.toList⟩ : El), (⟨11, some ⟨g18, 0, none⟩, 1, [UInt8.ofNat ld]⟩ : El), (⟨48, some ⟨g24, 0, none⟩, 1, [1]⟩ : El)] : List El), ElOk e := by
   intro e he
   simp only [List.mem_cons, List.not_mem_nil, or_false] at he
   rcases he with rfl | rfl | rfl
   ·
    exact ⟨by show 0 ≤ 199; decide, by show nm.data.toList.length ≤ 200; omega, hc14⟩
   ·
    exact ⟨by show 11 ≤ 199; decide, by show 1 ≤ 200; decide, Nat.le_refl _⟩
   ·
    exact ⟨by show 48 ≤ 199; decide, by show 1 ≤ 200; decide, Nat.le_refl _⟩
  have hbo : bcnB (max 1 iv) [(⟨0, some ⟨g14, 0, none⟩, c14, nm.data.toList⟩ : El), (⟨11, some ⟨g18, 0, none⟩, 1, [UInt8.ofNat ld]⟩ : El), (⟨48, some ⟨g24, 0, none⟩, 1, [1]⟩ : El)] = bodyOf (⟨x, y, ch, ld, nm, iv, true⟩ : Sp) := rfl
  have hel := (bcnE_enc (⟨x, y, ch, ld, nm, iv, true⟩ : Sp) hnm).1
  have hlen0 : (encE ([(⟨0, some ⟨g14, 0, none⟩, c14, nm.data.toList⟩ : El), (⟨11, some ⟨g18, 0, none⟩, 1, [UInt8.ofNat ld]⟩ : El), (⟨48, some ⟨g24, 0, none⟩, 1, [1]⟩ : El)] : List El)).length ≤ 40 := hel
  refine VL.eff (O.call0 ok63 rfl rfl (by decide) (encbcn_c (max 1 iv) (by omega) p27 c27 [(⟨0, some ⟨g14, 0, none⟩, c14, nm.data.toList⟩ : El), (⟨11, some ⟨g18, 0, none⟩, 1, [UInt8.ofNat ld]⟩ : El), (⟨48, some ⟨g24, 0, none⟩, 1, [1]⟩ : El)] hels (by simp) (by omega)) (fun _ _ hW => ⟨Rd.row hW zM, fun e he => by
    simp only [List.mem_cons, List.not_mem_nil, or_false] at he
    rcases he with rfl | rfl | rfl
    ·
     exact Rd.frz hW zM
    ·
     exact Rd.own hW zM (fun j u hj => by rw [Nat.zero_add, ← hbl]; exact hj)
    ·
     exact Rd.own hW zM (fun j u hj => by rw [Nat.zero_add]; exact hj)⟩) ?_)
  intro x34 y34
  rw [hbo]
  refine VL.q (Q.move rfl) ?_
  refine VL.q (Q.extract rfl rfl) ?_
  refine VL.q (Q.extract rfl rfl) ?_
  refine VL.q (Q.assign rfl) ?_
  refine VL.q (Q.assign rfl) ?_
  refine VL.nil ?_
  refine VE.seq ?_
  refine VC.seq ?_
  refine VC.region ?_
  refine VL.q (Q.build lay44 zF) ?_
  refine VL.q (Q.move rfl) ?_
  refine VL.eff (O.call0 ok29 rfl rfl (by decide) (point_c i hi) (fun _ _ _ => trivial) ?_)
  intro x39 y39
  refine VL.q (Q.move rfl) ?_
  refine VL.eff (O.call0 ok29 rfl rfl (by decide) (point_c i hi) (fun _ _ _ => trivial) ?_)
  intro x41 y41
  refine VL.q (Q.build lay103 zF) ?_
  refine VL.eff (O.alloc zo103 (by decide) ?_)
  intro g9
  refine VL.eff (O.store ty103 rfl rfl rfl rfl zU zP ?_)
  refine VL.nil ?_
  refine VE.seq ?_
  refine VC.seq ?_
  refine VK.keep (by exact .cons (i := 4) rfl (.cons (i := 5) rfl (.cons (i := 7) rfl (.cons (i := 8) rfl (.cons (i := 9) rfl ( .nil)))))) ?_
  refine VC.region ?_
  refine VL.q (Q.loadA ty103 rfl zM zS) ?_
  refine VL.q (Q.move rfl) ?_
  refine VL.q (Q.build lay105 zF) ?_
  have hbl2 := bodyOf_len (⟨x, y, ch, ld, nm, iv, true⟩ : Sp)
  refine VL.eff (O.call0 ok64 rfl rfl (by decide) (encode_bcn 0 (by decide) 0 i (by decide) hi x34.1 (bodyOf (⟨x, y, ch, ld, nm, iv, true⟩ : Sp)).length x34.2 (bodyOf (⟨x, y, ch, ld, nm, iv, true⟩ : Sp)) rfl (by omega)) (fun _ _ hW => Rd.row hW zM) ?_)
  intro x47 y47
  refine VL.q (Q.move rfl) ?_
  refine VL.q (Q.extract rfl rfl) ?_
  refine VL.q (Q.extract rfl rfl) ?_
  refine VL.q (Q.assign rfl) ?_
  refine VL.q (Q.assign rfl) ?_
  refine VL.nil ?_
  refine VE.seq ?_
  refine VC.seq ?_
  refine VC.region ?_
  refine VL.q (Q.move rfl) ?_
  refine VL.q (Q.move rfl) ?_
  refine VL.quietE (v' := .bool true) (by decide) (Q.eq rfl rfl) (by rfl) ?_
  refine VL.q (Q.move rfl) ?_
  refine VL.yes rfl rfl ?_
  refine VL.q (Q.move rfl) ?_
  refine VL.yes rfl rfl ?_
  refine VL.quietE (v' := .bool true) (by decide) (Q.eq rfl rfl) (by rfl) ?_
  refine VL.quietE (v' := .bool true) (by decide) (Q.pick_true rfl rfl) (by rfl) ?_
  refine VL.q (Q.assign rfl) ?_
  refine VL.q (Q.assign rfl) ?_
  refine VL.nil ?_
  refine VE.seq ?_
  refine VC.ret ?_
  have hfin : 36 + (bodyOf (⟨x, y, ch, ld, nm, iv, true⟩ : Sp)).length ≤ x47.2 → True := fun _ => trivial
  exact VE.ret rfl (.tmp rfl (.tmp rfl .nil)) x47 (by have h5 := y47; show (hb_bcn 0 0 i ++ bodyOf (⟨x, y, ch, ld, nm, iv, true⟩ : Sp) ++ crcBytes (hb_bcn 0 0 i ++ bodyOf (⟨x, y, ch, ld, nm, iv, true⟩ : Sp))).length ≤ _; rw [List.length_append, List.length_append, hbl_bcn]; have h4 : (crcBytes (hb_bcn 0 0 i ++ bodyOf (⟨x, y, ch, ld, nm, iv, true⟩ : Sp))).length = 4 := rfl; omega) rfl zB
 ·
  intro h22
  subst h22
  refine VC.skip ?_
  refine VE.seq ?_
  refine VC.seq ?_
  refine VC.region ?_
  refine VL.q (Q.fieldAddr fa34_5 rfl) ?_
  refine VL.q (Q.load1 ty26 rfl zM rfl) ?_
  refine VL.quietE (v' := .int .u16 ((max 1 iv : Nat) : Int)) (by decide) (Q.max2 rfl rfl) (congrArg (Value.int .u16) (by split <;> omega)) ?_
  refine VL.q (Q.move rfl) ?_
  refine VL.q (Q.build lay111 zF) ?_
  have hels : ∀ e ∈ ([(⟨0, some ⟨g14, 0, none⟩, c14, nm.data.toList⟩ : El), (⟨11, some ⟨g18, 0, none⟩, 1, [UInt8.ofNat ld]⟩ : El)] : List El), ElOk e := by
   intro e he
   simp only [List.mem_cons, List.not_mem_nil, or_false] at he
   rcases he with rfl | rfl
   ·
    exact ⟨by show 0 ≤ 199; decide, by show nm.data.toList.length ≤ 200; omega, hc14⟩
   ·
    exact ⟨by show 11 ≤ 199; decide, by show 1 ≤ 200; decide, Nat.le_refl _⟩
  have hbo : bcnB (max 1 iv) [(⟨0, some ⟨g14, 0, none⟩, c14, nm.data.toList⟩ : El), (⟨11, some ⟨g18, 0, none⟩, 1, [UInt8.ofNat ld]⟩ : El)] = bodyOf (⟨x, y, ch, ld, nm, iv, false⟩ : Sp) := rfl
  have hel := (bcnE_enc (⟨x, y, ch, ld, nm, iv, false⟩ : Sp) hnm).1
  have hlen0 : (encE ([(⟨0, some ⟨g14, 0, none⟩, c14, nm.data.toList⟩ : El), (⟨11, some ⟨g18, 0, none⟩, 1, [UInt8.ofNat ld]⟩ : El)] : List El)).length ≤ 40 := hel
  refine VL.eff (O.call0 ok63 rfl rfl (by decide) (encbcn_c (max 1 iv) (by omega) (some ⟨g20, 0, none⟩) 2 [(⟨0, some ⟨g14, 0, none⟩, c14, nm.data.toList⟩ : El), (⟨11, some ⟨g18, 0, none⟩, 1, [UInt8.ofNat ld]⟩ : El)] hels (by simp) (by omega)) (fun _ _ hW => ⟨Rd.own hW zM (fun j u hj => by rw [Nat.zero_add]; exact hj), fun e he => by
    simp only [List.mem_cons, List.not_mem_nil, or_false] at he
    rcases he with rfl | rfl
    ·
     exact Rd.frz hW zM
    ·
     exact Rd.own hW zM (fun j u hj => by rw [Nat.zero_add, ← hbl]; exact hj)⟩) ?_)
  intro x34_1 y34_1
  rw [hbo]
  refine VL.q (Q.move rfl) ?_
  refine VL.q (Q.extract rfl rfl) ?_
  refine VL.q (Q.extract rfl rfl) ?_
  refine VL.q (Q.assign rfl) ?_
  refine VL.q (Q.assign rfl) ?_
  refine VL.nil ?_
  refine VE.seq ?_
  refine VC.seq ?_
  refine VC.region ?_
  refine VL.q (Q.build lay44 zF) ?_
  refine VL.q (Q.move rfl) ?_
  refine VL.eff (O.call0 ok29 rfl rfl (by decide) (point_c i hi) (fun _ _ _ => trivial) ?_)
  intro x39_1 y39_1
  refine VL.q (Q.move rfl) ?_
  refine VL.eff (O.call0 ok29 rfl rfl (by decide) (point_c i hi) (fun _ _ _ => trivial) ?_)
  intro x41_1 y41_1
  refine VL.q (Q.build lay103 zF) ?_
  refine VL.eff (O.alloc zo103 (by decide) ?_)
  intro g9_1
  refine VL.eff (O.store ty103 rfl rfl rfl rfl zU zP ?_)
  refine VL.nil ?_
  refine VE.seq ?_
  refine VC.seq ?_
  refine VC.region ?_
  refine VL.q (Q.loadA ty103 rfl zM zS) ?_
  refine VL.q (Q.move rfl) ?_
  refine VL.q (Q.build lay105 zF) ?_
  have hbl2 := bodyOf_len (⟨x, y, ch, ld, nm, iv, false⟩ : Sp)
  refine VL.eff (O.call0 ok64 rfl rfl (by decide) (encode_bcn 0 (by decide) 0 i (by decide) hi x34_1.1 (bodyOf (⟨x, y, ch, ld, nm, iv, false⟩ : Sp)).length x34_1.2 (bodyOf (⟨x, y, ch, ld, nm, iv, false⟩ : Sp)) rfl (by omega)) (fun _ _ hW => Rd.row hW zM) ?_)
  intro x47_1 y47_1
  refine VL.q (Q.move rfl) ?_
  refine VL.q (Q.extract rfl rfl) ?_
  refine VL.q (Q.extract rfl rfl) ?_
  refine VL.q (Q.assign rfl) ?_
  refine VL.q (Q.assign rfl) ?_
  refine VL.nil ?_
  refine VE.seq ?_
  refine VC.seq ?_
  refine VK.keep (by exact .cons (i := 4) rfl (.cons (i := 5) rfl (.cons (i := 8) rfl (.cons (i := 10) rfl (.cons (i := 11) rfl ( .nil)))))) ?_
  refine VC.region ?_
  refine VL.q (Q.move rfl) ?_
  refine VL.q (Q.move rfl) ?_
  refine VL.quietE (v' := .bool true) (by decide) (Q.eq rfl rfl) (by rfl) ?_
  refine VL.q (Q.move rfl) ?_
  refine VL.yes rfl rfl ?_
  refine VL.q (Q.move rfl) ?_
  refine VL.yes rfl rfl ?_
  refine VL.quietE (v' := .bool true) (by decide) (Q.eq rfl rfl) (by rfl) ?_
  refine VL.quietE (v' := .bool true) (by decide) (Q.pick_true rfl rfl) (by rfl) ?_
  refine VL.q (Q.assign rfl) ?_
  refine VL.q (Q.assign rfl) ?_
  refine VL.nil ?_
  refine VE.seq ?_
  refine VC.ret ?_
  have hfin : 36 + (bodyOf (⟨x, y, ch, ld, nm, iv, false⟩ : Sp)).length ≤ x47_1.2 → True := fun _ => trivial
  exact VE.ret rfl (.tmp rfl (.tmp rfl .nil)) x47_1 (by have h5 := y47_1; show (hb_bcn 0 0 i ++ bodyOf (⟨x, y, ch, ld, nm, iv, false⟩ : Sp) ++ crcBytes (hb_bcn 0 0 i ++ bodyOf (⟨x, y, ch, ld, nm, iv, false⟩ : Sp))).length ≤ _; rw [List.length_append, List.length_append, hbl_bcn]; have h4 : (crcBytes (hb_bcn 0 0 i ++ bodyOf (⟨x, y, ch, ld, nm, iv, false⟩ : Sp))).length = 4 := rfl; omega) rfl zB

theorem best_c (lv : Int) (hl : -820 ≤ lv) :
  Does Tryz.prog 30 [.int .i64 lv] [] (fun _ => True) (X := Nat) (fun i => bestOk lv i) (fun i => .tuple #[.int .i64 (i : Int), .bool true]) (fun _ => []) := by
 refine Does.enter Tryz.func30 rfl (m := 21) rfl (by simp) ?_
 intro W0 hro
 refine VC.seq ?_
 refine VC.region ?_
 refine VL.q (Q.assign rfl) ?_
 refine VL.q (Q.assign rfl) ?_
 refine VL.nil ?_
 refine VE.seq ?_
 refine VC.seq ?_
 refine VC.region ?_
 refine VL.q (Q.assign rfl) ?_
 refine VL.q (Q.assign rfl) ?_
 refine VL.nil ?_
 refine VE.seq ?_
 refine VC.seq ?_
 refine VC.seq ?_
 refine VC.region ?_
 refine VL.eff (O.call0 ok52 rfl rfl (by decide) (table_c) (fun _ _ _ => trivial) ?_)
 intro x8 y8
 refine VL.q (Q.move rfl) ?_
 refine VL.nil ?_
 refine VE.seq ?_
 refine VC.block ?_
 refine VC.loop (X := Nat × (Nat × Bool)) (fun x => [(0, .int .i64 lv), (4, .int .i64 (x.2.1 : Int)), (5, .bool x.2.2), (8, .agg rateTab.toArray), (9, .int .i64 (x.1 : Int))]) (fun x => []) (fun x => x.1 ≤ 12 ∧ BestI lv x.1 x.2.1 x.2.2) (fun x => 12 - x.1) (0, (0, false)) ⟨Nat.zero_le _, ⟨by decide, fun _ => rfl, fun h => by cases h⟩⟩ ?_ ?_
 ·
  exact VS.mk zE (List.nil_sublist _)
 ·
  rintro ⟨k, i, f⟩ ⟨hk, hb⟩
  dsimp only at hk hb
  refine VC.seq ?_
  refine VC.region ?_
  refine VL.q (Q.lt rfl rfl) ?_
  refine VL.nil ?_
  refine VE.seq ?_
  refine VC.seq ?_
  refine VC.cond rfl ?_ ?_
  ·
   intro h10
   have hlt : k < 12 := by have := of_decide_eq_true h10; omega
   refine VC.skip ?_
   refine VE.seq ?_
   refine VC.seq ?_
   refine VC.block ?_
   refine VC.seq ?_
   refine VC.region ?_
   refine VL.q (Q.move rfl) ?_
   refine VL.q (index_rate (by omega) (by omega) rfl rfl) ?_
   refine VL.eff (O.alloc zo71 (by decide) ?_)
   intro g7
   refine VL.q (Q.assign rfl) ?_
   refine VL.eff (O.store ty71 rfl rfl rfl rfl zU zP ?_)
   refine VL.nil ?_
   refine VE.seq ?_
   refine VC.seq ?_
   refine VC.region ?_
   refine VL.q (Q.fieldAddr fa71_1 rfl) ?_
   refine VL.q (Q.load1 ty3 rfl zM rfl) ?_
   refine VL.q (Q.move rfl) ?_
   refine VL.q (Q.le rfl rfl) ?_
   refine VL.nil ?_
   refine VE.seq ?_
   refine VC.cond rfl ?_ ?_
   ·
    intro h16
    refine VC.region ?_
    refine VL.q (Q.move rfl) ?_
    refine VL.q (Q.assign rfl) ?_
    refine VL.q (Q.assign rfl) ?_
    refine VL.nil ?_
    refine VE.block_normal ?_
    refine VE.seq ?_
    refine VC.region ?_
    refine VL.q ((by first | exact Q.addI rfl rfl (by omega) (by omega) | exact Q.add rfl rfl)) ?_
    refine VL.q (Q.move rfl) ?_
    refine VL.nil ?_
    refine VE.then_normal ?_
    exact VE.round (k + 1, (k, true)) ⟨by show k + 1 ≤ 12; omega, hb.yes (by omega) (of_decide_eq_true h16)⟩ (by show 12 - (k + 1) < 12 - k; omega) zE (List.nil_sublist _)
   ·
    intro h16
    refine VC.skip ?_
    refine VE.block_normal ?_
    refine VE.seq ?_
    refine VC.region ?_
    refine VL.q ((by first | exact Q.addI rfl rfl (by omega) (by omega) | exact Q.add rfl rfl)) ?_
    refine VL.q (Q.move rfl) ?_
    refine VL.nil ?_
    refine VE.then_normal ?_
    exact VE.round (k + 1, (i, f)) ⟨by show k + 1 ≤ 12; omega, hb.no hl (of_decide_eq_false h16)⟩ (by show 12 - (k + 1) < 12 - k; omega) zE (List.nil_sublist _)
  ·
   intro h10
   have hke : k = 12 := by have := of_decide_eq_false h10; omega
   subst hke
   obtain ⟨q1, q2, q3, q4⟩ := hb.pos (by decide)
   subst q1
   refine VC.exit ?_
   refine VE.then_exit ?_
   refine VE.then_exit ?_
   refine VE.block_here ?_
   refine VE.seq ?_
   refine VC.seq ?_
   refine VC.region ?_
   refine VL.q (Q.move rfl) ?_
   refine VL.q (Q.move rfl) ?_
   refine VL.q (Q.assign rfl) ?_
   refine VL.q (Q.assign rfl) ?_
   refine VL.nil ?_
   refine VE.seq ?_
   refine VC.ret ?_
   exact VE.ret rfl (.tmp rfl (.tmp rfl .nil)) i ⟨q2, q3, fun h => q4 (i + 1) (by omega) h⟩ rfl (List.nil_sublist _)

theorem reach_c (pr : Option Addr) (cr : Nat) (rs : List Ra) (ps : Option Addr) (cs : Nat) (sh : List Row) (hw : AirOk rs (sdOf sh)) (f t i : Nat) (hf : f < rs.length) (ht : t < rs.length) (hi : i < 12) :
  Does Tryz.prog 32 [.agg #[.slice pr rs.length cr, .slice ps sh.length cs], .int .i64 (f : Int), .int .i64 (t : Int), .int .i64 (i : Int)] [] (fun W => RdW W pr rs ps sh) (X := Unit) (fun _ => True) (fun _ => .tuple #[.bool (canB rs (sdOf sh) (⟨f, 0, 100, rNeed (i : Int)⟩ : Sd) t), .bool true]) (fun _ => []) := by
 have hnb := need_bd (i : Int) (by omega) (by omega)
 refine Does.enter Tryz.func32 rfl (m := 45) rfl (by simp) ?_
 intro W0 hro
 refine VC.seq ?_
 refine VC.region ?_
 refine VL.eff (O.box rfl rfl (by decide) ?_)
 intro g4
 refine VL.q (Q.assign rfl) ?_
 refine VL.q (Q.assign rfl) ?_
 refine VL.nil ?_
 refine VE.seq ?_
 refine VC.seq ?_
 refine VC.region ?_
 refine VL.q (Q.move rfl) ?_
 refine VL.eff (O.call0 ok15 rfl rfl (by decide) (get_c (i : Int) (by omega) (by omega)) (fun _ _ _ => trivial) ?_)
 intro x16 y16
 refine VL.q (Q.move rfl) ?_
 refine VL.q (Q.extract rfl rfl) ?_
 refine VL.q (Q.extract rfl rfl) ?_
 refine VL.eff (O.alloc zo71 (by decide) ?_)
 intro g10
 refine VL.eff (O.store ty71 rfl rfl rfl rfl zU zP ?_)
 refine VL.q (Q.assign rfl) ?_
 refine VL.nil ?_
 refine VE.seq ?_
 refine VC.seq ?_
 refine VC.region ?_
 refine VL.q (Q.loadA ty68 rfl zM zS) ?_
 refine VL.q (Q.move rfl) ?_
 refine VL.q (Q.fieldAddr fa71_1 rfl) ?_
 refine VL.q (Q.load1 ty3 rfl zM rfl) ?_
 refine VL.q (Q.build lay97 zF) ?_
 refine VL.eff (O.buildSlice sl88 ze97 (by decide) zF (by decide) ?_)
 intro g25
 refine VL.eff (O.call0 ok22 rfl rfl (by decide) (receivers_c pr cr rs ps cs sh hw (some ⟨g25, 0, none⟩) 1 1 [(⟨f, 0, 100, rNeed (i : Int)⟩ : Sd)] rfl (by decide) (one_sd _ _ _ hf (by omega))) (fun _ ho hW => ⟨hro.only0 ho, Rd.own hW zM (fun j u hj => by rw [Nat.zero_add]; exact hj)⟩) ?_)
 rintro ⟨q26, c26, rows, ids⟩ hrow
 dsimp only at hrow
 have hrl : rows.length = 1 := by have := congrArg List.length hrow; simpa using this
 have hr0 : (rows[0]'(by omega)).d = rcv rs (sdOf sh) (⟨f, 0, 100, rNeed (i : Int)⟩ : Sd) := by
  have h1 := congrArg (fun l => l[0]?) hrow
  simpa [hrl] using h1
 dsimp only
 refine VK.know (∃ b o, q26 = some ⟨b, o, none⟩) (ids := ids) (H := fun W => Rd W q26 (rows.flatMap rowC) ∧ RdRows rows W) zM (fun W hW => hW.1.pos (by rw [fm_length rowC_len]; omega)) ?_
 rintro ⟨b4, o4, rfl⟩
 refine VL.q (Q.move rfl) ?_
 refine VL.q (Q.extract rfl rfl) ?_
 refine VL.q (Q.extract rfl rfl) ?_
 refine VL.q (Q.assign rfl) ?_
 refine VL.q (Q.assign rfl) ?_
 refine VL.nil ?_
 refine VE.seq ?_
 refine VC.seq ?_
 refine VC.seq ?_
 refine VC.region ?_
 refine VL.q (Q.move rfl) ?_
 refine VL.quietE (v' := .bool false) (by decide) (Q.ne rfl rfl) (by rfl) ?_
 refine VL.q (Q.move rfl) ?_
 refine VL.yes rfl rfl ?_
 refine VL.q (Q.move rfl) ?_
 refine VL.yes rfl rfl ?_
 refine VL.quietE (v' := .bool false) (by decide) (Q.ne rfl rfl) (by rfl) ?_
 refine VL.quietE (v' := .bool false) (by decide) (Q.pick_false rfl rfl) (by rfl) ?_
 refine VL.q (Q.move rfl) ?_
 refine VL.yes rfl rfl ?_
 refine VL.q (Q.move rfl) ?_
 refine VL.yes rfl rfl ?_
 refine VL.q (Q.len sl66 rfl) ?_
 refine VL.yes rfl rfl ?_
 refine VL.quietE (v' := .bool false) (by decide) (Q.ne rfl rfl) (congrArg Value.bool (by simp; omega)) ?_
 refine VL.quietE (v' := .bool false) (by decide) (Q.pick_false rfl rfl) (by rfl) ?_
 refine VL.nil ?_
 refine VE.seq ?_
 refine VC.condF rfl ?_
 refine VC.skip ?_
 refine VE.seq ?_
 refine VC.seq ?_
 refine VC.region ?_
 refine VL.q (Q.move rfl) ?_
 refine VL.q (Q.indexAddr sl66 (j := 0) rfl rfl rfl (by omega)) ?_
 refine VL.q (Q.load (v := .slice (rows[0]'(by omega)).p (rows[0]'(by omega)).d.length (rows[0]'(by omega)).c) rfl (fun _ _ hW => lies_one ty78 (Rd.at (Rd.frz (ids := ids) (H := fun W => Rd W (some ⟨b4, o4, none⟩) (rows.flatMap rowC) ∧ RdRows rows W) hW zM).1 (fm_at rowC_len rows 0 (by omega) _ rfl)))) ?_
 refine VL.q (Q.move rfl) ?_
 refine VL.eff (O.call0 ok24 rfl rfl (by decide) (contains_int rows[0].p rows[0].d.length rows[0].c rows[0].d rfl (by rw [hr0]; have := rcv_len rs (sdOf sh) (⟨f, 0, 100, rNeed (i : Int)⟩ : Sd) rs.length; have := hw.n9; show (rcvTo _ _ _ _).length ≤ 1000; omega) (t : Int)) (fun _ _ hW => (Rd.frz (ids := ids) (H := fun W => Rd W (some ⟨b4, o4, none⟩) (rows.flatMap rowC) ∧ RdRows rows W) hW zM).2 _ (List.getElem_mem (by omega))) ?_)
 intro x44 y44
 rw [hr0, rcv_mem rs (sdOf sh) (⟨f, 0, 100, rNeed (i : Int)⟩ : Sd) t ht]
 refine VL.q (Q.assign rfl) ?_
 refine VL.q (Q.assign rfl) ?_
 refine VL.nil ?_
 refine VE.seq ?_
 refine VC.ret ?_
 refine VE.ret rfl (.tmp rfl (.tmp rfl .nil)) () ?_ ?_ (List.nil_sublist _)
 ·
  trivial
 ·
  first | rfl | (exfalso; simp at *; omega)

end Go.Proofs.YtencghlmckbmlaaGreat
