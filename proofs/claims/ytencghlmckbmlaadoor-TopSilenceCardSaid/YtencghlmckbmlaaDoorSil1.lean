/- The rounds of vaneSilent. Conditions: those that each bears. -/
import Derived.Test.YtencghlmckbmlaaDoorRows
import Derived.Test.YtencghlmckbmlaaDoorSeq
import Derived.Test.YtencghlmckbmlaaDoorRate
import Derived.Test.YtencghlmckbmlaaDoorHead3
import Derived.Test.YtencghlmckbmlaaDoorDeferral
import Derived.Test.YtencghlmckbmlaaDoorExch3
namespace Go.Proofs.YtencghlmckbmlaaDoor
open Go Go.RowKit Go.Sx
set_option maxRecDepth 100000

theorem eg46 : Tryd.prog.eqGuardType Tryd.prog.depth 46 = false := by kernel_rfl
theorem fa27_6 : tyField Tryd.prog 27 6 = some 6 := by kernel_rfl
theorem flt46 : flat Tryd.prog 6 46 = some [.int .i64, .int .i64] := by kernel_rfl
theorem lay46 : laysOf Tryd.prog 46 = some ([.int .i64 0, .int .i64 0], [(0, 1), (1, 1)]) := by kernel_rfl
theorem ok12 : okFunc Tryd.prog 12 = true := by kernel_rfl
theorem ok13 : okFunc Tryd.prog 13 = true := by kernel_rfl
theorem ok14 : okFunc Tryd.prog 14 = true := by kernel_rfl
theorem ok15 : okFunc Tryd.prog 15 = true := by kernel_rfl
theorem ok16 : okFunc Tryd.prog 16 = true := by kernel_rfl
theorem ok17 : okFunc Tryd.prog 17 = true := by kernel_rfl
theorem ok18 : okFunc Tryd.prog 18 = true := by kernel_rfl
theorem ok19 : okFunc Tryd.prog 19 = true := by kernel_rfl
theorem ok21 : okFunc Tryd.prog 21 = true := by kernel_rfl
theorem ty25 : tySz Tryd.prog 25 = some (false, 1) := by kernel_rfl

def airsP (ri : Int) (bl : List Nat) : List Int := bl.map fun b : Nat => airOf ri (30 + (b : Int) % 2305)
def exP (pr po : Nat) (ri : Int) : Exch := ⟨pr % 3, po % 3, airOf (respOf ri) 20, airOf (respOf ri) 14, airOf (respOf ri) 14, airOf (respOf ri) 20, airOf (respOf ri) 30⟩
def dlP (ri : Int) (bl : List Nat) : List Int := if (bl.take 16).length = 0 then [airOf (respOf ri) 14] else airsP ri (bl.take 16)
theorem airOf_small (i b : Int) (h0 : 0 ≤ i) (h1 : i < 12) (b0 : 0 ≤ b) (b1 : b ≤ 2400) : 24 ≤ airOf i b ∧ airOf i b ≤ 3400 := by
  have hlo := (airOf_bd i b h0 h1 b0 (by omega)).1
  refine ⟨hlo, ?_⟩
  unfold airOf
  obtain ⟨r0, r1⟩ := rBits_bd i h0 h1
  generalize rBits i = r at *
  have h3 : (8 * b + 22 + r - 1) / r ≤ (8 * b + 22 + r - 1) / 24 := by
    rw [Int.le_ediv_iff_mul_le (by omega)]
    have h4 := Int.ediv_mul_le (8 * b + 22 + r - 1) (show r ≠ 0 by omega)
    have h2 : 0 ≤ (8 * b + 22 + r - 1) / r := Int.ediv_nonneg (by omega) (by omega)
    have h5 : (8 * b + 22 + r - 1) / r * 24 ≤ (8 * b + 22 + r - 1) / r * r := Int.mul_le_mul_of_nonneg_left r0 h2
    omega
  omega
theorem resp_rng (ri : Int) : 0 ≤ respOf ri ∧ respOf ri < 12 := by have := resp_bd ri; omega
theorem ans_bd (ri b : Int) (b0 : 0 ≤ b) (b1 : b ≤ 2400) : 1 ≤ airOf (respOf ri) b ∧ airOf (respOf ri) b ≤ 32767 := by
  obtain ⟨h0, h1⟩ := resp_rng ri
  have := airOf_small _ b h0 h1 b0 b1
  omega
theorem exP_ok (pr po : Nat) (ri : Int) : (exP pr po ri).Ok :=
  ⟨by show pr % 3 ≤ 2; omega, by show po % 3 ≤ 2; omega, ans_bd ri 20 (by omega) (by omega), ans_bd ri 14 (by omega) (by omega), ans_bd ri 14 (by omega) (by omega), ans_bd ri 20 (by omega) (by omega), ans_bd ri 30 (by omega) (by omega)⟩
theorem airs_bd (ri : Int) (h0 : 0 ≤ ri) (h1 : ri < 12) (bl : List Nat) : ∀ a ∈ airsP ri bl, 1 ≤ a ∧ a ≤ 32767 := by
  intro a ha
  obtain ⟨b, _, rfl⟩ := List.mem_map.1 ha
  have := airOf_small ri (30 + (b : Int) % 2305) h0 h1 (by omega) (by omega)
  omega
theorem dl_bd (ri : Int) (h0 : 0 ≤ ri) (h1 : ri < 12) (bl : List Nat) : ∀ a ∈ dlP ri bl, 1 ≤ a ∧ a ≤ 32767 := by
  unfold dlP
  split
  · intro a ha
    simp only [List.mem_singleton] at ha
    subst ha
    exact ans_bd ri 14 (by omega) (by omega)
  · exact airs_bd ri h0 h1 _
theorem dl_len (ri : Int) (bl : List Nat) : 1 ≤ (dlP ri bl).length ∧ (dlP ri bl).length ≤ 16 := by
  unfold dlP airsP
  split
  · simp
  · simp only [List.length_map, List.length_take] at *
    omega
theorem airs_snoc (ri : Int) (bl : List Nat) (k : Nat) (h : k < bl.length) : is (airsP ri (bl.take (k + 1))) = is (airsP ri (bl.take k)) ++ [.int .i64 (airOf ri (30 + (bl[k] : Int) % 2305))] := by
  unfold airsP
  rw [List.take_succ_eq_append_getElem h, List.map_append, is_append]
  rfl
/-- the state of the third station's allocation ahead of part k -/
def navI (T0 : Int) (k : Nat) (u l : Int) : Prop := (u = 0 ∧ l = 0) ∨ (k ≠ 0 ∧ u = T0 ∧ 0 ≤ l ∧ l ≤ 2199023255552)
theorem navI_ok {T0 : Int} {k : Nat} {u l : Int} (h : navI T0 k u l) (ht : 0 ≤ T0 ∧ T0 ≤ 2199023255552) : navOk u l := by
  rcases h with ⟨rfl, rfl⟩ | ⟨_, rfl, h1, h2⟩
  · exact ⟨by omega, by omega⟩
  · exact ⟨ht, h1, h2⟩
theorem navI_next {T0 : Int} {k : Nat} {u l : Int} (h : navI T0 k u l) : navI T0 (k + 1) u l := by
  rcases h with h | ⟨_, h2⟩
  · exact .inl h
  · exact .inr ⟨by omega, h2⟩
theorem hear_law {T0 : Int} {k : Nat} {u l e d ans : Int} (rts : Bool) (h : navI T0 k u l) (hr : rts = true → k = 0) (hs : e + d = T0) (he : 1 ≤ e) (hd : 0 ≤ d) (ha : 0 ≤ ans) :
    hearU u l e d = T0 ∧ hearL rts u l e d ans = (if rts = true then e + 32 + ans + 18 else 0) := by
  rcases h with ⟨rfl, rfl⟩ | ⟨hk, rfl, h1, h2⟩
  · have e0 : (if e > untilP 0 0 then 0 else 0 : Int) = 0 := by split <;> rfl
    unfold hearU hearL
    rw [e0, if_pos (by omega), if_pos (by omega)]
    refine ⟨hs, ?_⟩
    cases rts
    · simp
    · rw [if_pos rfl, if_pos rfl, if_pos (by omega)]
  · have hrf : rts = false := by
      cases rts
      · rfl
      · exact absurd (hr rfl) hk
    subst hrf
    unfold hearU hearL
    constructor
    · split <;> split at * <;> omega
    · simp
theorem until0 (T0 : Int) : untilP T0 0 = T0 := by simp [untilP]
theorem untilMin (T0 l : Int) (hl : 0 < l) : (if l < T0 then l else T0) = untilP T0 l := by
  unfold untilP
  rw [if_pos hl]
  split <;> split <;> omega
def heardP (hl : List Bool) (k : Nat) : Bool := decide (k < hl.length) && !(hl.getD k true)

theorem station_c  :
    Does Tryd.prog 13 [] [] (fun _ => True) (X := Unit) (fun _ => True) (fun _ => .agg #[.int .u8 2, .int .u8 0, .int .u8 0, .int .u8 0, .int .u8 0, .int .u8 2]) (fun _ => []) := by
  refine Does.enter Tryd.func13 rfl (m := 2) rfl (by simp) ?_
  intro W0 hro
  refine VC.seq ?_
  refine VC.region ?_
  refine VL.eff (O.alloc zo43 (by decide) ?_)
  intro g0
  refine VL.nil ?_
  refine VE.seq ?_
  refine VC.seq ?_
  refine VC.region ?_
  refine VL.q (Q.build lay43 zF) ?_
  refine VL.eff (O.store ty43 rfl rfl rfl rfl zU zP ?_)
  refine VL.nil ?_
  refine VE.seq ?_
  refine VC.ret ?_
  refine VE.ret rfl (.cell ty43 rfl zM rfl .nil) () ?_ ?_ (List.nil_sublist _)
  · trivial
  · first | rfl | (exfalso; simp at *; omega)

theorem point_c  :
    Does Tryd.prog 14 [] [] (fun _ => True) (X := Unit) (fun _ => True) (fun _ => .agg #[.int .u8 2, .int .u8 0, .int .u8 0, .int .u8 0, .int .u8 0, .int .u8 1]) (fun _ => []) := by
  refine Does.enter Tryd.func14 rfl (m := 2) rfl (by simp) ?_
  intro W0 hro
  refine VC.seq ?_
  refine VC.region ?_
  refine VL.eff (O.alloc zo43 (by decide) ?_)
  intro g0
  refine VL.nil ?_
  refine VE.seq ?_
  refine VC.seq ?_
  refine VC.region ?_
  refine VL.q (Q.build lay43 zF) ?_
  refine VL.eff (O.store ty43 rfl rfl rfl rfl zU zP ?_)
  refine VL.nil ?_
  refine VE.seq ?_
  refine VC.ret ?_
  refine VE.ret rfl (.cell ty43 rfl zM rfl .nil) () ?_ ?_ (List.nil_sublist _)
  · trivial
  · first | rfl | (exfalso; simp at *; omega)

theorem round_1 (W0 : World) (hsub : Subs W0) (hsl : Rd W0 (some ⟨1, 0, none⟩) [.int .i64 7, .int .i64 3, .int .i64 2, .int .i64 2]) (hl : List Bool) (p2 : Option Addr) (c2 : Nat) (hrh : Rd W0 p2 (bls hl)) (x0 x1 x2 x3 x4 x5 v15 : Value) (R : Rs) (st : Nat) (T A : Int) (k : Nat) (u l : Int) (pi : Nat) (ps pa : Int) (D : Nat) (g1 g17 g19 g21 : Nat) (hst : st ≤ 4294967295) (hps : 0 ≤ ps) (hpa : 1 ≤ pa) (hsum : ps + pa + D = T) (hD : D ≤ 32767) (hT : T ≤ 2000000) (hA : 1 ≤ A ∧ A ≤ 32767) (hnv : navI ((st : Int) + T) k u l) (hk0 : k = 0) (QQ : Exit → Act → World → Prop) (hS : Still QQ) (hn : VK W0 (List.flatMap Rs.ids []) 347 (fun a W => QQ .normal a W) [(1, .pointer (some ⟨g1, 0, none⟩)), (7, .int .i64 A), (15, v15), (16, .int .i64 (st : Int)), (17, .pointer (some ⟨g17, 0, none⟩)), (18, .int .i64 ((st : Int) + T)), (19, .pointer (some ⟨g19, 0, none⟩)), (20, .int .i64 (k : Int))] [.blk g19 [.int .i64 ((st : Int) + T), .int .i64 ((st : Int) + ps + pa + 32 + A + 18)] 46, .blk g17 [.int .u8 2, .int .u8 0, .int .u8 0, .int .u8 0, .int .u8 0, .int .u8 3] 43, R, .blk g1 [x0, x1, x2, x3, x4, x5, .slice p2 hl.length c2] 27]) (hc : VK W0 (List.flatMap Rs.ids []) 347 (fun a W => QQ (.exit 3) a W) [(1, .pointer (some ⟨g1, 0, none⟩)), (7, .int .i64 A), (15, v15), (16, .int .i64 (st : Int)), (17, .pointer (some ⟨g17, 0, none⟩)), (18, .int .i64 ((st : Int) + T)), (19, .pointer (some ⟨g19, 0, none⟩)), (20, .int .i64 (k : Int))] [.blk g19 [.int .i64 u, .int .i64 l] 46, .blk g17 [.int .u8 2, .int .u8 0, .int .u8 0, .int .u8 0, .int .u8 0, .int .u8 3] 43, R, .blk g1 [x0, x1, x2, x3, x4, x5, .slice p2 hl.length c2] 27]) :
    VK W0 (List.flatMap Rs.ids []) 347 ((bodyAt Tryd.f4 [1, 1, 1, 1, 1, 1, 1, 1, 1, 1, 1, 1, 1, 1, 0, 1, 0, 0, 1, 0, 0, 1]).wp Tryd.prog QQ) [(1, .pointer (some ⟨g1, 0, none⟩)), (7, .int .i64 A), (15, v15), (16, .int .i64 (st : Int)), (17, .pointer (some ⟨g17, 0, none⟩)), (18, .int .i64 ((st : Int) + T)), (19, .pointer (some ⟨g19, 0, none⟩)), (20, .int .i64 (k : Int)), (21, .pointer (some ⟨g21, 0, none⟩))] [.blk g21 [.int .u8 1, .bool false, .int .i64 (pi : Int), .int .i64 ps, .int .i64 pa, .int .i64 (D : Int)] 48, .blk g19 [.int .i64 u, .int .i64 l] 46, .blk g17 [.int .u8 2, .int .u8 0, .int .u8 0, .int .u8 0, .int .u8 0, .int .u8 3] 43, R, .blk g1 [x0, x1, x2, x3, x4, x5, .slice p2 hl.length c2] 27] := by
  have hnx := hear_law (ans := A) true hnv ((fun _ => hk0)) (show ((st : Int) + ps + pa) + (D : Int) = ((st : Int) + T) by omega) (by omega) (by omega) (by omega)
  obtain ⟨hnU, hnL⟩ := hnx
  rw [if_pos rfl] at hnL
  obtain ⟨wn, hwn⟩ : ∃ z, untilP ((st : Int) + T) ((st : Int) + ps + pa + 32 + A + 18) = z := ⟨_, rfl⟩
  have hmin := untilMin ((st : Int) + T) ((st : Int) + ps + pa + 32 + A + 18) (by omega)
  rw [hwn] at hmin
  have hw1 : 1 ≤ wn ∧ wn ≤ ((st : Int) + T) ∧ (st : Int) + ps + pa ≤ wn := by rw [← hmin]; split <;> omega
  refine VC.seqJ (X := Nat) (fun z => [(1, .pointer (some ⟨g1, 0, none⟩)), (7, .int .i64 A), (15, v15), (16, .int .i64 (st : Int)), (17, .pointer (some ⟨g17, 0, none⟩)), (18, .int .i64 ((st : Int) + T)), (19, .pointer (some ⟨g19, 0, none⟩)), (20, .int .i64 (k : Int)), (21, .pointer (some ⟨g21, 0, none⟩)), (22, .pointer (some ⟨z, 0, none⟩)), (23, .int .i64 0)]) (fun z => [.blk z [.int .u8 1, .int .u8 11, .bool false, .bool false, .bool false, .bool false, .bool false, .bool false, .bool false, .int .i64 (D : Int), .int .u8 2, .int .u8 0, .int .u8 0, .int .u8 0, .int .u8 0, .int .u8 1, .int .u8 2, .int .u8 0, .int .u8 0, .int .u8 0, .int .u8 0, .int .u8 2, .int .u8 0, .int .u8 0, .int .u8 0, .int .u8 0, .int .u8 0, .int .u8 0, .int .u8 0, .int .u8 0, .int .u8 0, .int .u8 0, .int .u8 0, .int .u8 0, .int .i64 0, .int .i64 0, .int .i64 0, .int .u8 0, .bool false, .bool false] 50, .blk g21 [.int .u8 1, .bool false, .int .i64 (pi : Int), .int .i64 ps, .int .i64 pa, .int .i64 (D : Int)] 48, .blk g19 [.int .i64 u, .int .i64 l] 46, .blk g17 [.int .u8 2, .int .u8 0, .int .u8 0, .int .u8 0, .int .u8 0, .int .u8 3] 43, R, .blk g1 [x0, x1, x2, x3, x4, x5, .slice p2 hl.length c2] 27]) (fun z => True) ?_ ?_
  · skip
    refine VA.start (Ls := [.blk g21 [.int .u8 1, .bool false, .int .i64 (pi : Int), .int .i64 ps, .int .i64 pa, .int .i64 (D : Int)] 48]) (Cs := []) mixed ?_
    refine VA.take 0 rfl (by kernel_rfl) (by kernel_rfl) (by kernel_rfl) (Still.then hS) (List.singleton_sublist.2 zM) Cells.nil (by decide) (Quiet.c (Q.loadA ty48 rfl zM zS)) ?_
    refine VA.all (rs := [1, 7]) (by kernel_rfl) (by simp) ?_
    refine VA.forall2 ?_ ?_
    · skip
      refine VA.eff rfl ?_
      refine id (O.call0 ok13 rfl rfl (by decide) (station_c) (fun _ _ _ => trivial) ?_)
      intro x155 y155
      refine VA.next (List.singleton_sublist.2 zM) Cells.nil ?_
      refine VA.all (rs := [2, 7]) (by kernel_rfl) (by simp) ?_
      refine VA.forall2 ?_ ?_
      · skip
        refine VA.eff rfl ?_
        refine id (O.call0 ok14 rfl rfl (by decide) (point_c) (fun _ _ _ => trivial) ?_)
        intro x156 y156
        refine VA.next (List.singleton_sublist.2 zM) Cells.nil ?_
        refine VA.all (rs := [3, 7]) (by kernel_rfl) (by simp) ?_
        refine VA.forall2 ?_ ?_
        · skip
          refine VA.eff rfl ?_
          refine id (O.call0 ok12 rfl rfl (by decide) (xheader_1 pi ps pa D hD) (fun _ ho _ => hsub.only ho) ?_)
          intro x157 y157
          refine VA.next (List.singleton_sublist.2 zM) Cells.nil ?_
          refine VA.take 4 rfl (by kernel_rfl) (by kernel_rfl) (by kernel_rfl) (Still.then hS) (List.singleton_sublist.2 zM) Cells.nil (by decide) (Quiet.c (Q.move rfl)) ?_
          refine VA.take 5 rfl (by kernel_rfl) (by kernel_rfl) (by kernel_rfl) (Still.then hS) (List.singleton_sublist.2 zM) Cells.nil (by decide) (Quiet.c (Q.extract rfl rfl)) ?_
          refine VA.take 6 rfl (by kernel_rfl) (by kernel_rfl) (by kernel_rfl) (Still.then hS) (List.singleton_sublist.2 zM) Cells.nil (by decide) (Quiet.c (Q.extract rfl rfl)) ?_
          refine VA.all (rs := [7]) (by kernel_rfl) (by simp) ?_
          refine VA.forall1 ?_
          · skip
            refine VA.eff rfl ?_
            refine id (O.alloc zo50 (by decide) ?_)
            intro g22
            refine VA.next (List.singleton_sublist.2 zM) Cells.nil ?_
            refine VA.all (rs := [8]) (by kernel_rfl) (by simp) ?_
            refine VA.forall1 ?_
            · skip
              refine VA.eff rfl ?_
              refine id (O.store ty50 rfl rfl rfl rfl zU zP ?_)
              refine VA.next (List.singleton_sublist.2 zM) Cells.nil ?_
              refine VA.take 9 rfl (by kernel_rfl) (by kernel_rfl) (by kernel_rfl) (Still.then hS) (List.singleton_sublist.2 zM) Cells.nil (by decide) (Quiet.c (Q.assign rfl)) ?_
              refine VA.done (by kernel_rfl) ?_
              refine VE.then_normal ?_
              exact VE.meetP g22 trivial zE zKs
        · skip
          refine VA.eff rfl ?_
          refine id (O.alloc zo50 (by decide) ?_)
          intro g22_1
          refine VA.next (List.singleton_sublist.2 zM) Cells.nil ?_
          refine VA.all (rs := [3]) (by kernel_rfl) (by simp) ?_
          refine VA.forall1 ?_
          · skip
            refine VA.eff rfl ?_
            refine id (O.call0 ok12 rfl rfl (by decide) (xheader_1 pi ps pa D hD) (fun _ ho _ => hsub.only ho) ?_)
            intro x157_1 y157_1
            refine VA.next (List.singleton_sublist.2 zM) Cells.nil ?_
            refine VA.take 4 rfl (by kernel_rfl) (by kernel_rfl) (by kernel_rfl) (Still.then hS) (List.singleton_sublist.2 zM) Cells.nil (by decide) (Quiet.c (Q.move rfl)) ?_
            refine VA.take 5 rfl (by kernel_rfl) (by kernel_rfl) (by kernel_rfl) (Still.then hS) (List.singleton_sublist.2 zM) Cells.nil (by decide) (Quiet.c (Q.extract rfl rfl)) ?_
            refine VA.take 6 rfl (by kernel_rfl) (by kernel_rfl) (by kernel_rfl) (Still.then hS) (List.singleton_sublist.2 zM) Cells.nil (by decide) (Quiet.c (Q.extract rfl rfl)) ?_
            refine VA.all (rs := [8]) (by kernel_rfl) (by simp) ?_
            refine VA.forall1 ?_
            · skip
              refine VA.eff rfl ?_
              refine id (O.store ty50 rfl rfl rfl rfl zU zP ?_)
              refine VA.next (List.singleton_sublist.2 zM) Cells.nil ?_
              refine VA.take 9 rfl (by kernel_rfl) (by kernel_rfl) (by kernel_rfl) (Still.then hS) (List.singleton_sublist.2 zM) Cells.nil (by decide) (Quiet.c (Q.assign rfl)) ?_
              refine VA.done (by kernel_rfl) ?_
              refine VE.then_normal ?_
              exact VE.meetP g22_1 trivial zE zKs
      · skip
        refine VA.eff rfl ?_
        refine id (O.alloc zo50 (by decide) ?_)
        intro g22_2
        refine VA.next (List.singleton_sublist.2 zM) Cells.nil ?_
        refine VA.all (rs := [2]) (by kernel_rfl) (by simp) ?_
        refine VA.forall1 ?_
        · skip
          refine VA.eff rfl ?_
          refine id (O.call0 ok14 rfl rfl (by decide) (point_c) (fun _ _ _ => trivial) ?_)
          intro x156_1 y156_1
          refine VA.next (List.singleton_sublist.2 zM) Cells.nil ?_
          refine VA.all (rs := [3]) (by kernel_rfl) (by simp) ?_
          refine VA.forall1 ?_
          · skip
            refine VA.eff rfl ?_
            refine id (O.call0 ok12 rfl rfl (by decide) (xheader_1 pi ps pa D hD) (fun _ ho _ => hsub.only ho) ?_)
            intro x157_2 y157_2
            refine VA.next (List.singleton_sublist.2 zM) Cells.nil ?_
            refine VA.take 4 rfl (by kernel_rfl) (by kernel_rfl) (by kernel_rfl) (Still.then hS) (List.singleton_sublist.2 zM) Cells.nil (by decide) (Quiet.c (Q.move rfl)) ?_
            refine VA.take 5 rfl (by kernel_rfl) (by kernel_rfl) (by kernel_rfl) (Still.then hS) (List.singleton_sublist.2 zM) Cells.nil (by decide) (Quiet.c (Q.extract rfl rfl)) ?_
            refine VA.take 6 rfl (by kernel_rfl) (by kernel_rfl) (by kernel_rfl) (Still.then hS) (List.singleton_sublist.2 zM) Cells.nil (by decide) (Quiet.c (Q.extract rfl rfl)) ?_
            refine VA.all (rs := [8]) (by kernel_rfl) (by simp) ?_
            refine VA.forall1 ?_
            · skip
              refine VA.eff rfl ?_
              refine id (O.store ty50 rfl rfl rfl rfl zU zP ?_)
              refine VA.next (List.singleton_sublist.2 zM) Cells.nil ?_
              refine VA.take 9 rfl (by kernel_rfl) (by kernel_rfl) (by kernel_rfl) (Still.then hS) (List.singleton_sublist.2 zM) Cells.nil (by decide) (Quiet.c (Q.assign rfl)) ?_
              refine VA.done (by kernel_rfl) ?_
              refine VE.then_normal ?_
              exact VE.meetP g22_2 trivial zE zKs
    · skip
      refine VA.eff rfl ?_
      refine id (O.alloc zo50 (by decide) ?_)
      intro g22_3
      refine VA.next (List.singleton_sublist.2 zM) Cells.nil ?_
      refine VA.all (rs := [1]) (by kernel_rfl) (by simp) ?_
      refine VA.forall1 ?_
      · skip
        refine VA.eff rfl ?_
        refine id (O.call0 ok13 rfl rfl (by decide) (station_c) (fun _ _ _ => trivial) ?_)
        intro x155_1 y155_1
        refine VA.next (List.singleton_sublist.2 zM) Cells.nil ?_
        refine VA.all (rs := [2]) (by kernel_rfl) (by simp) ?_
        refine VA.forall1 ?_
        · skip
          refine VA.eff rfl ?_
          refine id (O.call0 ok14 rfl rfl (by decide) (point_c) (fun _ _ _ => trivial) ?_)
          intro x156_2 y156_2
          refine VA.next (List.singleton_sublist.2 zM) Cells.nil ?_
          refine VA.all (rs := [3]) (by kernel_rfl) (by simp) ?_
          refine VA.forall1 ?_
          · skip
            refine VA.eff rfl ?_
            refine id (O.call0 ok12 rfl rfl (by decide) (xheader_1 pi ps pa D hD) (fun _ ho _ => hsub.only ho) ?_)
            intro x157_3 y157_3
            refine VA.next (List.singleton_sublist.2 zM) Cells.nil ?_
            refine VA.take 4 rfl (by kernel_rfl) (by kernel_rfl) (by kernel_rfl) (Still.then hS) (List.singleton_sublist.2 zM) Cells.nil (by decide) (Quiet.c (Q.move rfl)) ?_
            refine VA.take 5 rfl (by kernel_rfl) (by kernel_rfl) (by kernel_rfl) (Still.then hS) (List.singleton_sublist.2 zM) Cells.nil (by decide) (Quiet.c (Q.extract rfl rfl)) ?_
            refine VA.take 6 rfl (by kernel_rfl) (by kernel_rfl) (by kernel_rfl) (Still.then hS) (List.singleton_sublist.2 zM) Cells.nil (by decide) (Quiet.c (Q.extract rfl rfl)) ?_
            refine VA.all (rs := [8]) (by kernel_rfl) (by simp) ?_
            refine VA.forall1 ?_
            · skip
              refine VA.eff rfl ?_
              refine id (O.store ty50 rfl rfl rfl rfl zU zP ?_)
              refine VA.next (List.singleton_sublist.2 zM) Cells.nil ?_
              refine VA.take 9 rfl (by kernel_rfl) (by kernel_rfl) (by kernel_rfl) (Still.then hS) (List.singleton_sublist.2 zM) Cells.nil (by decide) (Quiet.c (Q.assign rfl)) ?_
              refine VA.done (by kernel_rfl) ?_
              refine VE.then_normal ?_
              exact VE.meetP g22_3 trivial zE zKs
  · intro gz _
    refine VC.seq ?_
    refine VC.region ?_
    refine VL.q (Q.loadA ty50 rfl zM zS) ?_
    refine VL.q (Q.build lay58 zF) ?_
    refine VL.eff (O.call0 ok15 rfl rfl (by decide) (encode_rts D hD) (fun _ _ _ => trivial) ?_)
    intro x163 y163
    refine VL.q (Q.move rfl) ?_
    refine VL.q (Q.extract rfl rfl) ?_
    refine VL.q (Q.extract rfl rfl) ?_
    refine VL.q (Q.assign rfl) ?_
    refine VL.q (Q.assign rfl) ?_
    refine VL.nil ?_
    refine VE.seq ?_
    refine VC.seq ?_
    refine VC.region ?_
    refine VL.q (Q.move rfl) ?_
    refine VL.eff (O.call0 ok16 rfl rfl (by decide) (decode_rts D hD _ _ (by omega)) (fun _ _ hw => Rd.row hw zM) ?_)
    intro x168 y168
    refine VL.q (Q.move rfl) ?_
    refine VL.q (Q.extract rfl rfl) ?_
    refine VL.q (Q.extract rfl rfl) ?_
    refine VL.eff (O.alloc zo58 (by decide) ?_)
    intro g26
    refine VL.eff (O.store ty58 rfl rfl rfl rfl zU zP ?_)
    refine VL.q (Q.assign rfl) ?_
    refine VL.nil ?_
    refine VE.seq ?_
    refine VC.seq ?_
    refine VC.region ?_
    refine VL.q (Q.move rfl) ?_
    refine VL.q (Q.fieldAddr fa48_3 rfl) ?_
    refine VL.q (Q.load1 ty3 rfl zM rfl) ?_
    refine VL.q ((by first | exact Q.addI rfl rfl (by omega) (by omega) | exact Q.add rfl rfl)) ?_
    refine VL.q (Q.fieldAddr fa48_4 rfl) ?_
    refine VL.q (Q.load1 ty3 rfl zM rfl) ?_
    refine VL.q ((by first | exact Q.addI rfl rfl (by omega) (by omega) | exact Q.add rfl rfl)) ?_
    refine VL.q (Q.assign rfl) ?_
    refine VL.nil ?_
    refine VE.seq ?_
    refine VC.seq ?_
    refine VC.seq ?_
    refine VC.region ?_
    refine VL.q (Q.move rfl) ?_
    refine VL.quietE (v' := .bool false) (by decide) (Q.ne rfl rfl) (by rfl) ?_
    refine VL.q (Q.move rfl) ?_
    refine VL.yes rfl rfl ?_
    refine VL.q (Q.move rfl) ?_
    refine VL.yes rfl rfl ?_
    refine VL.quietE (v' := .bool false) (by decide) (Q.ne rfl rfl) (by rfl) ?_
    refine VL.quietE (v' := .bool false) (by decide) (Q.pick_false rfl rfl) (by rfl) ?_
    refine VL.q (Q.move rfl) ?_
    refine VL.yes rfl rfl ?_
    refine VL.q (Q.move rfl) ?_
    refine VL.yes rfl rfl ?_
    refine VL.quietE (v' := .bool false) (by decide) (Q.ne rfl rfl) (by rfl) ?_
    refine VL.quietE (v' := .bool false) (by decide) (Q.pick_false rfl rfl) (by rfl) ?_
    refine VL.q (Q.move rfl) ?_
    refine VL.yes rfl rfl ?_
    refine VL.q (Q.fieldAddr fa58_0 rfl) ?_
    refine VL.yes rfl rfl ?_
    refine VL.q (Q.loadA ty50 rfl zM zS) ?_
    refine VL.yes rfl rfl ?_
    refine VL.q (Q.loadA ty50 rfl zM zS) ?_
    refine VL.yes rfl rfl ?_
    refine VL.quietE (v' := .bool false) (by decide) (Q.neS flt50 (by decide) ty50 eg50 rfl rfl rfl rfl) (by simp [vsEq, vEq]) ?_
    refine VL.quietE (v' := .bool false) (by decide) (Q.pick_false rfl rfl) (by rfl) ?_
    refine VL.q (Q.move rfl) ?_
    refine VL.yes rfl rfl ?_
    refine VL.q (Q.fieldAddr fa58_1 rfl) ?_
    refine VL.yes rfl rfl ?_
    refine VL.q (Q.load1 ty54 rfl zM rfl) ?_
    refine VL.yes rfl rfl ?_
    refine VL.q (Q.len sl54 rfl) ?_
    refine VL.yes rfl rfl ?_
    refine VL.quietE (v' := .bool false) (by decide) (Q.gt rfl rfl) (by rfl) ?_
    refine VL.quietE (v' := .bool false) (by decide) (Q.pick_false rfl rfl) (by rfl) ?_
    refine VL.q (Q.move rfl) ?_
    refine VL.yes rfl rfl ?_
    refine VL.q (Q.move rfl) ?_
    refine VL.yes rfl rfl ?_
    refine VL.q (Q.fieldAddr fa50_9 rfl) ?_
    refine VL.yes rfl rfl ?_
    refine VL.q (Q.load1 ty3 rfl zM rfl) ?_
    refine VL.yes rfl rfl ?_
    refine VL.q ((by first | exact Q.addI rfl rfl (by omega) (by omega) | exact Q.add rfl rfl)) ?_
    refine VL.yes rfl rfl ?_
    refine VL.q (Q.move rfl) ?_
    refine VL.yes rfl rfl ?_
    refine VL.quietE (v' := .bool false) (by decide) (Q.ne rfl rfl) (neF (by omega)) ?_
    refine VL.quietE (v' := .bool false) (by decide) (Q.pick_false rfl rfl) (by rfl) ?_
    refine VL.nil ?_
    refine VE.seq ?_
    refine VC.condF rfl ?_
    refine VC.skip ?_
    refine VE.seq ?_
    refine VC.seq ?_
    refine VK.keep (by exact .cons (i := 1) rfl (.cons (i := 7) rfl (.cons (i := 15) rfl (.cons (i := 16) rfl (.cons (i := 17) rfl (.cons (i := 18) rfl (.cons (i := 19) rfl (.cons (i := 20) rfl (.cons (i := 21) rfl (.cons (i := 22) rfl (.cons (i := 23) rfl (.cons (i := 25) rfl (.cons (i := 26) rfl (.cons (i := 28) rfl ( .nil))))))))))))))) ?_
    refine VC.region ?_
    refine VL.q (Q.build lay46 zF) ?_
    refine VL.q (Q.fieldAddr fa50_10 rfl) ?_
    refine VL.q (Q.loadA ty43 rfl zM zS) ?_
    refine VL.q (Q.fieldAddr fa58_0 rfl) ?_
    refine VL.q (Q.loadA ty50 rfl zM zS) ?_
    refine VL.q (Q.move rfl) ?_
    refine VL.q (Q.move rfl) ?_
    refine VL.eff (O.call0 ok17 rfl rfl (by decide) (own_rts D hD ((st : Int) + ps + pa) (A) (by omega) (by omega)) (fun _ _ _ => trivial) ?_)
    intro x216 y216
    refine VL.q (Q.move rfl) ?_
    refine VL.q (Q.extract rfl rfl) ?_
    refine VL.q (Q.extract rfl rfl) ?_
    refine VL.eff (O.alloc zo46 (by decide) ?_)
    intro g29
    refine VL.eff (O.store ty46 rfl rfl rfl rfl zU zP ?_)
    refine VL.q (Q.assign rfl) ?_
    refine VL.nil ?_
    refine VE.seq ?_
    refine VC.seq ?_
    refine VC.seq ?_
    refine VC.region ?_
    refine VL.q (Q.move rfl) ?_
    refine VL.quietE (v' := .bool false) (by decide) (Q.ne rfl rfl) (by rfl) ?_
    refine VL.q (Q.move rfl) ?_
    refine VL.yes rfl rfl ?_
    refine VL.q (Q.loadA ty46 rfl zM zS) ?_
    refine VL.yes rfl rfl ?_
    refine VL.q (Q.build lay46 zF) ?_
    refine VL.yes rfl rfl ?_
    refine VL.quietE (v' := .bool false) (by decide) (Q.neS flt46 (by decide) ty46 eg46 rfl rfl rfl rfl) (by rfl) ?_
    refine VL.quietE (v' := .bool false) (by decide) (Q.pick_false rfl rfl) (by rfl) ?_
    refine VL.nil ?_
    refine VE.seq ?_
    refine VC.condF rfl ?_
    refine VC.skip ?_
    refine VE.seq ?_
    refine VC.seq ?_
    refine VC.seqJ (X := Unit) (fun _z => [(238, .bool (heardP hl k)), (1, .pointer (some ⟨g1, 0, none⟩)), (7, .int .i64 A), (15, v15), (16, .int .i64 (st : Int)), (17, .pointer (some ⟨g17, 0, none⟩)), (18, .int .i64 ((st : Int) + T)), (19, .pointer (some ⟨g19, 0, none⟩)), (20, .int .i64 (k : Int)), (21, .pointer (some ⟨g21, 0, none⟩)), (26, .pointer (some ⟨g26, 0, none⟩)), (28, .int .i64 ((st : Int) + ps + pa))]) (fun _z => [.blk g26 [.int .u8 1, .int .u8 11, .bool false, .bool false, .bool false, .bool false, .bool false, .bool false, .bool false, .int .i64 (D : Int), .int .u8 2, .int .u8 0, .int .u8 0, .int .u8 0, .int .u8 0, .int .u8 1, .int .u8 2, .int .u8 0, .int .u8 0, .int .u8 0, .int .u8 0, .int .u8 2, .int .u8 0, .int .u8 0, .int .u8 0, .int .u8 0, .int .u8 0, .int .u8 0, .int .u8 0, .int .u8 0, .int .u8 0, .int .u8 0, .int .u8 0, .int .u8 0, .int .i64 0, .int .i64 0, .int .i64 0, .int .u8 0, .bool false, .bool false, .slice (some ⟨x168, 0, none⟩) 0 0] 58, .blk g21 [.int .u8 1, .bool false, .int .i64 (pi : Int), .int .i64 ps, .int .i64 pa, .int .i64 (D : Int)] 48, .blk g19 [.int .i64 u, .int .i64 l] 46, .blk g17 [.int .u8 2, .int .u8 0, .int .u8 0, .int .u8 0, .int .u8 0, .int .u8 3] 43, R, .blk g1 [x0, x1, x2, x3, x4, x5, .slice p2 hl.length c2] 27]) (fun _z => True) ?_ ?_
    · skip
      refine VC.region ?_
      refine VL.q (Q.move rfl) ?_
      refine VL.q (Q.fieldAddr fa27_6 rfl) ?_
      refine VL.q (Q.load1 ty25 rfl zM rfl) ?_
      refine VL.q (Q.len sl25 rfl) ?_
      refine VL.q (Q.lt rfl rfl) ?_
      refine VL.q (Q.move rfl) ?_
      refine VK.case 231 rfl ?_ ?_
      · intro h231
        have hlk : k < hl.length := by have := of_decide_eq_true h231; omega
        obtain ⟨b1, o1, rfl, hc1⟩ := hrh k _ (bls_get hl k hlk)
        refine VL.yes rfl rfl ?_
        refine VL.q (Q.fieldAddr fa27_6 rfl) ?_
        refine VL.yes rfl rfl ?_
        refine VL.q (Q.load1 ty25 rfl zM rfl) ?_
        refine VL.yes rfl rfl ?_
        refine VL.q (Q.move rfl) ?_
        refine VL.yes rfl rfl ?_
        refine VL.q (Q.indexAddr sl25 (j := k) rfl rfl rfl hlk) ?_
        refine VL.yes rfl rfl ?_
        refine VL.q (Q.load0 ty4 rfl (by simpa using hc1) (by simp)) ?_
        refine VL.yes rfl rfl ?_
        refine VL.q (Q.not rfl) ?_
        refine VL.q (Q.pick_true rfl rfl) ?_
        refine VL.nil ?_
        refine VE.then_normal ?_
        exact VE.meetP () trivial (.cons (eBool (by simp [heardP, hlk])) zE) zKs
      · intro h231
        have hlk : ¬ k < hl.length := by have := of_decide_eq_false h231; omega
        refine VL.no (by simp) rfl rfl (.inl rfl) ?_
        refine VL.no (by simp) rfl rfl (.inl rfl) ?_
        refine VL.no (by simp) rfl rfl (.inl rfl) ?_
        refine VL.no (by simp) rfl rfl (.inl rfl) ?_
        refine VL.no (by simp) rfl rfl (.inl rfl) ?_
        refine VL.no (by simp) rfl rfl (.inl rfl) ?_
        refine VL.quietE (v' := .bool false) (by decide) (Q.pick_false rfl rfl) (by rfl) ?_
        refine VL.nil ?_
        refine VE.then_normal ?_
        exact VE.meetP () trivial (.cons (eBool (by simp [heardP, hlk])) zE) zKs
    · intro _ _
      refine VC.cond rfl ?_ ?_
      · intro h238
        refine VC.exit ?_
        refine VE.then_exit ?_
        exact VE.give zE zB hc
      · intro h238
        refine VC.skip ?_
        refine VE.seq ?_
        refine VC.seq ?_
        refine VC.region ?_
        refine VL.q (Q.loadA ty46 rfl zM zS) ?_
        refine VL.q (Q.loadA ty43 rfl zM zS) ?_
        refine VL.q (Q.fieldAddr fa58_0 rfl) ?_
        refine VL.q (Q.loadA ty50 rfl zM zS) ?_
        refine VL.q (Q.move rfl) ?_
        refine VL.q (Q.move rfl) ?_
        have hcall := heard_rts u l (navI_ok hnv (by omega)) D hD ((st : Int) + ps + pa) (A) (by omega) (by omega)
        rw [hnU, hnL] at hcall
        refine VL.eff (O.call0 ok17 rfl rfl (by decide) (hcall) (fun _ _ _ => trivial) ?_)
        intro x246 y246
        refine VL.q (Q.move rfl) ?_
        refine VL.q (Q.extract rfl rfl) ?_
        refine VL.q (Q.extract rfl rfl) ?_
        refine VL.eff (O.alloc zo46 (by decide) ?_)
        intro g30
        refine VL.eff (O.store ty46 rfl rfl rfl rfl zU zP ?_)
        refine VL.q (Q.assign rfl) ?_
        refine VL.nil ?_
        refine VE.seq ?_
        refine VC.seq ?_
        refine VC.region ?_
        refine VL.q (Q.loadA ty46 rfl zM zS) ?_
        have hno : navOk ((st : Int) + T) ((st : Int) + ps + pa + 32 + A + 18) := ⟨by omega, by omega⟩
        have hcall2 := until2_c ((st : Int) + T) ((st : Int) + ps + pa + 32 + A + 18) hno
        rw [hwn] at hcall2
        refine VL.eff (O.call0 ok18 rfl rfl (by decide) (hcall2) (fun _ _ _ => trivial) ?_)
        intro x251 y251
        refine VL.q (Q.move rfl) ?_
        refine VL.q (Q.extract rfl rfl) ?_
        refine VL.q (Q.extract rfl rfl) ?_
        refine VL.q (Q.assign rfl) ?_
        refine VL.q (Q.assign rfl) ?_
        refine VL.nil ?_
        refine VE.seq ?_
        refine VC.seq ?_
        refine VC.region ?_
        refine VL.q (Q.move rfl) ?_
        refine VL.q (Q.assign rfl) ?_
        refine VL.q (Q.assign rfl) ?_
        refine VL.nil ?_
        refine VE.seq ?_
        refine VC.seq ?_
        refine VC.seq ?_
        refine VC.region ?_
        refine VL.q (Q.fieldAddr fa48_0 rfl) ?_
        refine VL.q (Q.load1 ty5 rfl zM rfl) ?_
        refine VL.quietE (v' := .bool true) (by decide) (Q.eq rfl rfl) (by rfl) ?_
        refine VL.nil ?_
        refine VE.seq ?_
        refine VC.condT rfl ?_
        refine VC.seq ?_
        refine VC.region ?_
        refine VL.q (Q.move rfl) ?_
        refine VL.q ((by first | exact Q.addI rfl rfl (by omega) (by omega) | exact Q.add rfl rfl)) ?_
        refine VL.q (Q.move rfl) ?_
        refine VL.q ((by first | exact Q.addI rfl rfl (by omega) (by omega) | exact Q.add rfl rfl)) ?_
        refine VL.q ((by first | exact Q.addI rfl rfl (by omega) (by omega) | exact Q.add rfl rfl)) ?_
        refine VL.q (Q.assign rfl) ?_
        refine VL.nil ?_
        refine VE.seq ?_
        refine VC.region ?_
        refine VL.q (Q.move rfl) ?_
        refine VL.q (Q.move rfl) ?_
        refine VL.quietE (v' := .int .i64 wn) (by decide) (Q.min2 rfl rfl) (congrArg (Value.int .i64) hmin) ?_
        refine VL.q (Q.assign rfl) ?_
        refine VL.nil ?_
        refine VE.seq ?_
        refine VC.seq ?_
        refine VC.seq ?_
        refine VC.region ?_
        refine VL.q (Q.move rfl) ?_
        refine VL.quietE (v' := .bool false) (by decide) (Q.ne rfl rfl) (by rfl) ?_
        refine VL.q (Q.move rfl) ?_
        refine VL.yes rfl rfl ?_
        refine VL.q (Q.move rfl) ?_
        refine VL.yes rfl rfl ?_
        refine VL.quietE (v' := .bool false) (by decide) (Q.ne rfl rfl) (by rfl) ?_
        refine VL.quietE (v' := .bool false) (by decide) (Q.pick_false rfl rfl) (by rfl) ?_
        refine VL.q (Q.move rfl) ?_
        refine VL.yes rfl rfl ?_
        refine VL.q (Q.fieldAddr fa46_0 rfl) ?_
        refine VL.yes rfl rfl ?_
        refine VL.q (Q.load1 ty3 rfl zM rfl) ?_
        refine VL.yes rfl rfl ?_
        refine VL.q (Q.move rfl) ?_
        refine VL.yes rfl rfl ?_
        refine VL.quietE (v' := .bool false) (by decide) (Q.ne rfl rfl) (neF rfl) ?_
        refine VL.quietE (v' := .bool false) (by decide) (Q.pick_false rfl rfl) (by rfl) ?_
        refine VL.q (Q.move rfl) ?_
        refine VL.yes rfl rfl ?_
        refine VL.q (Q.fieldAddr fa46_1 rfl) ?_
        refine VL.yes rfl rfl ?_
        refine VL.q (Q.load1 ty3 rfl zM rfl) ?_
        refine VL.yes rfl rfl ?_
        refine VL.q (Q.move rfl) ?_
        refine VL.yes rfl rfl ?_
        refine VL.quietE (v' := .bool false) (by decide) (Q.ne rfl rfl) (neF rfl) ?_
        refine VL.quietE (v' := .bool false) (by decide) (Q.pick_false rfl rfl) (by rfl) ?_
        refine VL.q (Q.move rfl) ?_
        refine VL.yes rfl rfl ?_
        refine VL.q (Q.move rfl) ?_
        refine VL.yes rfl rfl ?_
        refine VL.q (Q.move rfl) ?_
        refine VL.yes rfl rfl ?_
        refine VL.quietE (v' := .bool false) (by decide) (Q.ne rfl rfl) (neF rfl) ?_
        refine VL.quietE (v' := .bool false) (by decide) (Q.pick_false rfl rfl) (by rfl) ?_
        refine VL.nil ?_
        refine VE.seq ?_
        refine VC.condF rfl ?_
        refine VC.skip ?_
        refine VE.seq ?_
        refine VC.seq ?_
        refine VK.keep (by exact .cons (i := 1) rfl (.cons (i := 7) rfl (.cons (i := 15) rfl (.cons (i := 16) rfl (.cons (i := 17) rfl (.cons (i := 18) rfl (.cons (i := 19) rfl (.cons (i := 20) rfl (.cons (i := 23) rfl (.cons (i := 25) rfl (.cons (i := 28) rfl (.cons (i := 30) rfl (.cons (i := 32) rfl ( .nil)))))))))))))) ?_
        refine VC.region ?_
        refine VL.q (Q.loadA ty46 rfl zM zS) ?_
        refine VL.q (Q.move rfl) ?_
        refine VL.q ((by first | exact Q.subI rfl rfl (by omega) (by omega) | exact Q.sub rfl rfl)) ?_
        have hcall3 := reserved_c ((st : Int) + T) ((st : Int) + ps + pa + 32 + A + 18) hno (wn - 1) (by omega)
        rw [hwn] at hcall3
        refine VL.eff (O.call0 ok19 rfl rfl (by decide) (hcall3) (fun _ _ _ => trivial) ?_)
        intro x293 y293
        refine VL.q (Q.move rfl) ?_
        refine VL.quietE (v' := .bool true) (by decide) (Q.extract rfl rfl) (congrArg Value.bool (decide_eq_true (by omega))) ?_
        refine VL.q (Q.extract rfl rfl) ?_
        refine VL.q (Q.assign rfl) ?_
        refine VL.q (Q.assign rfl) ?_
        refine VL.nil ?_
        refine VE.seq ?_
        refine VC.seq ?_
        refine VC.region ?_
        refine VL.q (Q.loadA ty46 rfl zM zS) ?_
        refine VL.q (Q.move rfl) ?_
        have hcall3 := reserved_c ((st : Int) + T) ((st : Int) + ps + pa + 32 + A + 18) hno (wn) (by omega)
        rw [hwn] at hcall3
        refine VL.eff (O.call0 ok19 rfl rfl (by decide) (hcall3) (fun _ _ _ => trivial) ?_)
        intro x299 y299
        refine VL.q (Q.move rfl) ?_
        refine VL.quietE (v' := .bool false) (by decide) (Q.extract rfl rfl) (congrArg Value.bool (decide_eq_false (by omega))) ?_
        refine VL.q (Q.extract rfl rfl) ?_
        refine VL.q (Q.assign rfl) ?_
        refine VL.q (Q.assign rfl) ?_
        refine VL.nil ?_
        refine VE.seq ?_
        refine VC.seq ?_
        refine VC.seq ?_
        refine VC.region ?_
        refine VL.q (Q.move rfl) ?_
        refine VL.quietE (v' := .bool false) (by decide) (Q.ne rfl rfl) (by rfl) ?_
        refine VL.q (Q.move rfl) ?_
        refine VL.yes rfl rfl ?_
        refine VL.q (Q.move rfl) ?_
        refine VL.yes rfl rfl ?_
        refine VL.quietE (v' := .bool false) (by decide) (Q.ne rfl rfl) (by rfl) ?_
        refine VL.quietE (v' := .bool false) (by decide) (Q.pick_false rfl rfl) (by rfl) ?_
        refine VL.q (Q.move rfl) ?_
        refine VL.yes rfl rfl ?_
        refine VL.q (Q.move rfl) ?_
        refine VL.yes rfl rfl ?_
        refine VL.quietE (v' := .bool false) (by decide) (Q.not rfl) (by rfl) ?_
        refine VL.quietE (v' := .bool false) (by decide) (Q.pick_false rfl rfl) (by rfl) ?_
        refine VL.q (Q.move rfl) ?_
        refine VL.yes rfl rfl ?_
        refine VL.q (Q.move rfl) ?_
        refine VL.quietE (v' := .bool false) (by decide) (Q.pick_false rfl rfl) (by rfl) ?_
        refine VL.nil ?_
        refine VE.seq ?_
        refine VC.condF rfl ?_
        refine VC.skip ?_
        refine VE.seq ?_
        refine VC.seq ?_
        refine VC.seq ?_
        refine VC.region ?_
        refine VL.q (Q.assign rfl) ?_
        refine VL.nil ?_
        refine VE.seq ?_
        refine VC.block ?_
        refine VC.rounds 40 ?_
        refine VC.rnd (m := 39) ?_
        refine VC.seq ?_
        refine VC.seq ?_
        refine VC.region ?_
        refine VL.q (Q.move rfl) ?_
        refine VL.quietE (v' := .bool true) (by decide) (Q.lt rfl rfl) (by rfl) ?_
        refine VL.nil ?_
        refine VE.seq ?_
        refine VC.condT rfl ?_
        refine VC.skip ?_
        refine VE.seq ?_
        refine VC.seq ?_
        refine VC.block ?_
        refine VC.seq ?_
        refine VC.region ?_
        refine VL.q (Q.move rfl) ?_
        refine VL.eff (O.call0 ok20 rfl rfl (by decide) (space_0) (fun _ ho _ => hsl.only0 ho) ?_)
        intro x321 y321
        refine VL.q (Q.move rfl) ?_
        refine VL.q (Q.extract rfl rfl) ?_
        refine VL.q (Q.extract rfl rfl) ?_
        refine VL.q (Q.assign rfl) ?_
        refine VL.q (Q.assign rfl) ?_
        refine VL.nil ?_
        refine VE.seq ?_
        refine VC.seq ?_
        refine VC.region ?_
        refine VL.q (Q.loadA ty46 rfl zM zS) ?_
        refine VL.q (Q.move rfl) ?_
        refine VL.q (Q.move rfl) ?_
        have hcall4 := earliest_0 ((st : Int) + T) ((st : Int) + ps + pa + 32 + A + 18) hno ((st : Int) + ps + pa) (by omega)
        rw [hwn] at hcall4
        refine VL.eff (O.call0 ok21 rfl rfl (by decide) (hcall4) (fun _ ho _ => hsl.only0 ho) ?_)
        intro x328 y328
        refine VL.q (Q.move rfl) ?_
        refine VL.q (Q.extract rfl rfl) ?_
        refine VL.q (Q.extract rfl rfl) ?_
        refine VL.q (Q.assign rfl) ?_
        refine VL.q (Q.assign rfl) ?_
        refine VL.nil ?_
        refine VE.seq ?_
        refine VC.seq ?_
        refine VK.keep (by exact .cons (i := 1) rfl (.cons (i := 7) rfl (.cons (i := 15) rfl (.cons (i := 16) rfl (.cons (i := 17) rfl (.cons (i := 18) rfl (.cons (i := 19) rfl (.cons (i := 20) rfl (.cons (i := 28) rfl (.cons (i := 30) rfl (.cons (i := 32) rfl (.cons (i := 36) rfl (.cons (i := 37) rfl (.cons (i := 38) rfl (.cons (i := 39) rfl (.cons (i := 40) rfl (.cons (i := 315) rfl (.cons (i := 316) rfl (.cons (i := 319) rfl (.cons (i := 320) rfl (.cons (i := 321) rfl (.cons (i := 322) rfl (.cons (i := 323) rfl (.cons (i := 324) rfl (.cons (i := 325) rfl (.cons (i := 326) rfl (.cons (i := 327) rfl (.cons (i := 328) rfl (.cons (i := 329) rfl (.cons (i := 330) rfl ( .nil))))))))))))))))))))))))))))))) ?_
        refine VC.region ?_
        refine VL.q (Q.move rfl) ?_
        refine VL.quietE (v' := .bool false) (by decide) (Q.ne rfl rfl) (by rfl) ?_
        refine VL.q (Q.move rfl) ?_
        refine VL.yes rfl rfl ?_
        refine VL.q (Q.move rfl) ?_
        refine VL.yes rfl rfl ?_
        refine VL.quietE (v' := .bool false) (by decide) (Q.ne rfl rfl) (by rfl) ?_
        refine VL.quietE (v' := .bool false) (by decide) (Q.pick_false rfl rfl) (by rfl) ?_
        refine VL.q (Q.move rfl) ?_
        refine VL.yes rfl rfl ?_
        refine VL.q (Q.move rfl) ?_
        refine VL.yes rfl rfl ?_
        refine VL.q (Q.move rfl) ?_
        refine VL.yes rfl rfl ?_
        refine VL.q (Q.move rfl) ?_
        refine VL.yes rfl rfl ?_
        refine VL.q ((by first | exact Q.addI rfl rfl (by omega) (by omega) | exact Q.add rfl rfl)) ?_
        refine VL.yes rfl rfl ?_
        refine VL.quietE (v' := .bool false) (by decide) (Q.ne rfl rfl) (neF (by split <;> omega)) ?_
        refine VL.quietE (v' := .bool false) (by decide) (Q.pick_false rfl rfl) (by rfl) ?_
        refine VL.nil ?_
        refine VE.seq ?_
        refine VC.condF rfl ?_
        refine VC.skip ?_
        refine VE.block_normal ?_
        refine VE.seq ?_
        refine VC.region ?_
        refine VL.q (Q.move rfl) ?_
        refine VL.quietE (v' := .int .u8 1) (by decide) ((by first | exact Q.addF rfl rfl (by simp only [klo]; omega) (by simp only [khi]; omega) | exact Q.addM (M := 256) rfl rfl rfl rfl)) (by rfl) ?_
        refine VL.q (Q.assign rfl) ?_
        refine VL.nil ?_
        refine VE.then_normal ?_
        refine VC.rnd (m := 38) ?_
        refine VC.seq ?_
        refine VC.seq ?_
        refine VC.region ?_
        refine VL.q (Q.move rfl) ?_
        refine VL.quietE (v' := .bool true) (by decide) (Q.lt rfl rfl) (by rfl) ?_
        refine VL.nil ?_
        refine VE.seq ?_
        refine VC.condT rfl ?_
        refine VC.skip ?_
        refine VE.seq ?_
        refine VC.seq ?_
        refine VC.block ?_
        refine VC.seq ?_
        refine VC.region ?_
        refine VL.q (Q.move rfl) ?_
        refine VL.eff (O.call0 ok20 rfl rfl (by decide) (space_1) (fun _ ho _ => hsl.only0 ho) ?_)
        intro x321_1 y321_1
        refine VL.q (Q.move rfl) ?_
        refine VL.q (Q.extract rfl rfl) ?_
        refine VL.q (Q.extract rfl rfl) ?_
        refine VL.q (Q.assign rfl) ?_
        refine VL.q (Q.assign rfl) ?_
        refine VL.nil ?_
        refine VE.seq ?_
        refine VC.seq ?_
        refine VC.region ?_
        refine VL.q (Q.loadA ty46 rfl zM zS) ?_
        refine VL.q (Q.move rfl) ?_
        refine VL.q (Q.move rfl) ?_
        have hcall4 := earliest_1 ((st : Int) + T) ((st : Int) + ps + pa + 32 + A + 18) hno ((st : Int) + ps + pa) (by omega)
        rw [hwn] at hcall4
        refine VL.eff (O.call0 ok21 rfl rfl (by decide) (hcall4) (fun _ ho _ => hsl.only0 ho) ?_)
        intro x328_1 y328_1
        refine VL.q (Q.move rfl) ?_
        refine VL.q (Q.extract rfl rfl) ?_
        refine VL.q (Q.extract rfl rfl) ?_
        refine VL.q (Q.assign rfl) ?_
        refine VL.q (Q.assign rfl) ?_
        refine VL.nil ?_
        refine VE.seq ?_
        refine VC.seq ?_
        refine VC.region ?_
        refine VL.q (Q.move rfl) ?_
        refine VL.quietE (v' := .bool false) (by decide) (Q.ne rfl rfl) (by rfl) ?_
        refine VL.q (Q.move rfl) ?_
        refine VL.yes rfl rfl ?_
        refine VL.q (Q.move rfl) ?_
        refine VL.yes rfl rfl ?_
        refine VL.quietE (v' := .bool false) (by decide) (Q.ne rfl rfl) (by rfl) ?_
        refine VL.quietE (v' := .bool false) (by decide) (Q.pick_false rfl rfl) (by rfl) ?_
        refine VL.q (Q.move rfl) ?_
        refine VL.yes rfl rfl ?_
        refine VL.q (Q.move rfl) ?_
        refine VL.yes rfl rfl ?_
        refine VL.q (Q.move rfl) ?_
        refine VL.yes rfl rfl ?_
        refine VL.q (Q.move rfl) ?_
        refine VL.yes rfl rfl ?_
        refine VL.q ((by first | exact Q.addI rfl rfl (by omega) (by omega) | exact Q.add rfl rfl)) ?_
        refine VL.yes rfl rfl ?_
        refine VL.quietE (v' := .bool false) (by decide) (Q.ne rfl rfl) (neF (by split <;> omega)) ?_
        refine VL.quietE (v' := .bool false) (by decide) (Q.pick_false rfl rfl) (by rfl) ?_
        refine VL.nil ?_
        refine VE.seq ?_
        refine VC.condF rfl ?_
        refine VC.skip ?_
        refine VE.block_normal ?_
        refine VE.seq ?_
        refine VC.region ?_
        refine VL.q (Q.move rfl) ?_
        refine VL.quietE (v' := .int .u8 2) (by decide) ((by first | exact Q.addF rfl rfl (by simp only [klo]; omega) (by simp only [khi]; omega) | exact Q.addM (M := 256) rfl rfl rfl rfl)) (by rfl) ?_
        refine VL.q (Q.assign rfl) ?_
        refine VL.nil ?_
        refine VE.then_normal ?_
        refine VC.rnd (m := 37) ?_
        refine VC.seq ?_
        refine VC.seq ?_
        refine VC.region ?_
        refine VL.q (Q.move rfl) ?_
        refine VL.quietE (v' := .bool true) (by decide) (Q.lt rfl rfl) (by rfl) ?_
        refine VL.nil ?_
        refine VE.seq ?_
        refine VC.condT rfl ?_
        refine VC.skip ?_
        refine VE.seq ?_
        refine VC.seq ?_
        refine VC.block ?_
        refine VC.seq ?_
        refine VC.region ?_
        refine VL.q (Q.move rfl) ?_
        refine VL.eff (O.call0 ok20 rfl rfl (by decide) (space_2) (fun _ ho _ => hsl.only0 ho) ?_)
        intro x321_2 y321_2
        refine VL.q (Q.move rfl) ?_
        refine VL.q (Q.extract rfl rfl) ?_
        refine VL.q (Q.extract rfl rfl) ?_
        refine VL.q (Q.assign rfl) ?_
        refine VL.q (Q.assign rfl) ?_
        refine VL.nil ?_
        refine VE.seq ?_
        refine VC.seq ?_
        refine VC.region ?_
        refine VL.q (Q.loadA ty46 rfl zM zS) ?_
        refine VL.q (Q.move rfl) ?_
        refine VL.q (Q.move rfl) ?_
        have hcall4 := earliest_2 ((st : Int) + T) ((st : Int) + ps + pa + 32 + A + 18) hno ((st : Int) + ps + pa) (by omega)
        rw [hwn] at hcall4
        refine VL.eff (O.call0 ok21 rfl rfl (by decide) (hcall4) (fun _ ho _ => hsl.only0 ho) ?_)
        intro x328_2 y328_2
        refine VL.q (Q.move rfl) ?_
        refine VL.q (Q.extract rfl rfl) ?_
        refine VL.q (Q.extract rfl rfl) ?_
        refine VL.q (Q.assign rfl) ?_
        refine VL.q (Q.assign rfl) ?_
        refine VL.nil ?_
        refine VE.seq ?_
        refine VC.seq ?_
        refine VC.region ?_
        refine VL.q (Q.move rfl) ?_
        refine VL.quietE (v' := .bool false) (by decide) (Q.ne rfl rfl) (by rfl) ?_
        refine VL.q (Q.move rfl) ?_
        refine VL.yes rfl rfl ?_
        refine VL.q (Q.move rfl) ?_
        refine VL.yes rfl rfl ?_
        refine VL.quietE (v' := .bool false) (by decide) (Q.ne rfl rfl) (by rfl) ?_
        refine VL.quietE (v' := .bool false) (by decide) (Q.pick_false rfl rfl) (by rfl) ?_
        refine VL.q (Q.move rfl) ?_
        refine VL.yes rfl rfl ?_
        refine VL.q (Q.move rfl) ?_
        refine VL.yes rfl rfl ?_
        refine VL.q (Q.move rfl) ?_
        refine VL.yes rfl rfl ?_
        refine VL.q (Q.move rfl) ?_
        refine VL.yes rfl rfl ?_
        refine VL.q ((by first | exact Q.addI rfl rfl (by omega) (by omega) | exact Q.add rfl rfl)) ?_
        refine VL.yes rfl rfl ?_
        refine VL.quietE (v' := .bool false) (by decide) (Q.ne rfl rfl) (neF (by split <;> omega)) ?_
        refine VL.quietE (v' := .bool false) (by decide) (Q.pick_false rfl rfl) (by rfl) ?_
        refine VL.nil ?_
        refine VE.seq ?_
        refine VC.condF rfl ?_
        refine VC.skip ?_
        refine VE.block_normal ?_
        refine VE.seq ?_
        refine VC.region ?_
        refine VL.q (Q.move rfl) ?_
        refine VL.quietE (v' := .int .u8 3) (by decide) ((by first | exact Q.addF rfl rfl (by simp only [klo]; omega) (by simp only [khi]; omega) | exact Q.addM (M := 256) rfl rfl rfl rfl)) (by rfl) ?_
        refine VL.q (Q.assign rfl) ?_
        refine VL.nil ?_
        refine VE.then_normal ?_
        refine VC.rnd (m := 36) ?_
        refine VC.seq ?_
        refine VC.seq ?_
        refine VC.region ?_
        refine VL.q (Q.move rfl) ?_
        refine VL.quietE (v' := .bool true) (by decide) (Q.lt rfl rfl) (by rfl) ?_
        refine VL.nil ?_
        refine VE.seq ?_
        refine VC.condT rfl ?_
        refine VC.skip ?_
        refine VE.seq ?_
        refine VC.seq ?_
        refine VC.block ?_
        refine VC.seq ?_
        refine VC.region ?_
        refine VL.q (Q.move rfl) ?_
        refine VL.eff (O.call0 ok20 rfl rfl (by decide) (space_3) (fun _ ho _ => hsl.only0 ho) ?_)
        intro x321_3 y321_3
        refine VL.q (Q.move rfl) ?_
        refine VL.q (Q.extract rfl rfl) ?_
        refine VL.q (Q.extract rfl rfl) ?_
        refine VL.q (Q.assign rfl) ?_
        refine VL.q (Q.assign rfl) ?_
        refine VL.nil ?_
        refine VE.seq ?_
        refine VC.seq ?_
        refine VC.region ?_
        refine VL.q (Q.loadA ty46 rfl zM zS) ?_
        refine VL.q (Q.move rfl) ?_
        refine VL.q (Q.move rfl) ?_
        have hcall4 := earliest_3 ((st : Int) + T) ((st : Int) + ps + pa + 32 + A + 18) hno ((st : Int) + ps + pa) (by omega)
        rw [hwn] at hcall4
        refine VL.eff (O.call0 ok21 rfl rfl (by decide) (hcall4) (fun _ ho _ => hsl.only0 ho) ?_)
        intro x328_3 y328_3
        refine VL.q (Q.move rfl) ?_
        refine VL.q (Q.extract rfl rfl) ?_
        refine VL.q (Q.extract rfl rfl) ?_
        refine VL.q (Q.assign rfl) ?_
        refine VL.q (Q.assign rfl) ?_
        refine VL.nil ?_
        refine VE.seq ?_
        refine VC.seq ?_
        refine VC.region ?_
        refine VL.q (Q.move rfl) ?_
        refine VL.quietE (v' := .bool false) (by decide) (Q.ne rfl rfl) (by rfl) ?_
        refine VL.q (Q.move rfl) ?_
        refine VL.yes rfl rfl ?_
        refine VL.q (Q.move rfl) ?_
        refine VL.yes rfl rfl ?_
        refine VL.quietE (v' := .bool false) (by decide) (Q.ne rfl rfl) (by rfl) ?_
        refine VL.quietE (v' := .bool false) (by decide) (Q.pick_false rfl rfl) (by rfl) ?_
        refine VL.q (Q.move rfl) ?_
        refine VL.yes rfl rfl ?_
        refine VL.q (Q.move rfl) ?_
        refine VL.yes rfl rfl ?_
        refine VL.q (Q.move rfl) ?_
        refine VL.yes rfl rfl ?_
        refine VL.q (Q.move rfl) ?_
        refine VL.yes rfl rfl ?_
        refine VL.q ((by first | exact Q.addI rfl rfl (by omega) (by omega) | exact Q.add rfl rfl)) ?_
        refine VL.yes rfl rfl ?_
        refine VL.quietE (v' := .bool false) (by decide) (Q.ne rfl rfl) (neF (by split <;> omega)) ?_
        refine VL.quietE (v' := .bool false) (by decide) (Q.pick_false rfl rfl) (by rfl) ?_
        refine VL.nil ?_
        refine VE.seq ?_
        refine VC.condF rfl ?_
        refine VC.skip ?_
        refine VE.block_normal ?_
        refine VE.seq ?_
        refine VC.region ?_
        refine VL.q (Q.move rfl) ?_
        refine VL.quietE (v' := .int .u8 4) (by decide) ((by first | exact Q.addF rfl rfl (by simp only [klo]; omega) (by simp only [khi]; omega) | exact Q.addM (M := 256) rfl rfl rfl rfl)) (by rfl) ?_
        refine VL.q (Q.assign rfl) ?_
        refine VL.nil ?_
        refine VE.then_normal ?_
        refine VC.rnd (m := 35) ?_
        refine VC.seq ?_
        refine VC.seq ?_
        refine VC.region ?_
        refine VL.q (Q.move rfl) ?_
        refine VL.quietE (v' := .bool false) (by decide) (Q.lt rfl rfl) (by rfl) ?_
        refine VL.nil ?_
        refine VE.seq ?_
        refine VC.condF rfl ?_
        refine VC.exit ?_
        refine VE.then_exit ?_
        refine VE.then_exit ?_
        refine VE.block_here ?_
        refine VE.seq ?_
        refine VC.region ?_
        refine VL.q (Q.loadA ty46 rfl zM zS) ?_
        refine VL.eff (O.store ty46 rfl rfl rfl rfl zU zP ?_)
        refine VL.nil ?_
        exact VE.give zE zB hn

theorem round_2 (W0 : World) (hsub : Subs W0) (hsl : Rd W0 (some ⟨1, 0, none⟩) [.int .i64 7, .int .i64 3, .int .i64 2, .int .i64 2]) (hl : List Bool) (p2 : Option Addr) (c2 : Nat) (hrh : Rd W0 p2 (bls hl)) (x0 x1 x2 x3 x4 x5 v15 : Value) (R : Rs) (st : Nat) (T A : Int) (k : Nat) (u l : Int) (pi : Nat) (ps pa : Int) (D : Nat) (g1 g17 g19 g21 : Nat) (hst : st ≤ 4294967295) (hps : 0 ≤ ps) (hpa : 1 ≤ pa) (hsum : ps + pa + D = T) (hD : D ≤ 32767) (hT : T ≤ 2000000) (hA : 1 ≤ A ∧ A ≤ 32767) (hnv : navI ((st : Int) + T) k u l) (QQ : Exit → Act → World → Prop) (hS : Still QQ) (hn : VK W0 (List.flatMap Rs.ids []) 347 (fun a W => QQ .normal a W) [(1, .pointer (some ⟨g1, 0, none⟩)), (7, .int .i64 A), (15, v15), (16, .int .i64 (st : Int)), (17, .pointer (some ⟨g17, 0, none⟩)), (18, .int .i64 ((st : Int) + T)), (19, .pointer (some ⟨g19, 0, none⟩)), (20, .int .i64 (k : Int))] [.blk g19 [.int .i64 ((st : Int) + T), .int .i64 0] 46, .blk g17 [.int .u8 2, .int .u8 0, .int .u8 0, .int .u8 0, .int .u8 0, .int .u8 3] 43, R, .blk g1 [x0, x1, x2, x3, x4, x5, .slice p2 hl.length c2] 27]) (hc : VK W0 (List.flatMap Rs.ids []) 347 (fun a W => QQ (.exit 3) a W) [(1, .pointer (some ⟨g1, 0, none⟩)), (7, .int .i64 A), (15, v15), (16, .int .i64 (st : Int)), (17, .pointer (some ⟨g17, 0, none⟩)), (18, .int .i64 ((st : Int) + T)), (19, .pointer (some ⟨g19, 0, none⟩)), (20, .int .i64 (k : Int))] [.blk g19 [.int .i64 u, .int .i64 l] 46, .blk g17 [.int .u8 2, .int .u8 0, .int .u8 0, .int .u8 0, .int .u8 0, .int .u8 3] 43, R, .blk g1 [x0, x1, x2, x3, x4, x5, .slice p2 hl.length c2] 27]) :
    VK W0 (List.flatMap Rs.ids []) 347 ((bodyAt Tryd.f4 [1, 1, 1, 1, 1, 1, 1, 1, 1, 1, 1, 1, 1, 1, 0, 1, 0, 0, 1, 0, 0, 1]).wp Tryd.prog QQ) [(1, .pointer (some ⟨g1, 0, none⟩)), (7, .int .i64 A), (15, v15), (16, .int .i64 (st : Int)), (17, .pointer (some ⟨g17, 0, none⟩)), (18, .int .i64 ((st : Int) + T)), (19, .pointer (some ⟨g19, 0, none⟩)), (20, .int .i64 (k : Int)), (21, .pointer (some ⟨g21, 0, none⟩))] [.blk g21 [.int .u8 2, .bool true, .int .i64 (pi : Int), .int .i64 ps, .int .i64 pa, .int .i64 (D : Int)] 48, .blk g19 [.int .i64 u, .int .i64 l] 46, .blk g17 [.int .u8 2, .int .u8 0, .int .u8 0, .int .u8 0, .int .u8 0, .int .u8 3] 43, R, .blk g1 [x0, x1, x2, x3, x4, x5, .slice p2 hl.length c2] 27] := by
  have hnx := hear_law (ans := A) false hnv ((fun h => by cases h)) (show ((st : Int) + ps + pa) + (D : Int) = ((st : Int) + T) by omega) (by omega) (by omega) (by omega)
  obtain ⟨hnU, hnL⟩ := hnx
  rw [if_neg (by decide)] at hnL
  refine VC.seqJ (X := Nat) (fun z => [(1, .pointer (some ⟨g1, 0, none⟩)), (7, .int .i64 A), (15, v15), (16, .int .i64 (st : Int)), (17, .pointer (some ⟨g17, 0, none⟩)), (18, .int .i64 ((st : Int) + T)), (19, .pointer (some ⟨g19, 0, none⟩)), (20, .int .i64 (k : Int)), (21, .pointer (some ⟨g21, 0, none⟩)), (22, .pointer (some ⟨z, 0, none⟩)), (23, .int .i64 0)]) (fun z => [.blk z [.int .u8 1, .int .u8 12, .bool false, .bool false, .bool false, .bool false, .bool false, .bool false, .bool false, .int .i64 (D : Int), .int .u8 2, .int .u8 0, .int .u8 0, .int .u8 0, .int .u8 0, .int .u8 2, .int .u8 0, .int .u8 0, .int .u8 0, .int .u8 0, .int .u8 0, .int .u8 0, .int .u8 0, .int .u8 0, .int .u8 0, .int .u8 0, .int .u8 0, .int .u8 0, .int .u8 0, .int .u8 0, .int .u8 0, .int .u8 0, .int .u8 0, .int .u8 0, .int .i64 0, .int .i64 0, .int .i64 0, .int .u8 0, .bool false, .bool false] 50, .blk g21 [.int .u8 2, .bool true, .int .i64 (pi : Int), .int .i64 ps, .int .i64 pa, .int .i64 (D : Int)] 48, .blk g19 [.int .i64 u, .int .i64 l] 46, .blk g17 [.int .u8 2, .int .u8 0, .int .u8 0, .int .u8 0, .int .u8 0, .int .u8 3] 43, R, .blk g1 [x0, x1, x2, x3, x4, x5, .slice p2 hl.length c2] 27]) (fun z => True) ?_ ?_
  · skip
    refine VA.start (Ls := [.blk g21 [.int .u8 2, .bool true, .int .i64 (pi : Int), .int .i64 ps, .int .i64 pa, .int .i64 (D : Int)] 48]) (Cs := []) mixed ?_
    refine VA.take 0 rfl (by kernel_rfl) (by kernel_rfl) (by kernel_rfl) (Still.then hS) (List.singleton_sublist.2 zM) Cells.nil (by decide) (Quiet.c (Q.loadA ty48 rfl zM zS)) ?_
    refine VA.all (rs := [1, 7]) (by kernel_rfl) (by simp) ?_
    refine VA.forall2 ?_ ?_
    · skip
      refine VA.eff rfl ?_
      refine id (O.call0 ok13 rfl rfl (by decide) (station_c) (fun _ _ _ => trivial) ?_)
      intro x155 y155
      refine VA.next (List.singleton_sublist.2 zM) Cells.nil ?_
      refine VA.all (rs := [2, 7]) (by kernel_rfl) (by simp) ?_
      refine VA.forall2 ?_ ?_
      · skip
        refine VA.eff rfl ?_
        refine id (O.call0 ok14 rfl rfl (by decide) (point_c) (fun _ _ _ => trivial) ?_)
        intro x156 y156
        refine VA.next (List.singleton_sublist.2 zM) Cells.nil ?_
        refine VA.all (rs := [3, 7]) (by kernel_rfl) (by simp) ?_
        refine VA.forall2 ?_ ?_
        · skip
          refine VA.eff rfl ?_
          refine id (O.call0 ok12 rfl rfl (by decide) (xheader_2 pi ps pa D hD) (fun _ ho _ => hsub.only ho) ?_)
          intro x157 y157
          refine VA.next (List.singleton_sublist.2 zM) Cells.nil ?_
          refine VA.take 4 rfl (by kernel_rfl) (by kernel_rfl) (by kernel_rfl) (Still.then hS) (List.singleton_sublist.2 zM) Cells.nil (by decide) (Quiet.c (Q.move rfl)) ?_
          refine VA.take 5 rfl (by kernel_rfl) (by kernel_rfl) (by kernel_rfl) (Still.then hS) (List.singleton_sublist.2 zM) Cells.nil (by decide) (Quiet.c (Q.extract rfl rfl)) ?_
          refine VA.take 6 rfl (by kernel_rfl) (by kernel_rfl) (by kernel_rfl) (Still.then hS) (List.singleton_sublist.2 zM) Cells.nil (by decide) (Quiet.c (Q.extract rfl rfl)) ?_
          refine VA.all (rs := [7]) (by kernel_rfl) (by simp) ?_
          refine VA.forall1 ?_
          · skip
            refine VA.eff rfl ?_
            refine id (O.alloc zo50 (by decide) ?_)
            intro g22
            refine VA.next (List.singleton_sublist.2 zM) Cells.nil ?_
            refine VA.all (rs := [8]) (by kernel_rfl) (by simp) ?_
            refine VA.forall1 ?_
            · skip
              refine VA.eff rfl ?_
              refine id (O.store ty50 rfl rfl rfl rfl zU zP ?_)
              refine VA.next (List.singleton_sublist.2 zM) Cells.nil ?_
              refine VA.take 9 rfl (by kernel_rfl) (by kernel_rfl) (by kernel_rfl) (Still.then hS) (List.singleton_sublist.2 zM) Cells.nil (by decide) (Quiet.c (Q.assign rfl)) ?_
              refine VA.done (by kernel_rfl) ?_
              refine VE.then_normal ?_
              exact VE.meetP g22 trivial zE zKs
        · skip
          refine VA.eff rfl ?_
          refine id (O.alloc zo50 (by decide) ?_)
          intro g22_1
          refine VA.next (List.singleton_sublist.2 zM) Cells.nil ?_
          refine VA.all (rs := [3]) (by kernel_rfl) (by simp) ?_
          refine VA.forall1 ?_
          · skip
            refine VA.eff rfl ?_
            refine id (O.call0 ok12 rfl rfl (by decide) (xheader_2 pi ps pa D hD) (fun _ ho _ => hsub.only ho) ?_)
            intro x157_1 y157_1
            refine VA.next (List.singleton_sublist.2 zM) Cells.nil ?_
            refine VA.take 4 rfl (by kernel_rfl) (by kernel_rfl) (by kernel_rfl) (Still.then hS) (List.singleton_sublist.2 zM) Cells.nil (by decide) (Quiet.c (Q.move rfl)) ?_
            refine VA.take 5 rfl (by kernel_rfl) (by kernel_rfl) (by kernel_rfl) (Still.then hS) (List.singleton_sublist.2 zM) Cells.nil (by decide) (Quiet.c (Q.extract rfl rfl)) ?_
            refine VA.take 6 rfl (by kernel_rfl) (by kernel_rfl) (by kernel_rfl) (Still.then hS) (List.singleton_sublist.2 zM) Cells.nil (by decide) (Quiet.c (Q.extract rfl rfl)) ?_
            refine VA.all (rs := [8]) (by kernel_rfl) (by simp) ?_
            refine VA.forall1 ?_
            · skip
              refine VA.eff rfl ?_
              refine id (O.store ty50 rfl rfl rfl rfl zU zP ?_)
              refine VA.next (List.singleton_sublist.2 zM) Cells.nil ?_
              refine VA.take 9 rfl (by kernel_rfl) (by kernel_rfl) (by kernel_rfl) (Still.then hS) (List.singleton_sublist.2 zM) Cells.nil (by decide) (Quiet.c (Q.assign rfl)) ?_
              refine VA.done (by kernel_rfl) ?_
              refine VE.then_normal ?_
              exact VE.meetP g22_1 trivial zE zKs
      · skip
        refine VA.eff rfl ?_
        refine id (O.alloc zo50 (by decide) ?_)
        intro g22_2
        refine VA.next (List.singleton_sublist.2 zM) Cells.nil ?_
        refine VA.all (rs := [2]) (by kernel_rfl) (by simp) ?_
        refine VA.forall1 ?_
        · skip
          refine VA.eff rfl ?_
          refine id (O.call0 ok14 rfl rfl (by decide) (point_c) (fun _ _ _ => trivial) ?_)
          intro x156_1 y156_1
          refine VA.next (List.singleton_sublist.2 zM) Cells.nil ?_
          refine VA.all (rs := [3]) (by kernel_rfl) (by simp) ?_
          refine VA.forall1 ?_
          · skip
            refine VA.eff rfl ?_
            refine id (O.call0 ok12 rfl rfl (by decide) (xheader_2 pi ps pa D hD) (fun _ ho _ => hsub.only ho) ?_)
            intro x157_2 y157_2
            refine VA.next (List.singleton_sublist.2 zM) Cells.nil ?_
            refine VA.take 4 rfl (by kernel_rfl) (by kernel_rfl) (by kernel_rfl) (Still.then hS) (List.singleton_sublist.2 zM) Cells.nil (by decide) (Quiet.c (Q.move rfl)) ?_
            refine VA.take 5 rfl (by kernel_rfl) (by kernel_rfl) (by kernel_rfl) (Still.then hS) (List.singleton_sublist.2 zM) Cells.nil (by decide) (Quiet.c (Q.extract rfl rfl)) ?_
            refine VA.take 6 rfl (by kernel_rfl) (by kernel_rfl) (by kernel_rfl) (Still.then hS) (List.singleton_sublist.2 zM) Cells.nil (by decide) (Quiet.c (Q.extract rfl rfl)) ?_
            refine VA.all (rs := [8]) (by kernel_rfl) (by simp) ?_
            refine VA.forall1 ?_
            · skip
              refine VA.eff rfl ?_
              refine id (O.store ty50 rfl rfl rfl rfl zU zP ?_)
              refine VA.next (List.singleton_sublist.2 zM) Cells.nil ?_
              refine VA.take 9 rfl (by kernel_rfl) (by kernel_rfl) (by kernel_rfl) (Still.then hS) (List.singleton_sublist.2 zM) Cells.nil (by decide) (Quiet.c (Q.assign rfl)) ?_
              refine VA.done (by kernel_rfl) ?_
              refine VE.then_normal ?_
              exact VE.meetP g22_2 trivial zE zKs
    · skip
      refine VA.eff rfl ?_
      refine id (O.alloc zo50 (by decide) ?_)
      intro g22_3
      refine VA.next (List.singleton_sublist.2 zM) Cells.nil ?_
      refine VA.all (rs := [1]) (by kernel_rfl) (by simp) ?_
      refine VA.forall1 ?_
      · skip
        refine VA.eff rfl ?_
        refine id (O.call0 ok13 rfl rfl (by decide) (station_c) (fun _ _ _ => trivial) ?_)
        intro x155_1 y155_1
        refine VA.next (List.singleton_sublist.2 zM) Cells.nil ?_
        refine VA.all (rs := [2]) (by kernel_rfl) (by simp) ?_
        refine VA.forall1 ?_
        · skip
          refine VA.eff rfl ?_
          refine id (O.call0 ok14 rfl rfl (by decide) (point_c) (fun _ _ _ => trivial) ?_)
          intro x156_2 y156_2
          refine VA.next (List.singleton_sublist.2 zM) Cells.nil ?_
          refine VA.all (rs := [3]) (by kernel_rfl) (by simp) ?_
          refine VA.forall1 ?_
          · skip
            refine VA.eff rfl ?_
            refine id (O.call0 ok12 rfl rfl (by decide) (xheader_2 pi ps pa D hD) (fun _ ho _ => hsub.only ho) ?_)
            intro x157_3 y157_3
            refine VA.next (List.singleton_sublist.2 zM) Cells.nil ?_
            refine VA.take 4 rfl (by kernel_rfl) (by kernel_rfl) (by kernel_rfl) (Still.then hS) (List.singleton_sublist.2 zM) Cells.nil (by decide) (Quiet.c (Q.move rfl)) ?_
            refine VA.take 5 rfl (by kernel_rfl) (by kernel_rfl) (by kernel_rfl) (Still.then hS) (List.singleton_sublist.2 zM) Cells.nil (by decide) (Quiet.c (Q.extract rfl rfl)) ?_
            refine VA.take 6 rfl (by kernel_rfl) (by kernel_rfl) (by kernel_rfl) (Still.then hS) (List.singleton_sublist.2 zM) Cells.nil (by decide) (Quiet.c (Q.extract rfl rfl)) ?_
            refine VA.all (rs := [8]) (by kernel_rfl) (by simp) ?_
            refine VA.forall1 ?_
            · skip
              refine VA.eff rfl ?_
              refine id (O.store ty50 rfl rfl rfl rfl zU zP ?_)
              refine VA.next (List.singleton_sublist.2 zM) Cells.nil ?_
              refine VA.take 9 rfl (by kernel_rfl) (by kernel_rfl) (by kernel_rfl) (Still.then hS) (List.singleton_sublist.2 zM) Cells.nil (by decide) (Quiet.c (Q.assign rfl)) ?_
              refine VA.done (by kernel_rfl) ?_
              refine VE.then_normal ?_
              exact VE.meetP g22_3 trivial zE zKs
  · intro gz _
    refine VC.seq ?_
    refine VC.region ?_
    refine VL.q (Q.loadA ty50 rfl zM zS) ?_
    refine VL.q (Q.build lay58 zF) ?_
    refine VL.eff (O.call0 ok15 rfl rfl (by decide) (encode_cts D hD) (fun _ _ _ => trivial) ?_)
    intro x163 y163
    refine VL.q (Q.move rfl) ?_
    refine VL.q (Q.extract rfl rfl) ?_
    refine VL.q (Q.extract rfl rfl) ?_
    refine VL.q (Q.assign rfl) ?_
    refine VL.q (Q.assign rfl) ?_
    refine VL.nil ?_
    refine VE.seq ?_
    refine VC.seq ?_
    refine VC.region ?_
    refine VL.q (Q.move rfl) ?_
    refine VL.eff (O.call0 ok16 rfl rfl (by decide) (decode_cts D hD _ _ (by omega)) (fun _ _ hw => Rd.row hw zM) ?_)
    intro x168 y168
    refine VL.q (Q.move rfl) ?_
    refine VL.q (Q.extract rfl rfl) ?_
    refine VL.q (Q.extract rfl rfl) ?_
    refine VL.eff (O.alloc zo58 (by decide) ?_)
    intro g26
    refine VL.eff (O.store ty58 rfl rfl rfl rfl zU zP ?_)
    refine VL.q (Q.assign rfl) ?_
    refine VL.nil ?_
    refine VE.seq ?_
    refine VC.seq ?_
    refine VC.region ?_
    refine VL.q (Q.move rfl) ?_
    refine VL.q (Q.fieldAddr fa48_3 rfl) ?_
    refine VL.q (Q.load1 ty3 rfl zM rfl) ?_
    refine VL.q ((by first | exact Q.addI rfl rfl (by omega) (by omega) | exact Q.add rfl rfl)) ?_
    refine VL.q (Q.fieldAddr fa48_4 rfl) ?_
    refine VL.q (Q.load1 ty3 rfl zM rfl) ?_
    refine VL.q ((by first | exact Q.addI rfl rfl (by omega) (by omega) | exact Q.add rfl rfl)) ?_
    refine VL.q (Q.assign rfl) ?_
    refine VL.nil ?_
    refine VE.seq ?_
    refine VC.seq ?_
    refine VC.seq ?_
    refine VC.region ?_
    refine VL.q (Q.move rfl) ?_
    refine VL.quietE (v' := .bool false) (by decide) (Q.ne rfl rfl) (by rfl) ?_
    refine VL.q (Q.move rfl) ?_
    refine VL.yes rfl rfl ?_
    refine VL.q (Q.move rfl) ?_
    refine VL.yes rfl rfl ?_
    refine VL.quietE (v' := .bool false) (by decide) (Q.ne rfl rfl) (by rfl) ?_
    refine VL.quietE (v' := .bool false) (by decide) (Q.pick_false rfl rfl) (by rfl) ?_
    refine VL.q (Q.move rfl) ?_
    refine VL.yes rfl rfl ?_
    refine VL.q (Q.move rfl) ?_
    refine VL.yes rfl rfl ?_
    refine VL.quietE (v' := .bool false) (by decide) (Q.ne rfl rfl) (by rfl) ?_
    refine VL.quietE (v' := .bool false) (by decide) (Q.pick_false rfl rfl) (by rfl) ?_
    refine VL.q (Q.move rfl) ?_
    refine VL.yes rfl rfl ?_
    refine VL.q (Q.fieldAddr fa58_0 rfl) ?_
    refine VL.yes rfl rfl ?_
    refine VL.q (Q.loadA ty50 rfl zM zS) ?_
    refine VL.yes rfl rfl ?_
    refine VL.q (Q.loadA ty50 rfl zM zS) ?_
    refine VL.yes rfl rfl ?_
    refine VL.quietE (v' := .bool false) (by decide) (Q.neS flt50 (by decide) ty50 eg50 rfl rfl rfl rfl) (by simp [vsEq, vEq]) ?_
    refine VL.quietE (v' := .bool false) (by decide) (Q.pick_false rfl rfl) (by rfl) ?_
    refine VL.q (Q.move rfl) ?_
    refine VL.yes rfl rfl ?_
    refine VL.q (Q.fieldAddr fa58_1 rfl) ?_
    refine VL.yes rfl rfl ?_
    refine VL.q (Q.load1 ty54 rfl zM rfl) ?_
    refine VL.yes rfl rfl ?_
    refine VL.q (Q.len sl54 rfl) ?_
    refine VL.yes rfl rfl ?_
    refine VL.quietE (v' := .bool false) (by decide) (Q.gt rfl rfl) (by rfl) ?_
    refine VL.quietE (v' := .bool false) (by decide) (Q.pick_false rfl rfl) (by rfl) ?_
    refine VL.q (Q.move rfl) ?_
    refine VL.yes rfl rfl ?_
    refine VL.q (Q.move rfl) ?_
    refine VL.yes rfl rfl ?_
    refine VL.q (Q.fieldAddr fa50_9 rfl) ?_
    refine VL.yes rfl rfl ?_
    refine VL.q (Q.load1 ty3 rfl zM rfl) ?_
    refine VL.yes rfl rfl ?_
    refine VL.q ((by first | exact Q.addI rfl rfl (by omega) (by omega) | exact Q.add rfl rfl)) ?_
    refine VL.yes rfl rfl ?_
    refine VL.q (Q.move rfl) ?_
    refine VL.yes rfl rfl ?_
    refine VL.quietE (v' := .bool false) (by decide) (Q.ne rfl rfl) (neF (by omega)) ?_
    refine VL.quietE (v' := .bool false) (by decide) (Q.pick_false rfl rfl) (by rfl) ?_
    refine VL.nil ?_
    refine VE.seq ?_
    refine VC.condF rfl ?_
    refine VC.skip ?_
    refine VE.seq ?_
    refine VC.seq ?_
    refine VK.keep (by exact .cons (i := 1) rfl (.cons (i := 7) rfl (.cons (i := 15) rfl (.cons (i := 16) rfl (.cons (i := 17) rfl (.cons (i := 18) rfl (.cons (i := 19) rfl (.cons (i := 20) rfl (.cons (i := 21) rfl (.cons (i := 22) rfl (.cons (i := 23) rfl (.cons (i := 25) rfl (.cons (i := 26) rfl (.cons (i := 28) rfl ( .nil))))))))))))))) ?_
    refine VC.region ?_
    refine VL.q (Q.build lay46 zF) ?_
    refine VL.q (Q.fieldAddr fa50_10 rfl) ?_
    refine VL.q (Q.loadA ty43 rfl zM zS) ?_
    refine VL.q (Q.fieldAddr fa58_0 rfl) ?_
    refine VL.q (Q.loadA ty50 rfl zM zS) ?_
    refine VL.q (Q.move rfl) ?_
    refine VL.q (Q.move rfl) ?_
    refine VL.eff (O.call0 ok17 rfl rfl (by decide) (own_cts D hD ((st : Int) + ps + pa) (A) (by omega) (by omega)) (fun _ _ _ => trivial) ?_)
    intro x216 y216
    refine VL.q (Q.move rfl) ?_
    refine VL.q (Q.extract rfl rfl) ?_
    refine VL.q (Q.extract rfl rfl) ?_
    refine VL.eff (O.alloc zo46 (by decide) ?_)
    intro g29
    refine VL.eff (O.store ty46 rfl rfl rfl rfl zU zP ?_)
    refine VL.q (Q.assign rfl) ?_
    refine VL.nil ?_
    refine VE.seq ?_
    refine VC.seq ?_
    refine VC.seq ?_
    refine VC.region ?_
    refine VL.q (Q.move rfl) ?_
    refine VL.quietE (v' := .bool false) (by decide) (Q.ne rfl rfl) (by rfl) ?_
    refine VL.q (Q.move rfl) ?_
    refine VL.yes rfl rfl ?_
    refine VL.q (Q.loadA ty46 rfl zM zS) ?_
    refine VL.yes rfl rfl ?_
    refine VL.q (Q.build lay46 zF) ?_
    refine VL.yes rfl rfl ?_
    refine VL.quietE (v' := .bool false) (by decide) (Q.neS flt46 (by decide) ty46 eg46 rfl rfl rfl rfl) (by rfl) ?_
    refine VL.quietE (v' := .bool false) (by decide) (Q.pick_false rfl rfl) (by rfl) ?_
    refine VL.nil ?_
    refine VE.seq ?_
    refine VC.condF rfl ?_
    refine VC.skip ?_
    refine VE.seq ?_
    refine VC.seq ?_
    refine VC.seqJ (X := Unit) (fun _z => [(238, .bool (heardP hl k)), (1, .pointer (some ⟨g1, 0, none⟩)), (7, .int .i64 A), (15, v15), (16, .int .i64 (st : Int)), (17, .pointer (some ⟨g17, 0, none⟩)), (18, .int .i64 ((st : Int) + T)), (19, .pointer (some ⟨g19, 0, none⟩)), (20, .int .i64 (k : Int)), (21, .pointer (some ⟨g21, 0, none⟩)), (26, .pointer (some ⟨g26, 0, none⟩)), (28, .int .i64 ((st : Int) + ps + pa))]) (fun _z => [.blk g26 [.int .u8 1, .int .u8 12, .bool false, .bool false, .bool false, .bool false, .bool false, .bool false, .bool false, .int .i64 (D : Int), .int .u8 2, .int .u8 0, .int .u8 0, .int .u8 0, .int .u8 0, .int .u8 2, .int .u8 0, .int .u8 0, .int .u8 0, .int .u8 0, .int .u8 0, .int .u8 0, .int .u8 0, .int .u8 0, .int .u8 0, .int .u8 0, .int .u8 0, .int .u8 0, .int .u8 0, .int .u8 0, .int .u8 0, .int .u8 0, .int .u8 0, .int .u8 0, .int .i64 0, .int .i64 0, .int .i64 0, .int .u8 0, .bool false, .bool false, .slice (some ⟨x168, 0, none⟩) 0 0] 58, .blk g21 [.int .u8 2, .bool true, .int .i64 (pi : Int), .int .i64 ps, .int .i64 pa, .int .i64 (D : Int)] 48, .blk g19 [.int .i64 u, .int .i64 l] 46, .blk g17 [.int .u8 2, .int .u8 0, .int .u8 0, .int .u8 0, .int .u8 0, .int .u8 3] 43, R, .blk g1 [x0, x1, x2, x3, x4, x5, .slice p2 hl.length c2] 27]) (fun _z => True) ?_ ?_
    · skip
      refine VC.region ?_
      refine VL.q (Q.move rfl) ?_
      refine VL.q (Q.fieldAddr fa27_6 rfl) ?_
      refine VL.q (Q.load1 ty25 rfl zM rfl) ?_
      refine VL.q (Q.len sl25 rfl) ?_
      refine VL.q (Q.lt rfl rfl) ?_
      refine VL.q (Q.move rfl) ?_
      refine VK.case 231 rfl ?_ ?_
      · intro h231
        have hlk : k < hl.length := by have := of_decide_eq_true h231; omega
        obtain ⟨b1, o1, rfl, hc1⟩ := hrh k _ (bls_get hl k hlk)
        refine VL.yes rfl rfl ?_
        refine VL.q (Q.fieldAddr fa27_6 rfl) ?_
        refine VL.yes rfl rfl ?_
        refine VL.q (Q.load1 ty25 rfl zM rfl) ?_
        refine VL.yes rfl rfl ?_
        refine VL.q (Q.move rfl) ?_
        refine VL.yes rfl rfl ?_
        refine VL.q (Q.indexAddr sl25 (j := k) rfl rfl rfl hlk) ?_
        refine VL.yes rfl rfl ?_
        refine VL.q (Q.load0 ty4 rfl (by simpa using hc1) (by simp)) ?_
        refine VL.yes rfl rfl ?_
        refine VL.q (Q.not rfl) ?_
        refine VL.q (Q.pick_true rfl rfl) ?_
        refine VL.nil ?_
        refine VE.then_normal ?_
        exact VE.meetP () trivial (.cons (eBool (by simp [heardP, hlk])) zE) zKs
      · intro h231
        have hlk : ¬ k < hl.length := by have := of_decide_eq_false h231; omega
        refine VL.no (by simp) rfl rfl (.inl rfl) ?_
        refine VL.no (by simp) rfl rfl (.inl rfl) ?_
        refine VL.no (by simp) rfl rfl (.inl rfl) ?_
        refine VL.no (by simp) rfl rfl (.inl rfl) ?_
        refine VL.no (by simp) rfl rfl (.inl rfl) ?_
        refine VL.no (by simp) rfl rfl (.inl rfl) ?_
        refine VL.quietE (v' := .bool false) (by decide) (Q.pick_false rfl rfl) (by rfl) ?_
        refine VL.nil ?_
        refine VE.then_normal ?_
        exact VE.meetP () trivial (.cons (eBool (by simp [heardP, hlk])) zE) zKs
    · intro _ _
      refine VC.cond rfl ?_ ?_
      · intro h238
        refine VC.exit ?_
        refine VE.then_exit ?_
        exact VE.give zE zB hc
      · intro h238
        refine VC.skip ?_
        refine VE.seq ?_
        refine VC.seq ?_
        refine VC.region ?_
        refine VL.q (Q.loadA ty46 rfl zM zS) ?_
        refine VL.q (Q.loadA ty43 rfl zM zS) ?_
        refine VL.q (Q.fieldAddr fa58_0 rfl) ?_
        refine VL.q (Q.loadA ty50 rfl zM zS) ?_
        refine VL.q (Q.move rfl) ?_
        refine VL.q (Q.move rfl) ?_
        have hcall := heard_cts u l (navI_ok hnv (by omega)) D hD ((st : Int) + ps + pa) (A) (by omega) (by omega)
        rw [hnU, hnL] at hcall
        refine VL.eff (O.call0 ok17 rfl rfl (by decide) (hcall) (fun _ _ _ => trivial) ?_)
        intro x246 y246
        refine VL.q (Q.move rfl) ?_
        refine VL.q (Q.extract rfl rfl) ?_
        refine VL.q (Q.extract rfl rfl) ?_
        refine VL.eff (O.alloc zo46 (by decide) ?_)
        intro g30
        refine VL.eff (O.store ty46 rfl rfl rfl rfl zU zP ?_)
        refine VL.q (Q.assign rfl) ?_
        refine VL.nil ?_
        refine VE.seq ?_
        refine VC.seq ?_
        refine VC.region ?_
        refine VL.q (Q.loadA ty46 rfl zM zS) ?_
        have hno : navOk ((st : Int) + T) 0 := ⟨by omega, by omega⟩
        have hcall2 := until2_c ((st : Int) + T) 0 hno
        rw [until0] at hcall2
        refine VL.eff (O.call0 ok18 rfl rfl (by decide) (hcall2) (fun _ _ _ => trivial) ?_)
        intro x251 y251
        refine VL.q (Q.move rfl) ?_
        refine VL.q (Q.extract rfl rfl) ?_
        refine VL.q (Q.extract rfl rfl) ?_
        refine VL.q (Q.assign rfl) ?_
        refine VL.q (Q.assign rfl) ?_
        refine VL.nil ?_
        refine VE.seq ?_
        refine VC.seq ?_
        refine VC.region ?_
        refine VL.q (Q.move rfl) ?_
        refine VL.q (Q.assign rfl) ?_
        refine VL.q (Q.assign rfl) ?_
        refine VL.nil ?_
        refine VE.seq ?_
        refine VC.seq ?_
        refine VC.seq ?_
        refine VC.region ?_
        refine VL.q (Q.fieldAddr fa48_0 rfl) ?_
        refine VL.q (Q.load1 ty5 rfl zM rfl) ?_
        refine VL.quietE (v' := .bool false) (by decide) (Q.eq rfl rfl) (by rfl) ?_
        refine VL.nil ?_
        refine VE.seq ?_
        refine VC.condF rfl ?_
        refine VC.skip ?_
        refine VE.seq ?_
        refine VC.seq ?_
        refine VC.seq ?_
        refine VC.region ?_
        refine VL.q (Q.move rfl) ?_
        refine VL.quietE (v' := .bool false) (by decide) (Q.ne rfl rfl) (by rfl) ?_
        refine VL.q (Q.move rfl) ?_
        refine VL.yes rfl rfl ?_
        refine VL.q (Q.move rfl) ?_
        refine VL.yes rfl rfl ?_
        refine VL.quietE (v' := .bool false) (by decide) (Q.ne rfl rfl) (by rfl) ?_
        refine VL.quietE (v' := .bool false) (by decide) (Q.pick_false rfl rfl) (by rfl) ?_
        refine VL.q (Q.move rfl) ?_
        refine VL.yes rfl rfl ?_
        refine VL.q (Q.fieldAddr fa46_0 rfl) ?_
        refine VL.yes rfl rfl ?_
        refine VL.q (Q.load1 ty3 rfl zM rfl) ?_
        refine VL.yes rfl rfl ?_
        refine VL.q (Q.move rfl) ?_
        refine VL.yes rfl rfl ?_
        refine VL.quietE (v' := .bool false) (by decide) (Q.ne rfl rfl) (neF rfl) ?_
        refine VL.quietE (v' := .bool false) (by decide) (Q.pick_false rfl rfl) (by rfl) ?_
        refine VL.q (Q.move rfl) ?_
        refine VL.yes rfl rfl ?_
        refine VL.q (Q.fieldAddr fa46_1 rfl) ?_
        refine VL.yes rfl rfl ?_
        refine VL.q (Q.load1 ty3 rfl zM rfl) ?_
        refine VL.yes rfl rfl ?_
        refine VL.q (Q.move rfl) ?_
        refine VL.yes rfl rfl ?_
        refine VL.quietE (v' := .bool false) (by decide) (Q.ne rfl rfl) (neF rfl) ?_
        refine VL.quietE (v' := .bool false) (by decide) (Q.pick_false rfl rfl) (by rfl) ?_
        refine VL.q (Q.move rfl) ?_
        refine VL.yes rfl rfl ?_
        refine VL.q (Q.move rfl) ?_
        refine VL.yes rfl rfl ?_
        refine VL.q (Q.move rfl) ?_
        refine VL.yes rfl rfl ?_
        refine VL.quietE (v' := .bool false) (by decide) (Q.ne rfl rfl) (neF rfl) ?_
        refine VL.quietE (v' := .bool false) (by decide) (Q.pick_false rfl rfl) (by rfl) ?_
        refine VL.nil ?_
        refine VE.seq ?_
        refine VC.condF rfl ?_
        refine VC.skip ?_
        refine VE.seq ?_
        refine VC.seq ?_
        refine VK.keep (by exact .cons (i := 1) rfl (.cons (i := 7) rfl (.cons (i := 15) rfl (.cons (i := 16) rfl (.cons (i := 17) rfl (.cons (i := 18) rfl (.cons (i := 19) rfl (.cons (i := 20) rfl (.cons (i := 23) rfl (.cons (i := 25) rfl (.cons (i := 28) rfl (.cons (i := 30) rfl (.cons (i := 32) rfl ( .nil)))))))))))))) ?_
        refine VC.region ?_
        refine VL.q (Q.loadA ty46 rfl zM zS) ?_
        refine VL.q (Q.move rfl) ?_
        refine VL.q ((by first | exact Q.subI rfl rfl (by omega) (by omega) | exact Q.sub rfl rfl)) ?_
        have hcall3 := reserved_c ((st : Int) + T) 0 hno (((st : Int) + T) - 1) (by omega)
        rw [until0] at hcall3
        refine VL.eff (O.call0 ok19 rfl rfl (by decide) (hcall3) (fun _ _ _ => trivial) ?_)
        intro x293 y293
        refine VL.q (Q.move rfl) ?_
        refine VL.quietE (v' := .bool true) (by decide) (Q.extract rfl rfl) (congrArg Value.bool (decide_eq_true (by omega))) ?_
        refine VL.q (Q.extract rfl rfl) ?_
        refine VL.q (Q.assign rfl) ?_
        refine VL.q (Q.assign rfl) ?_
        refine VL.nil ?_
        refine VE.seq ?_
        refine VC.seq ?_
        refine VC.region ?_
        refine VL.q (Q.loadA ty46 rfl zM zS) ?_
        refine VL.q (Q.move rfl) ?_
        have hcall3 := reserved_c ((st : Int) + T) 0 hno (((st : Int) + T)) (by omega)
        rw [until0] at hcall3
        refine VL.eff (O.call0 ok19 rfl rfl (by decide) (hcall3) (fun _ _ _ => trivial) ?_)
        intro x299 y299
        refine VL.q (Q.move rfl) ?_
        refine VL.quietE (v' := .bool false) (by decide) (Q.extract rfl rfl) (congrArg Value.bool (decide_eq_false (by omega))) ?_
        refine VL.q (Q.extract rfl rfl) ?_
        refine VL.q (Q.assign rfl) ?_
        refine VL.q (Q.assign rfl) ?_
        refine VL.nil ?_
        refine VE.seq ?_
        refine VC.seq ?_
        refine VC.seq ?_
        refine VC.region ?_
        refine VL.q (Q.move rfl) ?_
        refine VL.quietE (v' := .bool false) (by decide) (Q.ne rfl rfl) (by rfl) ?_
        refine VL.q (Q.move rfl) ?_
        refine VL.yes rfl rfl ?_
        refine VL.q (Q.move rfl) ?_
        refine VL.yes rfl rfl ?_
        refine VL.quietE (v' := .bool false) (by decide) (Q.ne rfl rfl) (by rfl) ?_
        refine VL.quietE (v' := .bool false) (by decide) (Q.pick_false rfl rfl) (by rfl) ?_
        refine VL.q (Q.move rfl) ?_
        refine VL.yes rfl rfl ?_
        refine VL.q (Q.move rfl) ?_
        refine VL.yes rfl rfl ?_
        refine VL.quietE (v' := .bool false) (by decide) (Q.not rfl) (by rfl) ?_
        refine VL.quietE (v' := .bool false) (by decide) (Q.pick_false rfl rfl) (by rfl) ?_
        refine VL.q (Q.move rfl) ?_
        refine VL.yes rfl rfl ?_
        refine VL.q (Q.move rfl) ?_
        refine VL.quietE (v' := .bool false) (by decide) (Q.pick_false rfl rfl) (by rfl) ?_
        refine VL.nil ?_
        refine VE.seq ?_
        refine VC.condF rfl ?_
        refine VC.skip ?_
        refine VE.seq ?_
        refine VC.seq ?_
        refine VC.seq ?_
        refine VC.region ?_
        refine VL.q (Q.assign rfl) ?_
        refine VL.nil ?_
        refine VE.seq ?_
        refine VC.block ?_
        refine VC.rounds 40 ?_
        refine VC.rnd (m := 39) ?_
        refine VC.seq ?_
        refine VC.seq ?_
        refine VC.region ?_
        refine VL.q (Q.move rfl) ?_
        refine VL.quietE (v' := .bool true) (by decide) (Q.lt rfl rfl) (by rfl) ?_
        refine VL.nil ?_
        refine VE.seq ?_
        refine VC.condT rfl ?_
        refine VC.skip ?_
        refine VE.seq ?_
        refine VC.seq ?_
        refine VC.block ?_
        refine VC.seq ?_
        refine VC.region ?_
        refine VL.q (Q.move rfl) ?_
        refine VL.eff (O.call0 ok20 rfl rfl (by decide) (space_0) (fun _ ho _ => hsl.only0 ho) ?_)
        intro x321 y321
        refine VL.q (Q.move rfl) ?_
        refine VL.q (Q.extract rfl rfl) ?_
        refine VL.q (Q.extract rfl rfl) ?_
        refine VL.q (Q.assign rfl) ?_
        refine VL.q (Q.assign rfl) ?_
        refine VL.nil ?_
        refine VE.seq ?_
        refine VC.seq ?_
        refine VC.region ?_
        refine VL.q (Q.loadA ty46 rfl zM zS) ?_
        refine VL.q (Q.move rfl) ?_
        refine VL.q (Q.move rfl) ?_
        have hcall4 := earliest_0 ((st : Int) + T) 0 hno ((st : Int) + ps + pa) (by omega)
        rw [until0] at hcall4
        refine VL.eff (O.call0 ok21 rfl rfl (by decide) (hcall4) (fun _ ho _ => hsl.only0 ho) ?_)
        intro x328 y328
        refine VL.q (Q.move rfl) ?_
        refine VL.q (Q.extract rfl rfl) ?_
        refine VL.q (Q.extract rfl rfl) ?_
        refine VL.q (Q.assign rfl) ?_
        refine VL.q (Q.assign rfl) ?_
        refine VL.nil ?_
        refine VE.seq ?_
        refine VC.seq ?_
        refine VK.keep (by exact .cons (i := 1) rfl (.cons (i := 7) rfl (.cons (i := 15) rfl (.cons (i := 16) rfl (.cons (i := 17) rfl (.cons (i := 18) rfl (.cons (i := 19) rfl (.cons (i := 20) rfl (.cons (i := 28) rfl (.cons (i := 30) rfl (.cons (i := 32) rfl (.cons (i := 36) rfl (.cons (i := 37) rfl (.cons (i := 38) rfl (.cons (i := 39) rfl (.cons (i := 40) rfl (.cons (i := 315) rfl (.cons (i := 316) rfl (.cons (i := 319) rfl (.cons (i := 320) rfl (.cons (i := 321) rfl (.cons (i := 322) rfl (.cons (i := 323) rfl (.cons (i := 324) rfl (.cons (i := 325) rfl (.cons (i := 326) rfl (.cons (i := 327) rfl (.cons (i := 328) rfl (.cons (i := 329) rfl (.cons (i := 330) rfl ( .nil))))))))))))))))))))))))))))))) ?_
        refine VC.region ?_
        refine VL.q (Q.move rfl) ?_
        refine VL.quietE (v' := .bool false) (by decide) (Q.ne rfl rfl) (by rfl) ?_
        refine VL.q (Q.move rfl) ?_
        refine VL.yes rfl rfl ?_
        refine VL.q (Q.move rfl) ?_
        refine VL.yes rfl rfl ?_
        refine VL.quietE (v' := .bool false) (by decide) (Q.ne rfl rfl) (by rfl) ?_
        refine VL.quietE (v' := .bool false) (by decide) (Q.pick_false rfl rfl) (by rfl) ?_
        refine VL.q (Q.move rfl) ?_
        refine VL.yes rfl rfl ?_
        refine VL.q (Q.move rfl) ?_
        refine VL.yes rfl rfl ?_
        refine VL.q (Q.move rfl) ?_
        refine VL.yes rfl rfl ?_
        refine VL.q (Q.move rfl) ?_
        refine VL.yes rfl rfl ?_
        refine VL.q ((by first | exact Q.addI rfl rfl (by omega) (by omega) | exact Q.add rfl rfl)) ?_
        refine VL.yes rfl rfl ?_
        refine VL.quietE (v' := .bool false) (by decide) (Q.ne rfl rfl) (neF (by split <;> omega)) ?_
        refine VL.quietE (v' := .bool false) (by decide) (Q.pick_false rfl rfl) (by rfl) ?_
        refine VL.nil ?_
        refine VE.seq ?_
        refine VC.condF rfl ?_
        refine VC.skip ?_
        refine VE.block_normal ?_
        refine VE.seq ?_
        refine VC.region ?_
        refine VL.q (Q.move rfl) ?_
        refine VL.quietE (v' := .int .u8 1) (by decide) ((by first | exact Q.addF rfl rfl (by simp only [klo]; omega) (by simp only [khi]; omega) | exact Q.addM (M := 256) rfl rfl rfl rfl)) (by rfl) ?_
        refine VL.q (Q.assign rfl) ?_
        refine VL.nil ?_
        refine VE.then_normal ?_
        refine VC.rnd (m := 38) ?_
        refine VC.seq ?_
        refine VC.seq ?_
        refine VC.region ?_
        refine VL.q (Q.move rfl) ?_
        refine VL.quietE (v' := .bool true) (by decide) (Q.lt rfl rfl) (by rfl) ?_
        refine VL.nil ?_
        refine VE.seq ?_
        refine VC.condT rfl ?_
        refine VC.skip ?_
        refine VE.seq ?_
        refine VC.seq ?_
        refine VC.block ?_
        refine VC.seq ?_
        refine VC.region ?_
        refine VL.q (Q.move rfl) ?_
        refine VL.eff (O.call0 ok20 rfl rfl (by decide) (space_1) (fun _ ho _ => hsl.only0 ho) ?_)
        intro x321_1 y321_1
        refine VL.q (Q.move rfl) ?_
        refine VL.q (Q.extract rfl rfl) ?_
        refine VL.q (Q.extract rfl rfl) ?_
        refine VL.q (Q.assign rfl) ?_
        refine VL.q (Q.assign rfl) ?_
        refine VL.nil ?_
        refine VE.seq ?_
        refine VC.seq ?_
        refine VC.region ?_
        refine VL.q (Q.loadA ty46 rfl zM zS) ?_
        refine VL.q (Q.move rfl) ?_
        refine VL.q (Q.move rfl) ?_
        have hcall4 := earliest_1 ((st : Int) + T) 0 hno ((st : Int) + ps + pa) (by omega)
        rw [until0] at hcall4
        refine VL.eff (O.call0 ok21 rfl rfl (by decide) (hcall4) (fun _ ho _ => hsl.only0 ho) ?_)
        intro x328_1 y328_1
        refine VL.q (Q.move rfl) ?_
        refine VL.q (Q.extract rfl rfl) ?_
        refine VL.q (Q.extract rfl rfl) ?_
        refine VL.q (Q.assign rfl) ?_
        refine VL.q (Q.assign rfl) ?_
        refine VL.nil ?_
        refine VE.seq ?_
        refine VC.seq ?_
        refine VC.region ?_
        refine VL.q (Q.move rfl) ?_
        refine VL.quietE (v' := .bool false) (by decide) (Q.ne rfl rfl) (by rfl) ?_
        refine VL.q (Q.move rfl) ?_
        refine VL.yes rfl rfl ?_
        refine VL.q (Q.move rfl) ?_
        refine VL.yes rfl rfl ?_
        refine VL.quietE (v' := .bool false) (by decide) (Q.ne rfl rfl) (by rfl) ?_
        refine VL.quietE (v' := .bool false) (by decide) (Q.pick_false rfl rfl) (by rfl) ?_
        refine VL.q (Q.move rfl) ?_
        refine VL.yes rfl rfl ?_
        refine VL.q (Q.move rfl) ?_
        refine VL.yes rfl rfl ?_
        refine VL.q (Q.move rfl) ?_
        refine VL.yes rfl rfl ?_
        refine VL.q (Q.move rfl) ?_
        refine VL.yes rfl rfl ?_
        refine VL.q ((by first | exact Q.addI rfl rfl (by omega) (by omega) | exact Q.add rfl rfl)) ?_
        refine VL.yes rfl rfl ?_
        refine VL.quietE (v' := .bool false) (by decide) (Q.ne rfl rfl) (neF (by split <;> omega)) ?_
        refine VL.quietE (v' := .bool false) (by decide) (Q.pick_false rfl rfl) (by rfl) ?_
        refine VL.nil ?_
        refine VE.seq ?_
        refine VC.condF rfl ?_
        refine VC.skip ?_
        refine VE.block_normal ?_
        refine VE.seq ?_
        refine VC.region ?_
        refine VL.q (Q.move rfl) ?_
        refine VL.quietE (v' := .int .u8 2) (by decide) ((by first | exact Q.addF rfl rfl (by simp only [klo]; omega) (by simp only [khi]; omega) | exact Q.addM (M := 256) rfl rfl rfl rfl)) (by rfl) ?_
        refine VL.q (Q.assign rfl) ?_
        refine VL.nil ?_
        refine VE.then_normal ?_
        refine VC.rnd (m := 37) ?_
        refine VC.seq ?_
        refine VC.seq ?_
        refine VC.region ?_
        refine VL.q (Q.move rfl) ?_
        refine VL.quietE (v' := .bool true) (by decide) (Q.lt rfl rfl) (by rfl) ?_
        refine VL.nil ?_
        refine VE.seq ?_
        refine VC.condT rfl ?_
        refine VC.skip ?_
        refine VE.seq ?_
        refine VC.seq ?_
        refine VC.block ?_
        refine VC.seq ?_
        refine VC.region ?_
        refine VL.q (Q.move rfl) ?_
        refine VL.eff (O.call0 ok20 rfl rfl (by decide) (space_2) (fun _ ho _ => hsl.only0 ho) ?_)
        intro x321_2 y321_2
        refine VL.q (Q.move rfl) ?_
        refine VL.q (Q.extract rfl rfl) ?_
        refine VL.q (Q.extract rfl rfl) ?_
        refine VL.q (Q.assign rfl) ?_
        refine VL.q (Q.assign rfl) ?_
        refine VL.nil ?_
        refine VE.seq ?_
        refine VC.seq ?_
        refine VC.region ?_
        refine VL.q (Q.loadA ty46 rfl zM zS) ?_
        refine VL.q (Q.move rfl) ?_
        refine VL.q (Q.move rfl) ?_
        have hcall4 := earliest_2 ((st : Int) + T) 0 hno ((st : Int) + ps + pa) (by omega)
        rw [until0] at hcall4
        refine VL.eff (O.call0 ok21 rfl rfl (by decide) (hcall4) (fun _ ho _ => hsl.only0 ho) ?_)
        intro x328_2 y328_2
        refine VL.q (Q.move rfl) ?_
        refine VL.q (Q.extract rfl rfl) ?_
        refine VL.q (Q.extract rfl rfl) ?_
        refine VL.q (Q.assign rfl) ?_
        refine VL.q (Q.assign rfl) ?_
        refine VL.nil ?_
        refine VE.seq ?_
        refine VC.seq ?_
        refine VC.region ?_
        refine VL.q (Q.move rfl) ?_
        refine VL.quietE (v' := .bool false) (by decide) (Q.ne rfl rfl) (by rfl) ?_
        refine VL.q (Q.move rfl) ?_
        refine VL.yes rfl rfl ?_
        refine VL.q (Q.move rfl) ?_
        refine VL.yes rfl rfl ?_
        refine VL.quietE (v' := .bool false) (by decide) (Q.ne rfl rfl) (by rfl) ?_
        refine VL.quietE (v' := .bool false) (by decide) (Q.pick_false rfl rfl) (by rfl) ?_
        refine VL.q (Q.move rfl) ?_
        refine VL.yes rfl rfl ?_
        refine VL.q (Q.move rfl) ?_
        refine VL.yes rfl rfl ?_
        refine VL.q (Q.move rfl) ?_
        refine VL.yes rfl rfl ?_
        refine VL.q (Q.move rfl) ?_
        refine VL.yes rfl rfl ?_
        refine VL.q ((by first | exact Q.addI rfl rfl (by omega) (by omega) | exact Q.add rfl rfl)) ?_
        refine VL.yes rfl rfl ?_
        refine VL.quietE (v' := .bool false) (by decide) (Q.ne rfl rfl) (neF (by split <;> omega)) ?_
        refine VL.quietE (v' := .bool false) (by decide) (Q.pick_false rfl rfl) (by rfl) ?_
        refine VL.nil ?_
        refine VE.seq ?_
        refine VC.condF rfl ?_
        refine VC.skip ?_
        refine VE.block_normal ?_
        refine VE.seq ?_
        refine VC.region ?_
        refine VL.q (Q.move rfl) ?_
        refine VL.quietE (v' := .int .u8 3) (by decide) ((by first | exact Q.addF rfl rfl (by simp only [klo]; omega) (by simp only [khi]; omega) | exact Q.addM (M := 256) rfl rfl rfl rfl)) (by rfl) ?_
        refine VL.q (Q.assign rfl) ?_
        refine VL.nil ?_
        refine VE.then_normal ?_
        refine VC.rnd (m := 36) ?_
        refine VC.seq ?_
        refine VC.seq ?_
        refine VC.region ?_
        refine VL.q (Q.move rfl) ?_
        refine VL.quietE (v' := .bool true) (by decide) (Q.lt rfl rfl) (by rfl) ?_
        refine VL.nil ?_
        refine VE.seq ?_
        refine VC.condT rfl ?_
        refine VC.skip ?_
        refine VE.seq ?_
        refine VC.seq ?_
        refine VC.block ?_
        refine VC.seq ?_
        refine VC.region ?_
        refine VL.q (Q.move rfl) ?_
        refine VL.eff (O.call0 ok20 rfl rfl (by decide) (space_3) (fun _ ho _ => hsl.only0 ho) ?_)
        intro x321_3 y321_3
        refine VL.q (Q.move rfl) ?_
        refine VL.q (Q.extract rfl rfl) ?_
        refine VL.q (Q.extract rfl rfl) ?_
        refine VL.q (Q.assign rfl) ?_
        refine VL.q (Q.assign rfl) ?_
        refine VL.nil ?_
        refine VE.seq ?_
        refine VC.seq ?_
        refine VC.region ?_
        refine VL.q (Q.loadA ty46 rfl zM zS) ?_
        refine VL.q (Q.move rfl) ?_
        refine VL.q (Q.move rfl) ?_
        have hcall4 := earliest_3 ((st : Int) + T) 0 hno ((st : Int) + ps + pa) (by omega)
        rw [until0] at hcall4
        refine VL.eff (O.call0 ok21 rfl rfl (by decide) (hcall4) (fun _ ho _ => hsl.only0 ho) ?_)
        intro x328_3 y328_3
        refine VL.q (Q.move rfl) ?_
        refine VL.q (Q.extract rfl rfl) ?_
        refine VL.q (Q.extract rfl rfl) ?_
        refine VL.q (Q.assign rfl) ?_
        refine VL.q (Q.assign rfl) ?_
        refine VL.nil ?_
        refine VE.seq ?_
        refine VC.seq ?_
        refine VC.region ?_
        refine VL.q (Q.move rfl) ?_
        refine VL.quietE (v' := .bool false) (by decide) (Q.ne rfl rfl) (by rfl) ?_
        refine VL.q (Q.move rfl) ?_
        refine VL.yes rfl rfl ?_
        refine VL.q (Q.move rfl) ?_
        refine VL.yes rfl rfl ?_
        refine VL.quietE (v' := .bool false) (by decide) (Q.ne rfl rfl) (by rfl) ?_
        refine VL.quietE (v' := .bool false) (by decide) (Q.pick_false rfl rfl) (by rfl) ?_
        refine VL.q (Q.move rfl) ?_
        refine VL.yes rfl rfl ?_
        refine VL.q (Q.move rfl) ?_
        refine VL.yes rfl rfl ?_
        refine VL.q (Q.move rfl) ?_
        refine VL.yes rfl rfl ?_
        refine VL.q (Q.move rfl) ?_
        refine VL.yes rfl rfl ?_
        refine VL.q ((by first | exact Q.addI rfl rfl (by omega) (by omega) | exact Q.add rfl rfl)) ?_
        refine VL.yes rfl rfl ?_
        refine VL.quietE (v' := .bool false) (by decide) (Q.ne rfl rfl) (neF (by split <;> omega)) ?_
        refine VL.quietE (v' := .bool false) (by decide) (Q.pick_false rfl rfl) (by rfl) ?_
        refine VL.nil ?_
        refine VE.seq ?_
        refine VC.condF rfl ?_
        refine VC.skip ?_
        refine VE.block_normal ?_
        refine VE.seq ?_
        refine VC.region ?_
        refine VL.q (Q.move rfl) ?_
        refine VL.quietE (v' := .int .u8 4) (by decide) ((by first | exact Q.addF rfl rfl (by simp only [klo]; omega) (by simp only [khi]; omega) | exact Q.addM (M := 256) rfl rfl rfl rfl)) (by rfl) ?_
        refine VL.q (Q.assign rfl) ?_
        refine VL.nil ?_
        refine VE.then_normal ?_
        refine VC.rnd (m := 35) ?_
        refine VC.seq ?_
        refine VC.seq ?_
        refine VC.region ?_
        refine VL.q (Q.move rfl) ?_
        refine VL.quietE (v' := .bool false) (by decide) (Q.lt rfl rfl) (by rfl) ?_
        refine VL.nil ?_
        refine VE.seq ?_
        refine VC.condF rfl ?_
        refine VC.exit ?_
        refine VE.then_exit ?_
        refine VE.then_exit ?_
        refine VE.block_here ?_
        refine VE.seq ?_
        refine VC.region ?_
        refine VL.q (Q.loadA ty46 rfl zM zS) ?_
        refine VL.eff (O.store ty46 rfl rfl rfl rfl zU zP ?_)
        refine VL.nil ?_
        exact VE.give zE zB hn

theorem round_3 (W0 : World) (hsub : Subs W0) (hsl : Rd W0 (some ⟨1, 0, none⟩) [.int .i64 7, .int .i64 3, .int .i64 2, .int .i64 2]) (hl : List Bool) (p2 : Option Addr) (c2 : Nat) (hrh : Rd W0 p2 (bls hl)) (x0 x1 x2 x3 x4 x5 v15 : Value) (R : Rs) (st : Nat) (T A : Int) (k : Nat) (u l : Int) (pi : Nat) (ps pa : Int) (D : Nat) (g1 g17 g19 g21 : Nat) (hst : st ≤ 4294967295) (hps : 0 ≤ ps) (hpa : 1 ≤ pa) (hsum : ps + pa + D = T) (hD : D ≤ 32767) (hT : T ≤ 2000000) (hA : 1 ≤ A ∧ A ≤ 32767) (hnv : navI ((st : Int) + T) k u l) (QQ : Exit → Act → World → Prop) (hS : Still QQ) (hn : VK W0 (List.flatMap Rs.ids []) 347 (fun a W => QQ .normal a W) [(1, .pointer (some ⟨g1, 0, none⟩)), (7, .int .i64 A), (15, v15), (16, .int .i64 (st : Int)), (17, .pointer (some ⟨g17, 0, none⟩)), (18, .int .i64 ((st : Int) + T)), (19, .pointer (some ⟨g19, 0, none⟩)), (20, .int .i64 (k : Int))] [.blk g19 [.int .i64 ((st : Int) + T), .int .i64 0] 46, .blk g17 [.int .u8 2, .int .u8 0, .int .u8 0, .int .u8 0, .int .u8 0, .int .u8 3] 43, R, .blk g1 [x0, x1, x2, x3, x4, x5, .slice p2 hl.length c2] 27]) (hc : VK W0 (List.flatMap Rs.ids []) 347 (fun a W => QQ (.exit 3) a W) [(1, .pointer (some ⟨g1, 0, none⟩)), (7, .int .i64 A), (15, v15), (16, .int .i64 (st : Int)), (17, .pointer (some ⟨g17, 0, none⟩)), (18, .int .i64 ((st : Int) + T)), (19, .pointer (some ⟨g19, 0, none⟩)), (20, .int .i64 (k : Int))] [.blk g19 [.int .i64 u, .int .i64 l] 46, .blk g17 [.int .u8 2, .int .u8 0, .int .u8 0, .int .u8 0, .int .u8 0, .int .u8 3] 43, R, .blk g1 [x0, x1, x2, x3, x4, x5, .slice p2 hl.length c2] 27]) :
    VK W0 (List.flatMap Rs.ids []) 347 ((bodyAt Tryd.f4 [1, 1, 1, 1, 1, 1, 1, 1, 1, 1, 1, 1, 1, 1, 0, 1, 0, 0, 1, 0, 0, 1]).wp Tryd.prog QQ) [(1, .pointer (some ⟨g1, 0, none⟩)), (7, .int .i64 A), (15, v15), (16, .int .i64 (st : Int)), (17, .pointer (some ⟨g17, 0, none⟩)), (18, .int .i64 ((st : Int) + T)), (19, .pointer (some ⟨g19, 0, none⟩)), (20, .int .i64 (k : Int)), (21, .pointer (some ⟨g21, 0, none⟩))] [.blk g21 [.int .u8 3, .bool false, .int .i64 (pi : Int), .int .i64 ps, .int .i64 pa, .int .i64 (D : Int)] 48, .blk g19 [.int .i64 u, .int .i64 l] 46, .blk g17 [.int .u8 2, .int .u8 0, .int .u8 0, .int .u8 0, .int .u8 0, .int .u8 3] 43, R, .blk g1 [x0, x1, x2, x3, x4, x5, .slice p2 hl.length c2] 27] := by
  have hnx := hear_law (ans := A) false hnv ((fun h => by cases h)) (show ((st : Int) + ps + pa) + (D : Int) = ((st : Int) + T) by omega) (by omega) (by omega) (by omega)
  obtain ⟨hnU, hnL⟩ := hnx
  rw [if_neg (by decide)] at hnL
  refine VC.seqJ (X := Nat) (fun z => [(1, .pointer (some ⟨g1, 0, none⟩)), (7, .int .i64 A), (15, v15), (16, .int .i64 (st : Int)), (17, .pointer (some ⟨g17, 0, none⟩)), (18, .int .i64 ((st : Int) + T)), (19, .pointer (some ⟨g19, 0, none⟩)), (20, .int .i64 (k : Int)), (21, .pointer (some ⟨g21, 0, none⟩)), (22, .pointer (some ⟨z, 0, none⟩)), (23, .int .i64 0)]) (fun z => [.blk z [.int .u8 1, .int .u8 12, .bool false, .bool false, .bool false, .bool false, .bool false, .bool false, .bool false, .int .i64 (D : Int), .int .u8 2, .int .u8 0, .int .u8 0, .int .u8 0, .int .u8 0, .int .u8 2, .int .u8 0, .int .u8 0, .int .u8 0, .int .u8 0, .int .u8 0, .int .u8 0, .int .u8 0, .int .u8 0, .int .u8 0, .int .u8 0, .int .u8 0, .int .u8 0, .int .u8 0, .int .u8 0, .int .u8 0, .int .u8 0, .int .u8 0, .int .u8 0, .int .i64 0, .int .i64 0, .int .i64 0, .int .u8 0, .bool false, .bool false] 50, .blk g21 [.int .u8 3, .bool false, .int .i64 (pi : Int), .int .i64 ps, .int .i64 pa, .int .i64 (D : Int)] 48, .blk g19 [.int .i64 u, .int .i64 l] 46, .blk g17 [.int .u8 2, .int .u8 0, .int .u8 0, .int .u8 0, .int .u8 0, .int .u8 3] 43, R, .blk g1 [x0, x1, x2, x3, x4, x5, .slice p2 hl.length c2] 27]) (fun z => True) ?_ ?_
  · skip
    refine VA.start (Ls := [.blk g21 [.int .u8 3, .bool false, .int .i64 (pi : Int), .int .i64 ps, .int .i64 pa, .int .i64 (D : Int)] 48]) (Cs := []) mixed ?_
    refine VA.take 0 rfl (by kernel_rfl) (by kernel_rfl) (by kernel_rfl) (Still.then hS) (List.singleton_sublist.2 zM) Cells.nil (by decide) (Quiet.c (Q.loadA ty48 rfl zM zS)) ?_
    refine VA.all (rs := [1, 7]) (by kernel_rfl) (by simp) ?_
    refine VA.forall2 ?_ ?_
    · skip
      refine VA.eff rfl ?_
      refine id (O.call0 ok13 rfl rfl (by decide) (station_c) (fun _ _ _ => trivial) ?_)
      intro x155 y155
      refine VA.next (List.singleton_sublist.2 zM) Cells.nil ?_
      refine VA.all (rs := [2, 7]) (by kernel_rfl) (by simp) ?_
      refine VA.forall2 ?_ ?_
      · skip
        refine VA.eff rfl ?_
        refine id (O.call0 ok14 rfl rfl (by decide) (point_c) (fun _ _ _ => trivial) ?_)
        intro x156 y156
        refine VA.next (List.singleton_sublist.2 zM) Cells.nil ?_
        refine VA.all (rs := [3, 7]) (by kernel_rfl) (by simp) ?_
        refine VA.forall2 ?_ ?_
        · skip
          refine VA.eff rfl ?_
          refine id (O.call0 ok12 rfl rfl (by decide) (xheader_3 pi ps pa D hD) (fun _ ho _ => hsub.only ho) ?_)
          intro x157 y157
          refine VA.next (List.singleton_sublist.2 zM) Cells.nil ?_
          refine VA.take 4 rfl (by kernel_rfl) (by kernel_rfl) (by kernel_rfl) (Still.then hS) (List.singleton_sublist.2 zM) Cells.nil (by decide) (Quiet.c (Q.move rfl)) ?_
          refine VA.take 5 rfl (by kernel_rfl) (by kernel_rfl) (by kernel_rfl) (Still.then hS) (List.singleton_sublist.2 zM) Cells.nil (by decide) (Quiet.c (Q.extract rfl rfl)) ?_
          refine VA.take 6 rfl (by kernel_rfl) (by kernel_rfl) (by kernel_rfl) (Still.then hS) (List.singleton_sublist.2 zM) Cells.nil (by decide) (Quiet.c (Q.extract rfl rfl)) ?_
          refine VA.all (rs := [7]) (by kernel_rfl) (by simp) ?_
          refine VA.forall1 ?_
          · skip
            refine VA.eff rfl ?_
            refine id (O.alloc zo50 (by decide) ?_)
            intro g22
            refine VA.next (List.singleton_sublist.2 zM) Cells.nil ?_
            refine VA.all (rs := [8]) (by kernel_rfl) (by simp) ?_
            refine VA.forall1 ?_
            · skip
              refine VA.eff rfl ?_
              refine id (O.store ty50 rfl rfl rfl rfl zU zP ?_)
              refine VA.next (List.singleton_sublist.2 zM) Cells.nil ?_
              refine VA.take 9 rfl (by kernel_rfl) (by kernel_rfl) (by kernel_rfl) (Still.then hS) (List.singleton_sublist.2 zM) Cells.nil (by decide) (Quiet.c (Q.assign rfl)) ?_
              refine VA.done (by kernel_rfl) ?_
              refine VE.then_normal ?_
              exact VE.meetP g22 trivial zE zKs
        · skip
          refine VA.eff rfl ?_
          refine id (O.alloc zo50 (by decide) ?_)
          intro g22_1
          refine VA.next (List.singleton_sublist.2 zM) Cells.nil ?_
          refine VA.all (rs := [3]) (by kernel_rfl) (by simp) ?_
          refine VA.forall1 ?_
          · skip
            refine VA.eff rfl ?_
            refine id (O.call0 ok12 rfl rfl (by decide) (xheader_3 pi ps pa D hD) (fun _ ho _ => hsub.only ho) ?_)
            intro x157_1 y157_1
            refine VA.next (List.singleton_sublist.2 zM) Cells.nil ?_
            refine VA.take 4 rfl (by kernel_rfl) (by kernel_rfl) (by kernel_rfl) (Still.then hS) (List.singleton_sublist.2 zM) Cells.nil (by decide) (Quiet.c (Q.move rfl)) ?_
            refine VA.take 5 rfl (by kernel_rfl) (by kernel_rfl) (by kernel_rfl) (Still.then hS) (List.singleton_sublist.2 zM) Cells.nil (by decide) (Quiet.c (Q.extract rfl rfl)) ?_
            refine VA.take 6 rfl (by kernel_rfl) (by kernel_rfl) (by kernel_rfl) (Still.then hS) (List.singleton_sublist.2 zM) Cells.nil (by decide) (Quiet.c (Q.extract rfl rfl)) ?_
            refine VA.all (rs := [8]) (by kernel_rfl) (by simp) ?_
            refine VA.forall1 ?_
            · skip
              refine VA.eff rfl ?_
              refine id (O.store ty50 rfl rfl rfl rfl zU zP ?_)
              refine VA.next (List.singleton_sublist.2 zM) Cells.nil ?_
              refine VA.take 9 rfl (by kernel_rfl) (by kernel_rfl) (by kernel_rfl) (Still.then hS) (List.singleton_sublist.2 zM) Cells.nil (by decide) (Quiet.c (Q.assign rfl)) ?_
              refine VA.done (by kernel_rfl) ?_
              refine VE.then_normal ?_
              exact VE.meetP g22_1 trivial zE zKs
      · skip
        refine VA.eff rfl ?_
        refine id (O.alloc zo50 (by decide) ?_)
        intro g22_2
        refine VA.next (List.singleton_sublist.2 zM) Cells.nil ?_
        refine VA.all (rs := [2]) (by kernel_rfl) (by simp) ?_
        refine VA.forall1 ?_
        · skip
          refine VA.eff rfl ?_
          refine id (O.call0 ok14 rfl rfl (by decide) (point_c) (fun _ _ _ => trivial) ?_)
          intro x156_1 y156_1
          refine VA.next (List.singleton_sublist.2 zM) Cells.nil ?_
          refine VA.all (rs := [3]) (by kernel_rfl) (by simp) ?_
          refine VA.forall1 ?_
          · skip
            refine VA.eff rfl ?_
            refine id (O.call0 ok12 rfl rfl (by decide) (xheader_3 pi ps pa D hD) (fun _ ho _ => hsub.only ho) ?_)
            intro x157_2 y157_2
            refine VA.next (List.singleton_sublist.2 zM) Cells.nil ?_
            refine VA.take 4 rfl (by kernel_rfl) (by kernel_rfl) (by kernel_rfl) (Still.then hS) (List.singleton_sublist.2 zM) Cells.nil (by decide) (Quiet.c (Q.move rfl)) ?_
            refine VA.take 5 rfl (by kernel_rfl) (by kernel_rfl) (by kernel_rfl) (Still.then hS) (List.singleton_sublist.2 zM) Cells.nil (by decide) (Quiet.c (Q.extract rfl rfl)) ?_
            refine VA.take 6 rfl (by kernel_rfl) (by kernel_rfl) (by kernel_rfl) (Still.then hS) (List.singleton_sublist.2 zM) Cells.nil (by decide) (Quiet.c (Q.extract rfl rfl)) ?_
            refine VA.all (rs := [8]) (by kernel_rfl) (by simp) ?_
            refine VA.forall1 ?_
            · skip
              refine VA.eff rfl ?_
              refine id (O.store ty50 rfl rfl rfl rfl zU zP ?_)
              refine VA.next (List.singleton_sublist.2 zM) Cells.nil ?_
              refine VA.take 9 rfl (by kernel_rfl) (by kernel_rfl) (by kernel_rfl) (Still.then hS) (List.singleton_sublist.2 zM) Cells.nil (by decide) (Quiet.c (Q.assign rfl)) ?_
              refine VA.done (by kernel_rfl) ?_
              refine VE.then_normal ?_
              exact VE.meetP g22_2 trivial zE zKs
    · skip
      refine VA.eff rfl ?_
      refine id (O.alloc zo50 (by decide) ?_)
      intro g22_3
      refine VA.next (List.singleton_sublist.2 zM) Cells.nil ?_
      refine VA.all (rs := [1]) (by kernel_rfl) (by simp) ?_
      refine VA.forall1 ?_
      · skip
        refine VA.eff rfl ?_
        refine id (O.call0 ok13 rfl rfl (by decide) (station_c) (fun _ _ _ => trivial) ?_)
        intro x155_1 y155_1
        refine VA.next (List.singleton_sublist.2 zM) Cells.nil ?_
        refine VA.all (rs := [2]) (by kernel_rfl) (by simp) ?_
        refine VA.forall1 ?_
        · skip
          refine VA.eff rfl ?_
          refine id (O.call0 ok14 rfl rfl (by decide) (point_c) (fun _ _ _ => trivial) ?_)
          intro x156_2 y156_2
          refine VA.next (List.singleton_sublist.2 zM) Cells.nil ?_
          refine VA.all (rs := [3]) (by kernel_rfl) (by simp) ?_
          refine VA.forall1 ?_
          · skip
            refine VA.eff rfl ?_
            refine id (O.call0 ok12 rfl rfl (by decide) (xheader_3 pi ps pa D hD) (fun _ ho _ => hsub.only ho) ?_)
            intro x157_3 y157_3
            refine VA.next (List.singleton_sublist.2 zM) Cells.nil ?_
            refine VA.take 4 rfl (by kernel_rfl) (by kernel_rfl) (by kernel_rfl) (Still.then hS) (List.singleton_sublist.2 zM) Cells.nil (by decide) (Quiet.c (Q.move rfl)) ?_
            refine VA.take 5 rfl (by kernel_rfl) (by kernel_rfl) (by kernel_rfl) (Still.then hS) (List.singleton_sublist.2 zM) Cells.nil (by decide) (Quiet.c (Q.extract rfl rfl)) ?_
            refine VA.take 6 rfl (by kernel_rfl) (by kernel_rfl) (by kernel_rfl) (Still.then hS) (List.singleton_sublist.2 zM) Cells.nil (by decide) (Quiet.c (Q.extract rfl rfl)) ?_
            refine VA.all (rs := [8]) (by kernel_rfl) (by simp) ?_
            refine VA.forall1 ?_
            · skip
              refine VA.eff rfl ?_
              refine id (O.store ty50 rfl rfl rfl rfl zU zP ?_)
              refine VA.next (List.singleton_sublist.2 zM) Cells.nil ?_
              refine VA.take 9 rfl (by kernel_rfl) (by kernel_rfl) (by kernel_rfl) (Still.then hS) (List.singleton_sublist.2 zM) Cells.nil (by decide) (Quiet.c (Q.assign rfl)) ?_
              refine VA.done (by kernel_rfl) ?_
              refine VE.then_normal ?_
              exact VE.meetP g22_3 trivial zE zKs
  · intro gz _
    refine VC.seq ?_
    refine VC.region ?_
    refine VL.q (Q.loadA ty50 rfl zM zS) ?_
    refine VL.q (Q.build lay58 zF) ?_
    refine VL.eff (O.call0 ok15 rfl rfl (by decide) (encode_cts D hD) (fun _ _ _ => trivial) ?_)
    intro x163 y163
    refine VL.q (Q.move rfl) ?_
    refine VL.q (Q.extract rfl rfl) ?_
    refine VL.q (Q.extract rfl rfl) ?_
    refine VL.q (Q.assign rfl) ?_
    refine VL.q (Q.assign rfl) ?_
    refine VL.nil ?_
    refine VE.seq ?_
    refine VC.seq ?_
    refine VC.region ?_
    refine VL.q (Q.move rfl) ?_
    refine VL.eff (O.call0 ok16 rfl rfl (by decide) (decode_cts D hD _ _ (by omega)) (fun _ _ hw => Rd.row hw zM) ?_)
    intro x168 y168
    refine VL.q (Q.move rfl) ?_
    refine VL.q (Q.extract rfl rfl) ?_
    refine VL.q (Q.extract rfl rfl) ?_
    refine VL.eff (O.alloc zo58 (by decide) ?_)
    intro g26
    refine VL.eff (O.store ty58 rfl rfl rfl rfl zU zP ?_)
    refine VL.q (Q.assign rfl) ?_
    refine VL.nil ?_
    refine VE.seq ?_
    refine VC.seq ?_
    refine VC.region ?_
    refine VL.q (Q.move rfl) ?_
    refine VL.q (Q.fieldAddr fa48_3 rfl) ?_
    refine VL.q (Q.load1 ty3 rfl zM rfl) ?_
    refine VL.q ((by first | exact Q.addI rfl rfl (by omega) (by omega) | exact Q.add rfl rfl)) ?_
    refine VL.q (Q.fieldAddr fa48_4 rfl) ?_
    refine VL.q (Q.load1 ty3 rfl zM rfl) ?_
    refine VL.q ((by first | exact Q.addI rfl rfl (by omega) (by omega) | exact Q.add rfl rfl)) ?_
    refine VL.q (Q.assign rfl) ?_
    refine VL.nil ?_
    refine VE.seq ?_
    refine VC.seq ?_
    refine VC.seq ?_
    refine VC.region ?_
    refine VL.q (Q.move rfl) ?_
    refine VL.quietE (v' := .bool false) (by decide) (Q.ne rfl rfl) (by rfl) ?_
    refine VL.q (Q.move rfl) ?_
    refine VL.yes rfl rfl ?_
    refine VL.q (Q.move rfl) ?_
    refine VL.yes rfl rfl ?_
    refine VL.quietE (v' := .bool false) (by decide) (Q.ne rfl rfl) (by rfl) ?_
    refine VL.quietE (v' := .bool false) (by decide) (Q.pick_false rfl rfl) (by rfl) ?_
    refine VL.q (Q.move rfl) ?_
    refine VL.yes rfl rfl ?_
    refine VL.q (Q.move rfl) ?_
    refine VL.yes rfl rfl ?_
    refine VL.quietE (v' := .bool false) (by decide) (Q.ne rfl rfl) (by rfl) ?_
    refine VL.quietE (v' := .bool false) (by decide) (Q.pick_false rfl rfl) (by rfl) ?_
    refine VL.q (Q.move rfl) ?_
    refine VL.yes rfl rfl ?_
    refine VL.q (Q.fieldAddr fa58_0 rfl) ?_
    refine VL.yes rfl rfl ?_
    refine VL.q (Q.loadA ty50 rfl zM zS) ?_
    refine VL.yes rfl rfl ?_
    refine VL.q (Q.loadA ty50 rfl zM zS) ?_
    refine VL.yes rfl rfl ?_
    refine VL.quietE (v' := .bool false) (by decide) (Q.neS flt50 (by decide) ty50 eg50 rfl rfl rfl rfl) (by simp [vsEq, vEq]) ?_
    refine VL.quietE (v' := .bool false) (by decide) (Q.pick_false rfl rfl) (by rfl) ?_
    refine VL.q (Q.move rfl) ?_
    refine VL.yes rfl rfl ?_
    refine VL.q (Q.fieldAddr fa58_1 rfl) ?_
    refine VL.yes rfl rfl ?_
    refine VL.q (Q.load1 ty54 rfl zM rfl) ?_
    refine VL.yes rfl rfl ?_
    refine VL.q (Q.len sl54 rfl) ?_
    refine VL.yes rfl rfl ?_
    refine VL.quietE (v' := .bool false) (by decide) (Q.gt rfl rfl) (by rfl) ?_
    refine VL.quietE (v' := .bool false) (by decide) (Q.pick_false rfl rfl) (by rfl) ?_
    refine VL.q (Q.move rfl) ?_
    refine VL.yes rfl rfl ?_
    refine VL.q (Q.move rfl) ?_
    refine VL.yes rfl rfl ?_
    refine VL.q (Q.fieldAddr fa50_9 rfl) ?_
    refine VL.yes rfl rfl ?_
    refine VL.q (Q.load1 ty3 rfl zM rfl) ?_
    refine VL.yes rfl rfl ?_
    refine VL.q ((by first | exact Q.addI rfl rfl (by omega) (by omega) | exact Q.add rfl rfl)) ?_
    refine VL.yes rfl rfl ?_
    refine VL.q (Q.move rfl) ?_
    refine VL.yes rfl rfl ?_
    refine VL.quietE (v' := .bool false) (by decide) (Q.ne rfl rfl) (neF (by omega)) ?_
    refine VL.quietE (v' := .bool false) (by decide) (Q.pick_false rfl rfl) (by rfl) ?_
    refine VL.nil ?_
    refine VE.seq ?_
    refine VC.condF rfl ?_
    refine VC.skip ?_
    refine VE.seq ?_
    refine VC.seq ?_
    refine VK.keep (by exact .cons (i := 1) rfl (.cons (i := 7) rfl (.cons (i := 15) rfl (.cons (i := 16) rfl (.cons (i := 17) rfl (.cons (i := 18) rfl (.cons (i := 19) rfl (.cons (i := 20) rfl (.cons (i := 21) rfl (.cons (i := 22) rfl (.cons (i := 23) rfl (.cons (i := 25) rfl (.cons (i := 26) rfl (.cons (i := 28) rfl ( .nil))))))))))))))) ?_
    refine VC.region ?_
    refine VL.q (Q.build lay46 zF) ?_
    refine VL.q (Q.fieldAddr fa50_10 rfl) ?_
    refine VL.q (Q.loadA ty43 rfl zM zS) ?_
    refine VL.q (Q.fieldAddr fa58_0 rfl) ?_
    refine VL.q (Q.loadA ty50 rfl zM zS) ?_
    refine VL.q (Q.move rfl) ?_
    refine VL.q (Q.move rfl) ?_
    refine VL.eff (O.call0 ok17 rfl rfl (by decide) (own_cts D hD ((st : Int) + ps + pa) (A) (by omega) (by omega)) (fun _ _ _ => trivial) ?_)
    intro x216 y216
    refine VL.q (Q.move rfl) ?_
    refine VL.q (Q.extract rfl rfl) ?_
    refine VL.q (Q.extract rfl rfl) ?_
    refine VL.eff (O.alloc zo46 (by decide) ?_)
    intro g29
    refine VL.eff (O.store ty46 rfl rfl rfl rfl zU zP ?_)
    refine VL.q (Q.assign rfl) ?_
    refine VL.nil ?_
    refine VE.seq ?_
    refine VC.seq ?_
    refine VC.seq ?_
    refine VC.region ?_
    refine VL.q (Q.move rfl) ?_
    refine VL.quietE (v' := .bool false) (by decide) (Q.ne rfl rfl) (by rfl) ?_
    refine VL.q (Q.move rfl) ?_
    refine VL.yes rfl rfl ?_
    refine VL.q (Q.loadA ty46 rfl zM zS) ?_
    refine VL.yes rfl rfl ?_
    refine VL.q (Q.build lay46 zF) ?_
    refine VL.yes rfl rfl ?_
    refine VL.quietE (v' := .bool false) (by decide) (Q.neS flt46 (by decide) ty46 eg46 rfl rfl rfl rfl) (by rfl) ?_
    refine VL.quietE (v' := .bool false) (by decide) (Q.pick_false rfl rfl) (by rfl) ?_
    refine VL.nil ?_
    refine VE.seq ?_
    refine VC.condF rfl ?_
    refine VC.skip ?_
    refine VE.seq ?_
    refine VC.seq ?_
    refine VC.seqJ (X := Unit) (fun _z => [(238, .bool (heardP hl k)), (1, .pointer (some ⟨g1, 0, none⟩)), (7, .int .i64 A), (15, v15), (16, .int .i64 (st : Int)), (17, .pointer (some ⟨g17, 0, none⟩)), (18, .int .i64 ((st : Int) + T)), (19, .pointer (some ⟨g19, 0, none⟩)), (20, .int .i64 (k : Int)), (21, .pointer (some ⟨g21, 0, none⟩)), (26, .pointer (some ⟨g26, 0, none⟩)), (28, .int .i64 ((st : Int) + ps + pa))]) (fun _z => [.blk g26 [.int .u8 1, .int .u8 12, .bool false, .bool false, .bool false, .bool false, .bool false, .bool false, .bool false, .int .i64 (D : Int), .int .u8 2, .int .u8 0, .int .u8 0, .int .u8 0, .int .u8 0, .int .u8 2, .int .u8 0, .int .u8 0, .int .u8 0, .int .u8 0, .int .u8 0, .int .u8 0, .int .u8 0, .int .u8 0, .int .u8 0, .int .u8 0, .int .u8 0, .int .u8 0, .int .u8 0, .int .u8 0, .int .u8 0, .int .u8 0, .int .u8 0, .int .u8 0, .int .i64 0, .int .i64 0, .int .i64 0, .int .u8 0, .bool false, .bool false, .slice (some ⟨x168, 0, none⟩) 0 0] 58, .blk g21 [.int .u8 3, .bool false, .int .i64 (pi : Int), .int .i64 ps, .int .i64 pa, .int .i64 (D : Int)] 48, .blk g19 [.int .i64 u, .int .i64 l] 46, .blk g17 [.int .u8 2, .int .u8 0, .int .u8 0, .int .u8 0, .int .u8 0, .int .u8 3] 43, R, .blk g1 [x0, x1, x2, x3, x4, x5, .slice p2 hl.length c2] 27]) (fun _z => True) ?_ ?_
    · skip
      refine VC.region ?_
      refine VL.q (Q.move rfl) ?_
      refine VL.q (Q.fieldAddr fa27_6 rfl) ?_
      refine VL.q (Q.load1 ty25 rfl zM rfl) ?_
      refine VL.q (Q.len sl25 rfl) ?_
      refine VL.q (Q.lt rfl rfl) ?_
      refine VL.q (Q.move rfl) ?_
      refine VK.case 231 rfl ?_ ?_
      · intro h231
        have hlk : k < hl.length := by have := of_decide_eq_true h231; omega
        obtain ⟨b1, o1, rfl, hc1⟩ := hrh k _ (bls_get hl k hlk)
        refine VL.yes rfl rfl ?_
        refine VL.q (Q.fieldAddr fa27_6 rfl) ?_
        refine VL.yes rfl rfl ?_
        refine VL.q (Q.load1 ty25 rfl zM rfl) ?_
        refine VL.yes rfl rfl ?_
        refine VL.q (Q.move rfl) ?_
        refine VL.yes rfl rfl ?_
        refine VL.q (Q.indexAddr sl25 (j := k) rfl rfl rfl hlk) ?_
        refine VL.yes rfl rfl ?_
        refine VL.q (Q.load0 ty4 rfl (by simpa using hc1) (by simp)) ?_
        refine VL.yes rfl rfl ?_
        refine VL.q (Q.not rfl) ?_
        refine VL.q (Q.pick_true rfl rfl) ?_
        refine VL.nil ?_
        refine VE.then_normal ?_
        exact VE.meetP () trivial (.cons (eBool (by simp [heardP, hlk])) zE) zKs
      · intro h231
        have hlk : ¬ k < hl.length := by have := of_decide_eq_false h231; omega
        refine VL.no (by simp) rfl rfl (.inl rfl) ?_
        refine VL.no (by simp) rfl rfl (.inl rfl) ?_
        refine VL.no (by simp) rfl rfl (.inl rfl) ?_
        refine VL.no (by simp) rfl rfl (.inl rfl) ?_
        refine VL.no (by simp) rfl rfl (.inl rfl) ?_
        refine VL.no (by simp) rfl rfl (.inl rfl) ?_
        refine VL.quietE (v' := .bool false) (by decide) (Q.pick_false rfl rfl) (by rfl) ?_
        refine VL.nil ?_
        refine VE.then_normal ?_
        exact VE.meetP () trivial (.cons (eBool (by simp [heardP, hlk])) zE) zKs
    · intro _ _
      refine VC.cond rfl ?_ ?_
      · intro h238
        refine VC.exit ?_
        refine VE.then_exit ?_
        exact VE.give zE zB hc
      · intro h238
        refine VC.skip ?_
        refine VE.seq ?_
        refine VC.seq ?_
        refine VC.region ?_
        refine VL.q (Q.loadA ty46 rfl zM zS) ?_
        refine VL.q (Q.loadA ty43 rfl zM zS) ?_
        refine VL.q (Q.fieldAddr fa58_0 rfl) ?_
        refine VL.q (Q.loadA ty50 rfl zM zS) ?_
        refine VL.q (Q.move rfl) ?_
        refine VL.q (Q.move rfl) ?_
        have hcall := heard_cts u l (navI_ok hnv (by omega)) D hD ((st : Int) + ps + pa) (A) (by omega) (by omega)
        rw [hnU, hnL] at hcall
        refine VL.eff (O.call0 ok17 rfl rfl (by decide) (hcall) (fun _ _ _ => trivial) ?_)
        intro x246 y246
        refine VL.q (Q.move rfl) ?_
        refine VL.q (Q.extract rfl rfl) ?_
        refine VL.q (Q.extract rfl rfl) ?_
        refine VL.eff (O.alloc zo46 (by decide) ?_)
        intro g30
        refine VL.eff (O.store ty46 rfl rfl rfl rfl zU zP ?_)
        refine VL.q (Q.assign rfl) ?_
        refine VL.nil ?_
        refine VE.seq ?_
        refine VC.seq ?_
        refine VC.region ?_
        refine VL.q (Q.loadA ty46 rfl zM zS) ?_
        have hno : navOk ((st : Int) + T) 0 := ⟨by omega, by omega⟩
        have hcall2 := until2_c ((st : Int) + T) 0 hno
        rw [until0] at hcall2
        refine VL.eff (O.call0 ok18 rfl rfl (by decide) (hcall2) (fun _ _ _ => trivial) ?_)
        intro x251 y251
        refine VL.q (Q.move rfl) ?_
        refine VL.q (Q.extract rfl rfl) ?_
        refine VL.q (Q.extract rfl rfl) ?_
        refine VL.q (Q.assign rfl) ?_
        refine VL.q (Q.assign rfl) ?_
        refine VL.nil ?_
        refine VE.seq ?_
        refine VC.seq ?_
        refine VC.region ?_
        refine VL.q (Q.move rfl) ?_
        refine VL.q (Q.assign rfl) ?_
        refine VL.q (Q.assign rfl) ?_
        refine VL.nil ?_
        refine VE.seq ?_
        refine VC.seq ?_
        refine VC.seq ?_
        refine VC.region ?_
        refine VL.q (Q.fieldAddr fa48_0 rfl) ?_
        refine VL.q (Q.load1 ty5 rfl zM rfl) ?_
        refine VL.quietE (v' := .bool false) (by decide) (Q.eq rfl rfl) (by rfl) ?_
        refine VL.nil ?_
        refine VE.seq ?_
        refine VC.condF rfl ?_
        refine VC.skip ?_
        refine VE.seq ?_
        refine VC.seq ?_
        refine VC.seq ?_
        refine VC.region ?_
        refine VL.q (Q.move rfl) ?_
        refine VL.quietE (v' := .bool false) (by decide) (Q.ne rfl rfl) (by rfl) ?_
        refine VL.q (Q.move rfl) ?_
        refine VL.yes rfl rfl ?_
        refine VL.q (Q.move rfl) ?_
        refine VL.yes rfl rfl ?_
        refine VL.quietE (v' := .bool false) (by decide) (Q.ne rfl rfl) (by rfl) ?_
        refine VL.quietE (v' := .bool false) (by decide) (Q.pick_false rfl rfl) (by rfl) ?_
        refine VL.q (Q.move rfl) ?_
        refine VL.yes rfl rfl ?_
        refine VL.q (Q.fieldAddr fa46_0 rfl) ?_
        refine VL.yes rfl rfl ?_
        refine VL.q (Q.load1 ty3 rfl zM rfl) ?_
        refine VL.yes rfl rfl ?_
        refine VL.q (Q.move rfl) ?_
        refine VL.yes rfl rfl ?_
        refine VL.quietE (v' := .bool false) (by decide) (Q.ne rfl rfl) (neF rfl) ?_
        refine VL.quietE (v' := .bool false) (by decide) (Q.pick_false rfl rfl) (by rfl) ?_
        refine VL.q (Q.move rfl) ?_
        refine VL.yes rfl rfl ?_
        refine VL.q (Q.fieldAddr fa46_1 rfl) ?_
        refine VL.yes rfl rfl ?_
        refine VL.q (Q.load1 ty3 rfl zM rfl) ?_
        refine VL.yes rfl rfl ?_
        refine VL.q (Q.move rfl) ?_
        refine VL.yes rfl rfl ?_
        refine VL.quietE (v' := .bool false) (by decide) (Q.ne rfl rfl) (neF rfl) ?_
        refine VL.quietE (v' := .bool false) (by decide) (Q.pick_false rfl rfl) (by rfl) ?_
        refine VL.q (Q.move rfl) ?_
        refine VL.yes rfl rfl ?_
        refine VL.q (Q.move rfl) ?_
        refine VL.yes rfl rfl ?_
        refine VL.q (Q.move rfl) ?_
        refine VL.yes rfl rfl ?_
        refine VL.quietE (v' := .bool false) (by decide) (Q.ne rfl rfl) (neF rfl) ?_
        refine VL.quietE (v' := .bool false) (by decide) (Q.pick_false rfl rfl) (by rfl) ?_
        refine VL.nil ?_
        refine VE.seq ?_
        refine VC.condF rfl ?_
        refine VC.skip ?_
        refine VE.seq ?_
        refine VC.seq ?_
        refine VK.keep (by exact .cons (i := 1) rfl (.cons (i := 7) rfl (.cons (i := 15) rfl (.cons (i := 16) rfl (.cons (i := 17) rfl (.cons (i := 18) rfl (.cons (i := 19) rfl (.cons (i := 20) rfl (.cons (i := 23) rfl (.cons (i := 25) rfl (.cons (i := 28) rfl (.cons (i := 30) rfl (.cons (i := 32) rfl ( .nil)))))))))))))) ?_
        refine VC.region ?_
        refine VL.q (Q.loadA ty46 rfl zM zS) ?_
        refine VL.q (Q.move rfl) ?_
        refine VL.q ((by first | exact Q.subI rfl rfl (by omega) (by omega) | exact Q.sub rfl rfl)) ?_
        have hcall3 := reserved_c ((st : Int) + T) 0 hno (((st : Int) + T) - 1) (by omega)
        rw [until0] at hcall3
        refine VL.eff (O.call0 ok19 rfl rfl (by decide) (hcall3) (fun _ _ _ => trivial) ?_)
        intro x293 y293
        refine VL.q (Q.move rfl) ?_
        refine VL.quietE (v' := .bool true) (by decide) (Q.extract rfl rfl) (congrArg Value.bool (decide_eq_true (by omega))) ?_
        refine VL.q (Q.extract rfl rfl) ?_
        refine VL.q (Q.assign rfl) ?_
        refine VL.q (Q.assign rfl) ?_
        refine VL.nil ?_
        refine VE.seq ?_
        refine VC.seq ?_
        refine VC.region ?_
        refine VL.q (Q.loadA ty46 rfl zM zS) ?_
        refine VL.q (Q.move rfl) ?_
        have hcall3 := reserved_c ((st : Int) + T) 0 hno (((st : Int) + T)) (by omega)
        rw [until0] at hcall3
        refine VL.eff (O.call0 ok19 rfl rfl (by decide) (hcall3) (fun _ _ _ => trivial) ?_)
        intro x299 y299
        refine VL.q (Q.move rfl) ?_
        refine VL.quietE (v' := .bool false) (by decide) (Q.extract rfl rfl) (congrArg Value.bool (decide_eq_false (by omega))) ?_
        refine VL.q (Q.extract rfl rfl) ?_
        refine VL.q (Q.assign rfl) ?_
        refine VL.q (Q.assign rfl) ?_
        refine VL.nil ?_
        refine VE.seq ?_
        refine VC.seq ?_
        refine VC.seq ?_
        refine VC.region ?_
        refine VL.q (Q.move rfl) ?_
        refine VL.quietE (v' := .bool false) (by decide) (Q.ne rfl rfl) (by rfl) ?_
        refine VL.q (Q.move rfl) ?_
        refine VL.yes rfl rfl ?_
        refine VL.q (Q.move rfl) ?_
        refine VL.yes rfl rfl ?_
        refine VL.quietE (v' := .bool false) (by decide) (Q.ne rfl rfl) (by rfl) ?_
        refine VL.quietE (v' := .bool false) (by decide) (Q.pick_false rfl rfl) (by rfl) ?_
        refine VL.q (Q.move rfl) ?_
        refine VL.yes rfl rfl ?_
        refine VL.q (Q.move rfl) ?_
        refine VL.yes rfl rfl ?_
        refine VL.quietE (v' := .bool false) (by decide) (Q.not rfl) (by rfl) ?_
        refine VL.quietE (v' := .bool false) (by decide) (Q.pick_false rfl rfl) (by rfl) ?_
        refine VL.q (Q.move rfl) ?_
        refine VL.yes rfl rfl ?_
        refine VL.q (Q.move rfl) ?_
        refine VL.quietE (v' := .bool false) (by decide) (Q.pick_false rfl rfl) (by rfl) ?_
        refine VL.nil ?_
        refine VE.seq ?_
        refine VC.condF rfl ?_
        refine VC.skip ?_
        refine VE.seq ?_
        refine VC.seq ?_
        refine VC.seq ?_
        refine VC.region ?_
        refine VL.q (Q.assign rfl) ?_
        refine VL.nil ?_
        refine VE.seq ?_
        refine VC.block ?_
        refine VC.rounds 40 ?_
        refine VC.rnd (m := 39) ?_
        refine VC.seq ?_
        refine VC.seq ?_
        refine VC.region ?_
        refine VL.q (Q.move rfl) ?_
        refine VL.quietE (v' := .bool true) (by decide) (Q.lt rfl rfl) (by rfl) ?_
        refine VL.nil ?_
        refine VE.seq ?_
        refine VC.condT rfl ?_
        refine VC.skip ?_
        refine VE.seq ?_
        refine VC.seq ?_
        refine VC.block ?_
        refine VC.seq ?_
        refine VC.region ?_
        refine VL.q (Q.move rfl) ?_
        refine VL.eff (O.call0 ok20 rfl rfl (by decide) (space_0) (fun _ ho _ => hsl.only0 ho) ?_)
        intro x321 y321
        refine VL.q (Q.move rfl) ?_
        refine VL.q (Q.extract rfl rfl) ?_
        refine VL.q (Q.extract rfl rfl) ?_
        refine VL.q (Q.assign rfl) ?_
        refine VL.q (Q.assign rfl) ?_
        refine VL.nil ?_
        refine VE.seq ?_
        refine VC.seq ?_
        refine VC.region ?_
        refine VL.q (Q.loadA ty46 rfl zM zS) ?_
        refine VL.q (Q.move rfl) ?_
        refine VL.q (Q.move rfl) ?_
        have hcall4 := earliest_0 ((st : Int) + T) 0 hno ((st : Int) + ps + pa) (by omega)
        rw [until0] at hcall4
        refine VL.eff (O.call0 ok21 rfl rfl (by decide) (hcall4) (fun _ ho _ => hsl.only0 ho) ?_)
        intro x328 y328
        refine VL.q (Q.move rfl) ?_
        refine VL.q (Q.extract rfl rfl) ?_
        refine VL.q (Q.extract rfl rfl) ?_
        refine VL.q (Q.assign rfl) ?_
        refine VL.q (Q.assign rfl) ?_
        refine VL.nil ?_
        refine VE.seq ?_
        refine VC.seq ?_
        refine VK.keep (by exact .cons (i := 1) rfl (.cons (i := 7) rfl (.cons (i := 15) rfl (.cons (i := 16) rfl (.cons (i := 17) rfl (.cons (i := 18) rfl (.cons (i := 19) rfl (.cons (i := 20) rfl (.cons (i := 28) rfl (.cons (i := 30) rfl (.cons (i := 32) rfl (.cons (i := 36) rfl (.cons (i := 37) rfl (.cons (i := 38) rfl (.cons (i := 39) rfl (.cons (i := 40) rfl (.cons (i := 315) rfl (.cons (i := 316) rfl (.cons (i := 319) rfl (.cons (i := 320) rfl (.cons (i := 321) rfl (.cons (i := 322) rfl (.cons (i := 323) rfl (.cons (i := 324) rfl (.cons (i := 325) rfl (.cons (i := 326) rfl (.cons (i := 327) rfl (.cons (i := 328) rfl (.cons (i := 329) rfl (.cons (i := 330) rfl ( .nil))))))))))))))))))))))))))))))) ?_
        refine VC.region ?_
        refine VL.q (Q.move rfl) ?_
        refine VL.quietE (v' := .bool false) (by decide) (Q.ne rfl rfl) (by rfl) ?_
        refine VL.q (Q.move rfl) ?_
        refine VL.yes rfl rfl ?_
        refine VL.q (Q.move rfl) ?_
        refine VL.yes rfl rfl ?_
        refine VL.quietE (v' := .bool false) (by decide) (Q.ne rfl rfl) (by rfl) ?_
        refine VL.quietE (v' := .bool false) (by decide) (Q.pick_false rfl rfl) (by rfl) ?_
        refine VL.q (Q.move rfl) ?_
        refine VL.yes rfl rfl ?_
        refine VL.q (Q.move rfl) ?_
        refine VL.yes rfl rfl ?_
        refine VL.q (Q.move rfl) ?_
        refine VL.yes rfl rfl ?_
        refine VL.q (Q.move rfl) ?_
        refine VL.yes rfl rfl ?_
        refine VL.q ((by first | exact Q.addI rfl rfl (by omega) (by omega) | exact Q.add rfl rfl)) ?_
        refine VL.yes rfl rfl ?_
        refine VL.quietE (v' := .bool false) (by decide) (Q.ne rfl rfl) (neF (by split <;> omega)) ?_
        refine VL.quietE (v' := .bool false) (by decide) (Q.pick_false rfl rfl) (by rfl) ?_
        refine VL.nil ?_
        refine VE.seq ?_
        refine VC.condF rfl ?_
        refine VC.skip ?_
        refine VE.block_normal ?_
        refine VE.seq ?_
        refine VC.region ?_
        refine VL.q (Q.move rfl) ?_
        refine VL.quietE (v' := .int .u8 1) (by decide) ((by first | exact Q.addF rfl rfl (by simp only [klo]; omega) (by simp only [khi]; omega) | exact Q.addM (M := 256) rfl rfl rfl rfl)) (by rfl) ?_
        refine VL.q (Q.assign rfl) ?_
        refine VL.nil ?_
        refine VE.then_normal ?_
        refine VC.rnd (m := 38) ?_
        refine VC.seq ?_
        refine VC.seq ?_
        refine VC.region ?_
        refine VL.q (Q.move rfl) ?_
        refine VL.quietE (v' := .bool true) (by decide) (Q.lt rfl rfl) (by rfl) ?_
        refine VL.nil ?_
        refine VE.seq ?_
        refine VC.condT rfl ?_
        refine VC.skip ?_
        refine VE.seq ?_
        refine VC.seq ?_
        refine VC.block ?_
        refine VC.seq ?_
        refine VC.region ?_
        refine VL.q (Q.move rfl) ?_
        refine VL.eff (O.call0 ok20 rfl rfl (by decide) (space_1) (fun _ ho _ => hsl.only0 ho) ?_)
        intro x321_1 y321_1
        refine VL.q (Q.move rfl) ?_
        refine VL.q (Q.extract rfl rfl) ?_
        refine VL.q (Q.extract rfl rfl) ?_
        refine VL.q (Q.assign rfl) ?_
        refine VL.q (Q.assign rfl) ?_
        refine VL.nil ?_
        refine VE.seq ?_
        refine VC.seq ?_
        refine VC.region ?_
        refine VL.q (Q.loadA ty46 rfl zM zS) ?_
        refine VL.q (Q.move rfl) ?_
        refine VL.q (Q.move rfl) ?_
        have hcall4 := earliest_1 ((st : Int) + T) 0 hno ((st : Int) + ps + pa) (by omega)
        rw [until0] at hcall4
        refine VL.eff (O.call0 ok21 rfl rfl (by decide) (hcall4) (fun _ ho _ => hsl.only0 ho) ?_)
        intro x328_1 y328_1
        refine VL.q (Q.move rfl) ?_
        refine VL.q (Q.extract rfl rfl) ?_
        refine VL.q (Q.extract rfl rfl) ?_
        refine VL.q (Q.assign rfl) ?_
        refine VL.q (Q.assign rfl) ?_
        refine VL.nil ?_
        refine VE.seq ?_
        refine VC.seq ?_
        refine VC.region ?_
        refine VL.q (Q.move rfl) ?_
        refine VL.quietE (v' := .bool false) (by decide) (Q.ne rfl rfl) (by rfl) ?_
        refine VL.q (Q.move rfl) ?_
        refine VL.yes rfl rfl ?_
        refine VL.q (Q.move rfl) ?_
        refine VL.yes rfl rfl ?_
        refine VL.quietE (v' := .bool false) (by decide) (Q.ne rfl rfl) (by rfl) ?_
        refine VL.quietE (v' := .bool false) (by decide) (Q.pick_false rfl rfl) (by rfl) ?_
        refine VL.q (Q.move rfl) ?_
        refine VL.yes rfl rfl ?_
        refine VL.q (Q.move rfl) ?_
        refine VL.yes rfl rfl ?_
        refine VL.q (Q.move rfl) ?_
        refine VL.yes rfl rfl ?_
        refine VL.q (Q.move rfl) ?_
        refine VL.yes rfl rfl ?_
        refine VL.q ((by first | exact Q.addI rfl rfl (by omega) (by omega) | exact Q.add rfl rfl)) ?_
        refine VL.yes rfl rfl ?_
        refine VL.quietE (v' := .bool false) (by decide) (Q.ne rfl rfl) (neF (by split <;> omega)) ?_
        refine VL.quietE (v' := .bool false) (by decide) (Q.pick_false rfl rfl) (by rfl) ?_
        refine VL.nil ?_
        refine VE.seq ?_
        refine VC.condF rfl ?_
        refine VC.skip ?_
        refine VE.block_normal ?_
        refine VE.seq ?_
        refine VC.region ?_
        refine VL.q (Q.move rfl) ?_
        refine VL.quietE (v' := .int .u8 2) (by decide) ((by first | exact Q.addF rfl rfl (by simp only [klo]; omega) (by simp only [khi]; omega) | exact Q.addM (M := 256) rfl rfl rfl rfl)) (by rfl) ?_
        refine VL.q (Q.assign rfl) ?_
        refine VL.nil ?_
        refine VE.then_normal ?_
        refine VC.rnd (m := 37) ?_
        refine VC.seq ?_
        refine VC.seq ?_
        refine VC.region ?_
        refine VL.q (Q.move rfl) ?_
        refine VL.quietE (v' := .bool true) (by decide) (Q.lt rfl rfl) (by rfl) ?_
        refine VL.nil ?_
        refine VE.seq ?_
        refine VC.condT rfl ?_
        refine VC.skip ?_
        refine VE.seq ?_
        refine VC.seq ?_
        refine VC.block ?_
        refine VC.seq ?_
        refine VC.region ?_
        refine VL.q (Q.move rfl) ?_
        refine VL.eff (O.call0 ok20 rfl rfl (by decide) (space_2) (fun _ ho _ => hsl.only0 ho) ?_)
        intro x321_2 y321_2
        refine VL.q (Q.move rfl) ?_
        refine VL.q (Q.extract rfl rfl) ?_
        refine VL.q (Q.extract rfl rfl) ?_
        refine VL.q (Q.assign rfl) ?_
        refine VL.q (Q.assign rfl) ?_
        refine VL.nil ?_
        refine VE.seq ?_
        refine VC.seq ?_
        refine VC.region ?_
        refine VL.q (Q.loadA ty46 rfl zM zS) ?_
        refine VL.q (Q.move rfl) ?_
        refine VL.q (Q.move rfl) ?_
        have hcall4 := earliest_2 ((st : Int) + T) 0 hno ((st : Int) + ps + pa) (by omega)
        rw [until0] at hcall4
        refine VL.eff (O.call0 ok21 rfl rfl (by decide) (hcall4) (fun _ ho _ => hsl.only0 ho) ?_)
        intro x328_2 y328_2
        refine VL.q (Q.move rfl) ?_
        refine VL.q (Q.extract rfl rfl) ?_
        refine VL.q (Q.extract rfl rfl) ?_
        refine VL.q (Q.assign rfl) ?_
        refine VL.q (Q.assign rfl) ?_
        refine VL.nil ?_
        refine VE.seq ?_
        refine VC.seq ?_
        refine VC.region ?_
        refine VL.q (Q.move rfl) ?_
        refine VL.quietE (v' := .bool false) (by decide) (Q.ne rfl rfl) (by rfl) ?_
        refine VL.q (Q.move rfl) ?_
        refine VL.yes rfl rfl ?_
        refine VL.q (Q.move rfl) ?_
        refine VL.yes rfl rfl ?_
        refine VL.quietE (v' := .bool false) (by decide) (Q.ne rfl rfl) (by rfl) ?_
        refine VL.quietE (v' := .bool false) (by decide) (Q.pick_false rfl rfl) (by rfl) ?_
        refine VL.q (Q.move rfl) ?_
        refine VL.yes rfl rfl ?_
        refine VL.q (Q.move rfl) ?_
        refine VL.yes rfl rfl ?_
        refine VL.q (Q.move rfl) ?_
        refine VL.yes rfl rfl ?_
        refine VL.q (Q.move rfl) ?_
        refine VL.yes rfl rfl ?_
        refine VL.q ((by first | exact Q.addI rfl rfl (by omega) (by omega) | exact Q.add rfl rfl)) ?_
        refine VL.yes rfl rfl ?_
        refine VL.quietE (v' := .bool false) (by decide) (Q.ne rfl rfl) (neF (by split <;> omega)) ?_
        refine VL.quietE (v' := .bool false) (by decide) (Q.pick_false rfl rfl) (by rfl) ?_
        refine VL.nil ?_
        refine VE.seq ?_
        refine VC.condF rfl ?_
        refine VC.skip ?_
        refine VE.block_normal ?_
        refine VE.seq ?_
        refine VC.region ?_
        refine VL.q (Q.move rfl) ?_
        refine VL.quietE (v' := .int .u8 3) (by decide) ((by first | exact Q.addF rfl rfl (by simp only [klo]; omega) (by simp only [khi]; omega) | exact Q.addM (M := 256) rfl rfl rfl rfl)) (by rfl) ?_
        refine VL.q (Q.assign rfl) ?_
        refine VL.nil ?_
        refine VE.then_normal ?_
        refine VC.rnd (m := 36) ?_
        refine VC.seq ?_
        refine VC.seq ?_
        refine VC.region ?_
        refine VL.q (Q.move rfl) ?_
        refine VL.quietE (v' := .bool true) (by decide) (Q.lt rfl rfl) (by rfl) ?_
        refine VL.nil ?_
        refine VE.seq ?_
        refine VC.condT rfl ?_
        refine VC.skip ?_
        refine VE.seq ?_
        refine VC.seq ?_
        refine VC.block ?_
        refine VC.seq ?_
        refine VC.region ?_
        refine VL.q (Q.move rfl) ?_
        refine VL.eff (O.call0 ok20 rfl rfl (by decide) (space_3) (fun _ ho _ => hsl.only0 ho) ?_)
        intro x321_3 y321_3
        refine VL.q (Q.move rfl) ?_
        refine VL.q (Q.extract rfl rfl) ?_
        refine VL.q (Q.extract rfl rfl) ?_
        refine VL.q (Q.assign rfl) ?_
        refine VL.q (Q.assign rfl) ?_
        refine VL.nil ?_
        refine VE.seq ?_
        refine VC.seq ?_
        refine VC.region ?_
        refine VL.q (Q.loadA ty46 rfl zM zS) ?_
        refine VL.q (Q.move rfl) ?_
        refine VL.q (Q.move rfl) ?_
        have hcall4 := earliest_3 ((st : Int) + T) 0 hno ((st : Int) + ps + pa) (by omega)
        rw [until0] at hcall4
        refine VL.eff (O.call0 ok21 rfl rfl (by decide) (hcall4) (fun _ ho _ => hsl.only0 ho) ?_)
        intro x328_3 y328_3
        refine VL.q (Q.move rfl) ?_
        refine VL.q (Q.extract rfl rfl) ?_
        refine VL.q (Q.extract rfl rfl) ?_
        refine VL.q (Q.assign rfl) ?_
        refine VL.q (Q.assign rfl) ?_
        refine VL.nil ?_
        refine VE.seq ?_
        refine VC.seq ?_
        refine VC.region ?_
        refine VL.q (Q.move rfl) ?_
        refine VL.quietE (v' := .bool false) (by decide) (Q.ne rfl rfl) (by rfl) ?_
        refine VL.q (Q.move rfl) ?_
        refine VL.yes rfl rfl ?_
        refine VL.q (Q.move rfl) ?_
        refine VL.yes rfl rfl ?_
        refine VL.quietE (v' := .bool false) (by decide) (Q.ne rfl rfl) (by rfl) ?_
        refine VL.quietE (v' := .bool false) (by decide) (Q.pick_false rfl rfl) (by rfl) ?_
        refine VL.q (Q.move rfl) ?_
        refine VL.yes rfl rfl ?_
        refine VL.q (Q.move rfl) ?_
        refine VL.yes rfl rfl ?_
        refine VL.q (Q.move rfl) ?_
        refine VL.yes rfl rfl ?_
        refine VL.q (Q.move rfl) ?_
        refine VL.yes rfl rfl ?_
        refine VL.q ((by first | exact Q.addI rfl rfl (by omega) (by omega) | exact Q.add rfl rfl)) ?_
        refine VL.yes rfl rfl ?_
        refine VL.quietE (v' := .bool false) (by decide) (Q.ne rfl rfl) (neF (by split <;> omega)) ?_
        refine VL.quietE (v' := .bool false) (by decide) (Q.pick_false rfl rfl) (by rfl) ?_
        refine VL.nil ?_
        refine VE.seq ?_
        refine VC.condF rfl ?_
        refine VC.skip ?_
        refine VE.block_normal ?_
        refine VE.seq ?_
        refine VC.region ?_
        refine VL.q (Q.move rfl) ?_
        refine VL.quietE (v' := .int .u8 4) (by decide) ((by first | exact Q.addF rfl rfl (by simp only [klo]; omega) (by simp only [khi]; omega) | exact Q.addM (M := 256) rfl rfl rfl rfl)) (by rfl) ?_
        refine VL.q (Q.assign rfl) ?_
        refine VL.nil ?_
        refine VE.then_normal ?_
        refine VC.rnd (m := 35) ?_
        refine VC.seq ?_
        refine VC.seq ?_
        refine VC.region ?_
        refine VL.q (Q.move rfl) ?_
        refine VL.quietE (v' := .bool false) (by decide) (Q.lt rfl rfl) (by rfl) ?_
        refine VL.nil ?_
        refine VE.seq ?_
        refine VC.condF rfl ?_
        refine VC.exit ?_
        refine VE.then_exit ?_
        refine VE.then_exit ?_
        refine VE.block_here ?_
        refine VE.seq ?_
        refine VC.region ?_
        refine VL.q (Q.loadA ty46 rfl zM zS) ?_
        refine VL.eff (O.store ty46 rfl rfl rfl rfl zU zP ?_)
        refine VL.nil ?_
        exact VE.give zE zB hn

theorem round_4 (W0 : World) (hsub : Subs W0) (hsl : Rd W0 (some ⟨1, 0, none⟩) [.int .i64 7, .int .i64 3, .int .i64 2, .int .i64 2]) (hl : List Bool) (p2 : Option Addr) (c2 : Nat) (hrh : Rd W0 p2 (bls hl)) (x0 x1 x2 x3 x4 x5 v15 : Value) (R : Rs) (st : Nat) (T A : Int) (k : Nat) (u l : Int) (pi : Nat) (ps pa : Int) (D : Nat) (g1 g17 g19 g21 : Nat) (hst : st ≤ 4294967295) (hps : 0 ≤ ps) (hpa : 1 ≤ pa) (hsum : ps + pa + D = T) (hD : D ≤ 32767) (hT : T ≤ 2000000) (hA : 1 ≤ A ∧ A ≤ 32767) (hnv : navI ((st : Int) + T) k u l) (QQ : Exit → Act → World → Prop) (hS : Still QQ) (hn : VK W0 (List.flatMap Rs.ids []) 347 (fun a W => QQ .normal a W) [(1, .pointer (some ⟨g1, 0, none⟩)), (7, .int .i64 A), (15, v15), (16, .int .i64 (st : Int)), (17, .pointer (some ⟨g17, 0, none⟩)), (18, .int .i64 ((st : Int) + T)), (19, .pointer (some ⟨g19, 0, none⟩)), (20, .int .i64 (k : Int))] [.blk g19 [.int .i64 ((st : Int) + T), .int .i64 0] 46, .blk g17 [.int .u8 2, .int .u8 0, .int .u8 0, .int .u8 0, .int .u8 0, .int .u8 3] 43, R, .blk g1 [x0, x1, x2, x3, x4, x5, .slice p2 hl.length c2] 27]) (hc : VK W0 (List.flatMap Rs.ids []) 347 (fun a W => QQ (.exit 3) a W) [(1, .pointer (some ⟨g1, 0, none⟩)), (7, .int .i64 A), (15, v15), (16, .int .i64 (st : Int)), (17, .pointer (some ⟨g17, 0, none⟩)), (18, .int .i64 ((st : Int) + T)), (19, .pointer (some ⟨g19, 0, none⟩)), (20, .int .i64 (k : Int))] [.blk g19 [.int .i64 u, .int .i64 l] 46, .blk g17 [.int .u8 2, .int .u8 0, .int .u8 0, .int .u8 0, .int .u8 0, .int .u8 3] 43, R, .blk g1 [x0, x1, x2, x3, x4, x5, .slice p2 hl.length c2] 27]) :
    VK W0 (List.flatMap Rs.ids []) 347 ((bodyAt Tryd.f4 [1, 1, 1, 1, 1, 1, 1, 1, 1, 1, 1, 1, 1, 1, 0, 1, 0, 0, 1, 0, 0, 1]).wp Tryd.prog QQ) [(1, .pointer (some ⟨g1, 0, none⟩)), (7, .int .i64 A), (15, v15), (16, .int .i64 (st : Int)), (17, .pointer (some ⟨g17, 0, none⟩)), (18, .int .i64 ((st : Int) + T)), (19, .pointer (some ⟨g19, 0, none⟩)), (20, .int .i64 (k : Int)), (21, .pointer (some ⟨g21, 0, none⟩))] [.blk g21 [.int .u8 4, .bool false, .int .i64 (pi : Int), .int .i64 ps, .int .i64 pa, .int .i64 (D : Int)] 48, .blk g19 [.int .i64 u, .int .i64 l] 46, .blk g17 [.int .u8 2, .int .u8 0, .int .u8 0, .int .u8 0, .int .u8 0, .int .u8 3] 43, R, .blk g1 [x0, x1, x2, x3, x4, x5, .slice p2 hl.length c2] 27] := by
  have hnx := hear_law (ans := A) false hnv ((fun h => by cases h)) (show ((st : Int) + ps + pa) + (D : Int) = ((st : Int) + T) by omega) (by omega) (by omega) (by omega)
  obtain ⟨hnU, hnL⟩ := hnx
  rw [if_neg (by decide)] at hnL
  refine VC.seqJ (X := Nat) (fun z => [(1, .pointer (some ⟨g1, 0, none⟩)), (7, .int .i64 A), (15, v15), (16, .int .i64 (st : Int)), (17, .pointer (some ⟨g17, 0, none⟩)), (18, .int .i64 ((st : Int) + T)), (19, .pointer (some ⟨g19, 0, none⟩)), (20, .int .i64 (k : Int)), (21, .pointer (some ⟨g21, 0, none⟩)), (22, .pointer (some ⟨z, 0, none⟩)), (23, .int .i64 0)]) (fun z => [.blk z [.int .u8 2, .int .u8 8, .bool false, .bool false, .bool false, .bool false, .bool false, .bool false, .bool false, .int .i64 (D : Int), .int .u8 2, .int .u8 0, .int .u8 0, .int .u8 0, .int .u8 0, .int .u8 1, .int .u8 2, .int .u8 0, .int .u8 0, .int .u8 0, .int .u8 0, .int .u8 2, .int .u8 0, .int .u8 0, .int .u8 0, .int .u8 0, .int .u8 0, .int .u8 0, .int .u8 0, .int .u8 0, .int .u8 0, .int .u8 0, .int .u8 0, .int .u8 0, .int .i64 0, .int .i64 0, .int .i64 0, .int .u8 0, .bool false, .bool false] 50, .blk g21 [.int .u8 4, .bool false, .int .i64 (pi : Int), .int .i64 ps, .int .i64 pa, .int .i64 (D : Int)] 48, .blk g19 [.int .i64 u, .int .i64 l] 46, .blk g17 [.int .u8 2, .int .u8 0, .int .u8 0, .int .u8 0, .int .u8 0, .int .u8 3] 43, R, .blk g1 [x0, x1, x2, x3, x4, x5, .slice p2 hl.length c2] 27]) (fun z => True) ?_ ?_
  · skip
    refine VA.start (Ls := [.blk g21 [.int .u8 4, .bool false, .int .i64 (pi : Int), .int .i64 ps, .int .i64 pa, .int .i64 (D : Int)] 48]) (Cs := []) mixed ?_
    refine VA.take 0 rfl (by kernel_rfl) (by kernel_rfl) (by kernel_rfl) (Still.then hS) (List.singleton_sublist.2 zM) Cells.nil (by decide) (Quiet.c (Q.loadA ty48 rfl zM zS)) ?_
    refine VA.all (rs := [1, 7]) (by kernel_rfl) (by simp) ?_
    refine VA.forall2 ?_ ?_
    · skip
      refine VA.eff rfl ?_
      refine id (O.call0 ok13 rfl rfl (by decide) (station_c) (fun _ _ _ => trivial) ?_)
      intro x155 y155
      refine VA.next (List.singleton_sublist.2 zM) Cells.nil ?_
      refine VA.all (rs := [2, 7]) (by kernel_rfl) (by simp) ?_
      refine VA.forall2 ?_ ?_
      · skip
        refine VA.eff rfl ?_
        refine id (O.call0 ok14 rfl rfl (by decide) (point_c) (fun _ _ _ => trivial) ?_)
        intro x156 y156
        refine VA.next (List.singleton_sublist.2 zM) Cells.nil ?_
        refine VA.all (rs := [3, 7]) (by kernel_rfl) (by simp) ?_
        refine VA.forall2 ?_ ?_
        · skip
          refine VA.eff rfl ?_
          refine id (O.call0 ok12 rfl rfl (by decide) (xheader_4 pi ps pa D hD) (fun _ ho _ => hsub.only ho) ?_)
          intro x157 y157
          refine VA.next (List.singleton_sublist.2 zM) Cells.nil ?_
          refine VA.take 4 rfl (by kernel_rfl) (by kernel_rfl) (by kernel_rfl) (Still.then hS) (List.singleton_sublist.2 zM) Cells.nil (by decide) (Quiet.c (Q.move rfl)) ?_
          refine VA.take 5 rfl (by kernel_rfl) (by kernel_rfl) (by kernel_rfl) (Still.then hS) (List.singleton_sublist.2 zM) Cells.nil (by decide) (Quiet.c (Q.extract rfl rfl)) ?_
          refine VA.take 6 rfl (by kernel_rfl) (by kernel_rfl) (by kernel_rfl) (Still.then hS) (List.singleton_sublist.2 zM) Cells.nil (by decide) (Quiet.c (Q.extract rfl rfl)) ?_
          refine VA.all (rs := [7]) (by kernel_rfl) (by simp) ?_
          refine VA.forall1 ?_
          · skip
            refine VA.eff rfl ?_
            refine id (O.alloc zo50 (by decide) ?_)
            intro g22
            refine VA.next (List.singleton_sublist.2 zM) Cells.nil ?_
            refine VA.all (rs := [8]) (by kernel_rfl) (by simp) ?_
            refine VA.forall1 ?_
            · skip
              refine VA.eff rfl ?_
              refine id (O.store ty50 rfl rfl rfl rfl zU zP ?_)
              refine VA.next (List.singleton_sublist.2 zM) Cells.nil ?_
              refine VA.take 9 rfl (by kernel_rfl) (by kernel_rfl) (by kernel_rfl) (Still.then hS) (List.singleton_sublist.2 zM) Cells.nil (by decide) (Quiet.c (Q.assign rfl)) ?_
              refine VA.done (by kernel_rfl) ?_
              refine VE.then_normal ?_
              exact VE.meetP g22 trivial zE zKs
        · skip
          refine VA.eff rfl ?_
          refine id (O.alloc zo50 (by decide) ?_)
          intro g22_1
          refine VA.next (List.singleton_sublist.2 zM) Cells.nil ?_
          refine VA.all (rs := [3]) (by kernel_rfl) (by simp) ?_
          refine VA.forall1 ?_
          · skip
            refine VA.eff rfl ?_
            refine id (O.call0 ok12 rfl rfl (by decide) (xheader_4 pi ps pa D hD) (fun _ ho _ => hsub.only ho) ?_)
            intro x157_1 y157_1
            refine VA.next (List.singleton_sublist.2 zM) Cells.nil ?_
            refine VA.take 4 rfl (by kernel_rfl) (by kernel_rfl) (by kernel_rfl) (Still.then hS) (List.singleton_sublist.2 zM) Cells.nil (by decide) (Quiet.c (Q.move rfl)) ?_
            refine VA.take 5 rfl (by kernel_rfl) (by kernel_rfl) (by kernel_rfl) (Still.then hS) (List.singleton_sublist.2 zM) Cells.nil (by decide) (Quiet.c (Q.extract rfl rfl)) ?_
            refine VA.take 6 rfl (by kernel_rfl) (by kernel_rfl) (by kernel_rfl) (Still.then hS) (List.singleton_sublist.2 zM) Cells.nil (by decide) (Quiet.c (Q.extract rfl rfl)) ?_
            refine VA.all (rs := [8]) (by kernel_rfl) (by simp) ?_
            refine VA.forall1 ?_
            · skip
              refine VA.eff rfl ?_
              refine id (O.store ty50 rfl rfl rfl rfl zU zP ?_)
              refine VA.next (List.singleton_sublist.2 zM) Cells.nil ?_
              refine VA.take 9 rfl (by kernel_rfl) (by kernel_rfl) (by kernel_rfl) (Still.then hS) (List.singleton_sublist.2 zM) Cells.nil (by decide) (Quiet.c (Q.assign rfl)) ?_
              refine VA.done (by kernel_rfl) ?_
              refine VE.then_normal ?_
              exact VE.meetP g22_1 trivial zE zKs
      · skip
        refine VA.eff rfl ?_
        refine id (O.alloc zo50 (by decide) ?_)
        intro g22_2
        refine VA.next (List.singleton_sublist.2 zM) Cells.nil ?_
        refine VA.all (rs := [2]) (by kernel_rfl) (by simp) ?_
        refine VA.forall1 ?_
        · skip
          refine VA.eff rfl ?_
          refine id (O.call0 ok14 rfl rfl (by decide) (point_c) (fun _ _ _ => trivial) ?_)
          intro x156_1 y156_1
          refine VA.next (List.singleton_sublist.2 zM) Cells.nil ?_
          refine VA.all (rs := [3]) (by kernel_rfl) (by simp) ?_
          refine VA.forall1 ?_
          · skip
            refine VA.eff rfl ?_
            refine id (O.call0 ok12 rfl rfl (by decide) (xheader_4 pi ps pa D hD) (fun _ ho _ => hsub.only ho) ?_)
            intro x157_2 y157_2
            refine VA.next (List.singleton_sublist.2 zM) Cells.nil ?_
            refine VA.take 4 rfl (by kernel_rfl) (by kernel_rfl) (by kernel_rfl) (Still.then hS) (List.singleton_sublist.2 zM) Cells.nil (by decide) (Quiet.c (Q.move rfl)) ?_
            refine VA.take 5 rfl (by kernel_rfl) (by kernel_rfl) (by kernel_rfl) (Still.then hS) (List.singleton_sublist.2 zM) Cells.nil (by decide) (Quiet.c (Q.extract rfl rfl)) ?_
            refine VA.take 6 rfl (by kernel_rfl) (by kernel_rfl) (by kernel_rfl) (Still.then hS) (List.singleton_sublist.2 zM) Cells.nil (by decide) (Quiet.c (Q.extract rfl rfl)) ?_
            refine VA.all (rs := [8]) (by kernel_rfl) (by simp) ?_
            refine VA.forall1 ?_
            · skip
              refine VA.eff rfl ?_
              refine id (O.store ty50 rfl rfl rfl rfl zU zP ?_)
              refine VA.next (List.singleton_sublist.2 zM) Cells.nil ?_
              refine VA.take 9 rfl (by kernel_rfl) (by kernel_rfl) (by kernel_rfl) (Still.then hS) (List.singleton_sublist.2 zM) Cells.nil (by decide) (Quiet.c (Q.assign rfl)) ?_
              refine VA.done (by kernel_rfl) ?_
              refine VE.then_normal ?_
              exact VE.meetP g22_2 trivial zE zKs
    · skip
      refine VA.eff rfl ?_
      refine id (O.alloc zo50 (by decide) ?_)
      intro g22_3
      refine VA.next (List.singleton_sublist.2 zM) Cells.nil ?_
      refine VA.all (rs := [1]) (by kernel_rfl) (by simp) ?_
      refine VA.forall1 ?_
      · skip
        refine VA.eff rfl ?_
        refine id (O.call0 ok13 rfl rfl (by decide) (station_c) (fun _ _ _ => trivial) ?_)
        intro x155_1 y155_1
        refine VA.next (List.singleton_sublist.2 zM) Cells.nil ?_
        refine VA.all (rs := [2]) (by kernel_rfl) (by simp) ?_
        refine VA.forall1 ?_
        · skip
          refine VA.eff rfl ?_
          refine id (O.call0 ok14 rfl rfl (by decide) (point_c) (fun _ _ _ => trivial) ?_)
          intro x156_2 y156_2
          refine VA.next (List.singleton_sublist.2 zM) Cells.nil ?_
          refine VA.all (rs := [3]) (by kernel_rfl) (by simp) ?_
          refine VA.forall1 ?_
          · skip
            refine VA.eff rfl ?_
            refine id (O.call0 ok12 rfl rfl (by decide) (xheader_4 pi ps pa D hD) (fun _ ho _ => hsub.only ho) ?_)
            intro x157_3 y157_3
            refine VA.next (List.singleton_sublist.2 zM) Cells.nil ?_
            refine VA.take 4 rfl (by kernel_rfl) (by kernel_rfl) (by kernel_rfl) (Still.then hS) (List.singleton_sublist.2 zM) Cells.nil (by decide) (Quiet.c (Q.move rfl)) ?_
            refine VA.take 5 rfl (by kernel_rfl) (by kernel_rfl) (by kernel_rfl) (Still.then hS) (List.singleton_sublist.2 zM) Cells.nil (by decide) (Quiet.c (Q.extract rfl rfl)) ?_
            refine VA.take 6 rfl (by kernel_rfl) (by kernel_rfl) (by kernel_rfl) (Still.then hS) (List.singleton_sublist.2 zM) Cells.nil (by decide) (Quiet.c (Q.extract rfl rfl)) ?_
            refine VA.all (rs := [8]) (by kernel_rfl) (by simp) ?_
            refine VA.forall1 ?_
            · skip
              refine VA.eff rfl ?_
              refine id (O.store ty50 rfl rfl rfl rfl zU zP ?_)
              refine VA.next (List.singleton_sublist.2 zM) Cells.nil ?_
              refine VA.take 9 rfl (by kernel_rfl) (by kernel_rfl) (by kernel_rfl) (Still.then hS) (List.singleton_sublist.2 zM) Cells.nil (by decide) (Quiet.c (Q.assign rfl)) ?_
              refine VA.done (by kernel_rfl) ?_
              refine VE.then_normal ?_
              exact VE.meetP g22_3 trivial zE zKs
  · intro gz _
    refine VC.seq ?_
    refine VC.region ?_
    refine VL.q (Q.loadA ty50 rfl zM zS) ?_
    refine VL.q (Q.build lay58 zF) ?_
    refine VL.eff (O.call0 ok15 rfl rfl (by decide) (encode_data D hD) (fun _ _ _ => trivial) ?_)
    intro x163 y163
    refine VL.q (Q.move rfl) ?_
    refine VL.q (Q.extract rfl rfl) ?_
    refine VL.q (Q.extract rfl rfl) ?_
    refine VL.q (Q.assign rfl) ?_
    refine VL.q (Q.assign rfl) ?_
    refine VL.nil ?_
    refine VE.seq ?_
    refine VC.seq ?_
    refine VC.region ?_
    refine VL.q (Q.move rfl) ?_
    refine VL.eff (O.call0 ok16 rfl rfl (by decide) (decode_data D hD _ _ (by omega)) (fun _ _ hw => Rd.row hw zM) ?_)
    intro x168 y168
    refine VL.q (Q.move rfl) ?_
    refine VL.q (Q.extract rfl rfl) ?_
    refine VL.q (Q.extract rfl rfl) ?_
    refine VL.eff (O.alloc zo58 (by decide) ?_)
    intro g26
    refine VL.eff (O.store ty58 rfl rfl rfl rfl zU zP ?_)
    refine VL.q (Q.assign rfl) ?_
    refine VL.nil ?_
    refine VE.seq ?_
    refine VC.seq ?_
    refine VC.region ?_
    refine VL.q (Q.move rfl) ?_
    refine VL.q (Q.fieldAddr fa48_3 rfl) ?_
    refine VL.q (Q.load1 ty3 rfl zM rfl) ?_
    refine VL.q ((by first | exact Q.addI rfl rfl (by omega) (by omega) | exact Q.add rfl rfl)) ?_
    refine VL.q (Q.fieldAddr fa48_4 rfl) ?_
    refine VL.q (Q.load1 ty3 rfl zM rfl) ?_
    refine VL.q ((by first | exact Q.addI rfl rfl (by omega) (by omega) | exact Q.add rfl rfl)) ?_
    refine VL.q (Q.assign rfl) ?_
    refine VL.nil ?_
    refine VE.seq ?_
    refine VC.seq ?_
    refine VC.seq ?_
    refine VC.region ?_
    refine VL.q (Q.move rfl) ?_
    refine VL.quietE (v' := .bool false) (by decide) (Q.ne rfl rfl) (by rfl) ?_
    refine VL.q (Q.move rfl) ?_
    refine VL.yes rfl rfl ?_
    refine VL.q (Q.move rfl) ?_
    refine VL.yes rfl rfl ?_
    refine VL.quietE (v' := .bool false) (by decide) (Q.ne rfl rfl) (by rfl) ?_
    refine VL.quietE (v' := .bool false) (by decide) (Q.pick_false rfl rfl) (by rfl) ?_
    refine VL.q (Q.move rfl) ?_
    refine VL.yes rfl rfl ?_
    refine VL.q (Q.move rfl) ?_
    refine VL.yes rfl rfl ?_
    refine VL.quietE (v' := .bool false) (by decide) (Q.ne rfl rfl) (by rfl) ?_
    refine VL.quietE (v' := .bool false) (by decide) (Q.pick_false rfl rfl) (by rfl) ?_
    refine VL.q (Q.move rfl) ?_
    refine VL.yes rfl rfl ?_
    refine VL.q (Q.fieldAddr fa58_0 rfl) ?_
    refine VL.yes rfl rfl ?_
    refine VL.q (Q.loadA ty50 rfl zM zS) ?_
    refine VL.yes rfl rfl ?_
    refine VL.q (Q.loadA ty50 rfl zM zS) ?_
    refine VL.yes rfl rfl ?_
    refine VL.quietE (v' := .bool false) (by decide) (Q.neS flt50 (by decide) ty50 eg50 rfl rfl rfl rfl) (by simp [vsEq, vEq]) ?_
    refine VL.quietE (v' := .bool false) (by decide) (Q.pick_false rfl rfl) (by rfl) ?_
    refine VL.q (Q.move rfl) ?_
    refine VL.yes rfl rfl ?_
    refine VL.q (Q.fieldAddr fa58_1 rfl) ?_
    refine VL.yes rfl rfl ?_
    refine VL.q (Q.load1 ty54 rfl zM rfl) ?_
    refine VL.yes rfl rfl ?_
    refine VL.q (Q.len sl54 rfl) ?_
    refine VL.yes rfl rfl ?_
    refine VL.quietE (v' := .bool false) (by decide) (Q.gt rfl rfl) (by rfl) ?_
    refine VL.quietE (v' := .bool false) (by decide) (Q.pick_false rfl rfl) (by rfl) ?_
    refine VL.q (Q.move rfl) ?_
    refine VL.yes rfl rfl ?_
    refine VL.q (Q.move rfl) ?_
    refine VL.yes rfl rfl ?_
    refine VL.q (Q.fieldAddr fa50_9 rfl) ?_
    refine VL.yes rfl rfl ?_
    refine VL.q (Q.load1 ty3 rfl zM rfl) ?_
    refine VL.yes rfl rfl ?_
    refine VL.q ((by first | exact Q.addI rfl rfl (by omega) (by omega) | exact Q.add rfl rfl)) ?_
    refine VL.yes rfl rfl ?_
    refine VL.q (Q.move rfl) ?_
    refine VL.yes rfl rfl ?_
    refine VL.quietE (v' := .bool false) (by decide) (Q.ne rfl rfl) (neF (by omega)) ?_
    refine VL.quietE (v' := .bool false) (by decide) (Q.pick_false rfl rfl) (by rfl) ?_
    refine VL.nil ?_
    refine VE.seq ?_
    refine VC.condF rfl ?_
    refine VC.skip ?_
    refine VE.seq ?_
    refine VC.seq ?_
    refine VK.keep (by exact .cons (i := 1) rfl (.cons (i := 7) rfl (.cons (i := 15) rfl (.cons (i := 16) rfl (.cons (i := 17) rfl (.cons (i := 18) rfl (.cons (i := 19) rfl (.cons (i := 20) rfl (.cons (i := 21) rfl (.cons (i := 22) rfl (.cons (i := 23) rfl (.cons (i := 25) rfl (.cons (i := 26) rfl (.cons (i := 28) rfl ( .nil))))))))))))))) ?_
    refine VC.region ?_
    refine VL.q (Q.build lay46 zF) ?_
    refine VL.q (Q.fieldAddr fa50_10 rfl) ?_
    refine VL.q (Q.loadA ty43 rfl zM zS) ?_
    refine VL.q (Q.fieldAddr fa58_0 rfl) ?_
    refine VL.q (Q.loadA ty50 rfl zM zS) ?_
    refine VL.q (Q.move rfl) ?_
    refine VL.q (Q.move rfl) ?_
    refine VL.eff (O.call0 ok17 rfl rfl (by decide) (own_data D hD ((st : Int) + ps + pa) (A) (by omega) (by omega)) (fun _ _ _ => trivial) ?_)
    intro x216 y216
    refine VL.q (Q.move rfl) ?_
    refine VL.q (Q.extract rfl rfl) ?_
    refine VL.q (Q.extract rfl rfl) ?_
    refine VL.eff (O.alloc zo46 (by decide) ?_)
    intro g29
    refine VL.eff (O.store ty46 rfl rfl rfl rfl zU zP ?_)
    refine VL.q (Q.assign rfl) ?_
    refine VL.nil ?_
    refine VE.seq ?_
    refine VC.seq ?_
    refine VC.seq ?_
    refine VC.region ?_
    refine VL.q (Q.move rfl) ?_
    refine VL.quietE (v' := .bool false) (by decide) (Q.ne rfl rfl) (by rfl) ?_
    refine VL.q (Q.move rfl) ?_
    refine VL.yes rfl rfl ?_
    refine VL.q (Q.loadA ty46 rfl zM zS) ?_
    refine VL.yes rfl rfl ?_
    refine VL.q (Q.build lay46 zF) ?_
    refine VL.yes rfl rfl ?_
    refine VL.quietE (v' := .bool false) (by decide) (Q.neS flt46 (by decide) ty46 eg46 rfl rfl rfl rfl) (by rfl) ?_
    refine VL.quietE (v' := .bool false) (by decide) (Q.pick_false rfl rfl) (by rfl) ?_
    refine VL.nil ?_
    refine VE.seq ?_
    refine VC.condF rfl ?_
    refine VC.skip ?_
    refine VE.seq ?_
    refine VC.seq ?_
    refine VC.seqJ (X := Unit) (fun _z => [(238, .bool (heardP hl k)), (1, .pointer (some ⟨g1, 0, none⟩)), (7, .int .i64 A), (15, v15), (16, .int .i64 (st : Int)), (17, .pointer (some ⟨g17, 0, none⟩)), (18, .int .i64 ((st : Int) + T)), (19, .pointer (some ⟨g19, 0, none⟩)), (20, .int .i64 (k : Int)), (21, .pointer (some ⟨g21, 0, none⟩)), (26, .pointer (some ⟨g26, 0, none⟩)), (28, .int .i64 ((st : Int) + ps + pa))]) (fun _z => [.blk g26 [.int .u8 2, .int .u8 8, .bool false, .bool false, .bool false, .bool false, .bool false, .bool false, .bool false, .int .i64 (D : Int), .int .u8 2, .int .u8 0, .int .u8 0, .int .u8 0, .int .u8 0, .int .u8 1, .int .u8 2, .int .u8 0, .int .u8 0, .int .u8 0, .int .u8 0, .int .u8 2, .int .u8 0, .int .u8 0, .int .u8 0, .int .u8 0, .int .u8 0, .int .u8 0, .int .u8 0, .int .u8 0, .int .u8 0, .int .u8 0, .int .u8 0, .int .u8 0, .int .i64 0, .int .i64 0, .int .i64 0, .int .u8 0, .bool false, .bool false, .slice (some ⟨x168, 0, none⟩) 0 0] 58, .blk g21 [.int .u8 4, .bool false, .int .i64 (pi : Int), .int .i64 ps, .int .i64 pa, .int .i64 (D : Int)] 48, .blk g19 [.int .i64 u, .int .i64 l] 46, .blk g17 [.int .u8 2, .int .u8 0, .int .u8 0, .int .u8 0, .int .u8 0, .int .u8 3] 43, R, .blk g1 [x0, x1, x2, x3, x4, x5, .slice p2 hl.length c2] 27]) (fun _z => True) ?_ ?_
    · skip
      refine VC.region ?_
      refine VL.q (Q.move rfl) ?_
      refine VL.q (Q.fieldAddr fa27_6 rfl) ?_
      refine VL.q (Q.load1 ty25 rfl zM rfl) ?_
      refine VL.q (Q.len sl25 rfl) ?_
      refine VL.q (Q.lt rfl rfl) ?_
      refine VL.q (Q.move rfl) ?_
      refine VK.case 231 rfl ?_ ?_
      · intro h231
        have hlk : k < hl.length := by have := of_decide_eq_true h231; omega
        obtain ⟨b1, o1, rfl, hc1⟩ := hrh k _ (bls_get hl k hlk)
        refine VL.yes rfl rfl ?_
        refine VL.q (Q.fieldAddr fa27_6 rfl) ?_
        refine VL.yes rfl rfl ?_
        refine VL.q (Q.load1 ty25 rfl zM rfl) ?_
        refine VL.yes rfl rfl ?_
        refine VL.q (Q.move rfl) ?_
        refine VL.yes rfl rfl ?_
        refine VL.q (Q.indexAddr sl25 (j := k) rfl rfl rfl hlk) ?_
        refine VL.yes rfl rfl ?_
        refine VL.q (Q.load0 ty4 rfl (by simpa using hc1) (by simp)) ?_
        refine VL.yes rfl rfl ?_
        refine VL.q (Q.not rfl) ?_
        refine VL.q (Q.pick_true rfl rfl) ?_
        refine VL.nil ?_
        refine VE.then_normal ?_
        exact VE.meetP () trivial (.cons (eBool (by simp [heardP, hlk])) zE) zKs
      · intro h231
        have hlk : ¬ k < hl.length := by have := of_decide_eq_false h231; omega
        refine VL.no (by simp) rfl rfl (.inl rfl) ?_
        refine VL.no (by simp) rfl rfl (.inl rfl) ?_
        refine VL.no (by simp) rfl rfl (.inl rfl) ?_
        refine VL.no (by simp) rfl rfl (.inl rfl) ?_
        refine VL.no (by simp) rfl rfl (.inl rfl) ?_
        refine VL.no (by simp) rfl rfl (.inl rfl) ?_
        refine VL.quietE (v' := .bool false) (by decide) (Q.pick_false rfl rfl) (by rfl) ?_
        refine VL.nil ?_
        refine VE.then_normal ?_
        exact VE.meetP () trivial (.cons (eBool (by simp [heardP, hlk])) zE) zKs
    · intro _ _
      refine VC.cond rfl ?_ ?_
      · intro h238
        refine VC.exit ?_
        refine VE.then_exit ?_
        exact VE.give zE zB hc
      · intro h238
        refine VC.skip ?_
        refine VE.seq ?_
        refine VC.seq ?_
        refine VC.region ?_
        refine VL.q (Q.loadA ty46 rfl zM zS) ?_
        refine VL.q (Q.loadA ty43 rfl zM zS) ?_
        refine VL.q (Q.fieldAddr fa58_0 rfl) ?_
        refine VL.q (Q.loadA ty50 rfl zM zS) ?_
        refine VL.q (Q.move rfl) ?_
        refine VL.q (Q.move rfl) ?_
        have hcall := heard_data u l (navI_ok hnv (by omega)) D hD ((st : Int) + ps + pa) (A) (by omega) (by omega)
        rw [hnU, hnL] at hcall
        refine VL.eff (O.call0 ok17 rfl rfl (by decide) (hcall) (fun _ _ _ => trivial) ?_)
        intro x246 y246
        refine VL.q (Q.move rfl) ?_
        refine VL.q (Q.extract rfl rfl) ?_
        refine VL.q (Q.extract rfl rfl) ?_
        refine VL.eff (O.alloc zo46 (by decide) ?_)
        intro g30
        refine VL.eff (O.store ty46 rfl rfl rfl rfl zU zP ?_)
        refine VL.q (Q.assign rfl) ?_
        refine VL.nil ?_
        refine VE.seq ?_
        refine VC.seq ?_
        refine VC.region ?_
        refine VL.q (Q.loadA ty46 rfl zM zS) ?_
        have hno : navOk ((st : Int) + T) 0 := ⟨by omega, by omega⟩
        have hcall2 := until2_c ((st : Int) + T) 0 hno
        rw [until0] at hcall2
        refine VL.eff (O.call0 ok18 rfl rfl (by decide) (hcall2) (fun _ _ _ => trivial) ?_)
        intro x251 y251
        refine VL.q (Q.move rfl) ?_
        refine VL.q (Q.extract rfl rfl) ?_
        refine VL.q (Q.extract rfl rfl) ?_
        refine VL.q (Q.assign rfl) ?_
        refine VL.q (Q.assign rfl) ?_
        refine VL.nil ?_
        refine VE.seq ?_
        refine VC.seq ?_
        refine VC.region ?_
        refine VL.q (Q.move rfl) ?_
        refine VL.q (Q.assign rfl) ?_
        refine VL.q (Q.assign rfl) ?_
        refine VL.nil ?_
        refine VE.seq ?_
        refine VC.seq ?_
        refine VC.seq ?_
        refine VC.region ?_
        refine VL.q (Q.fieldAddr fa48_0 rfl) ?_
        refine VL.q (Q.load1 ty5 rfl zM rfl) ?_
        refine VL.quietE (v' := .bool false) (by decide) (Q.eq rfl rfl) (by rfl) ?_
        refine VL.nil ?_
        refine VE.seq ?_
        refine VC.condF rfl ?_
        refine VC.skip ?_
        refine VE.seq ?_
        refine VC.seq ?_
        refine VC.seq ?_
        refine VC.region ?_
        refine VL.q (Q.move rfl) ?_
        refine VL.quietE (v' := .bool false) (by decide) (Q.ne rfl rfl) (by rfl) ?_
        refine VL.q (Q.move rfl) ?_
        refine VL.yes rfl rfl ?_
        refine VL.q (Q.move rfl) ?_
        refine VL.yes rfl rfl ?_
        refine VL.quietE (v' := .bool false) (by decide) (Q.ne rfl rfl) (by rfl) ?_
        refine VL.quietE (v' := .bool false) (by decide) (Q.pick_false rfl rfl) (by rfl) ?_
        refine VL.q (Q.move rfl) ?_
        refine VL.yes rfl rfl ?_
        refine VL.q (Q.fieldAddr fa46_0 rfl) ?_
        refine VL.yes rfl rfl ?_
        refine VL.q (Q.load1 ty3 rfl zM rfl) ?_
        refine VL.yes rfl rfl ?_
        refine VL.q (Q.move rfl) ?_
        refine VL.yes rfl rfl ?_
        refine VL.quietE (v' := .bool false) (by decide) (Q.ne rfl rfl) (neF rfl) ?_
        refine VL.quietE (v' := .bool false) (by decide) (Q.pick_false rfl rfl) (by rfl) ?_
        refine VL.q (Q.move rfl) ?_
        refine VL.yes rfl rfl ?_
        refine VL.q (Q.fieldAddr fa46_1 rfl) ?_
        refine VL.yes rfl rfl ?_
        refine VL.q (Q.load1 ty3 rfl zM rfl) ?_
        refine VL.yes rfl rfl ?_
        refine VL.q (Q.move rfl) ?_
        refine VL.yes rfl rfl ?_
        refine VL.quietE (v' := .bool false) (by decide) (Q.ne rfl rfl) (neF rfl) ?_
        refine VL.quietE (v' := .bool false) (by decide) (Q.pick_false rfl rfl) (by rfl) ?_
        refine VL.q (Q.move rfl) ?_
        refine VL.yes rfl rfl ?_
        refine VL.q (Q.move rfl) ?_
        refine VL.yes rfl rfl ?_
        refine VL.q (Q.move rfl) ?_
        refine VL.yes rfl rfl ?_
        refine VL.quietE (v' := .bool false) (by decide) (Q.ne rfl rfl) (neF rfl) ?_
        refine VL.quietE (v' := .bool false) (by decide) (Q.pick_false rfl rfl) (by rfl) ?_
        refine VL.nil ?_
        refine VE.seq ?_
        refine VC.condF rfl ?_
        refine VC.skip ?_
        refine VE.seq ?_
        refine VC.seq ?_
        refine VK.keep (by exact .cons (i := 1) rfl (.cons (i := 7) rfl (.cons (i := 15) rfl (.cons (i := 16) rfl (.cons (i := 17) rfl (.cons (i := 18) rfl (.cons (i := 19) rfl (.cons (i := 20) rfl (.cons (i := 23) rfl (.cons (i := 25) rfl (.cons (i := 28) rfl (.cons (i := 30) rfl (.cons (i := 32) rfl ( .nil)))))))))))))) ?_
        refine VC.region ?_
        refine VL.q (Q.loadA ty46 rfl zM zS) ?_
        refine VL.q (Q.move rfl) ?_
        refine VL.q ((by first | exact Q.subI rfl rfl (by omega) (by omega) | exact Q.sub rfl rfl)) ?_
        have hcall3 := reserved_c ((st : Int) + T) 0 hno (((st : Int) + T) - 1) (by omega)
        rw [until0] at hcall3
        refine VL.eff (O.call0 ok19 rfl rfl (by decide) (hcall3) (fun _ _ _ => trivial) ?_)
        intro x293 y293
        refine VL.q (Q.move rfl) ?_
        refine VL.quietE (v' := .bool true) (by decide) (Q.extract rfl rfl) (congrArg Value.bool (decide_eq_true (by omega))) ?_
        refine VL.q (Q.extract rfl rfl) ?_
        refine VL.q (Q.assign rfl) ?_
        refine VL.q (Q.assign rfl) ?_
        refine VL.nil ?_
        refine VE.seq ?_
        refine VC.seq ?_
        refine VC.region ?_
        refine VL.q (Q.loadA ty46 rfl zM zS) ?_
        refine VL.q (Q.move rfl) ?_
        have hcall3 := reserved_c ((st : Int) + T) 0 hno (((st : Int) + T)) (by omega)
        rw [until0] at hcall3
        refine VL.eff (O.call0 ok19 rfl rfl (by decide) (hcall3) (fun _ _ _ => trivial) ?_)
        intro x299 y299
        refine VL.q (Q.move rfl) ?_
        refine VL.quietE (v' := .bool false) (by decide) (Q.extract rfl rfl) (congrArg Value.bool (decide_eq_false (by omega))) ?_
        refine VL.q (Q.extract rfl rfl) ?_
        refine VL.q (Q.assign rfl) ?_
        refine VL.q (Q.assign rfl) ?_
        refine VL.nil ?_
        refine VE.seq ?_
        refine VC.seq ?_
        refine VC.seq ?_
        refine VC.region ?_
        refine VL.q (Q.move rfl) ?_
        refine VL.quietE (v' := .bool false) (by decide) (Q.ne rfl rfl) (by rfl) ?_
        refine VL.q (Q.move rfl) ?_
        refine VL.yes rfl rfl ?_
        refine VL.q (Q.move rfl) ?_
        refine VL.yes rfl rfl ?_
        refine VL.quietE (v' := .bool false) (by decide) (Q.ne rfl rfl) (by rfl) ?_
        refine VL.quietE (v' := .bool false) (by decide) (Q.pick_false rfl rfl) (by rfl) ?_
        refine VL.q (Q.move rfl) ?_
        refine VL.yes rfl rfl ?_
        refine VL.q (Q.move rfl) ?_
        refine VL.yes rfl rfl ?_
        refine VL.quietE (v' := .bool false) (by decide) (Q.not rfl) (by rfl) ?_
        refine VL.quietE (v' := .bool false) (by decide) (Q.pick_false rfl rfl) (by rfl) ?_
        refine VL.q (Q.move rfl) ?_
        refine VL.yes rfl rfl ?_
        refine VL.q (Q.move rfl) ?_
        refine VL.quietE (v' := .bool false) (by decide) (Q.pick_false rfl rfl) (by rfl) ?_
        refine VL.nil ?_
        refine VE.seq ?_
        refine VC.condF rfl ?_
        refine VC.skip ?_
        refine VE.seq ?_
        refine VC.seq ?_
        refine VC.seq ?_
        refine VC.region ?_
        refine VL.q (Q.assign rfl) ?_
        refine VL.nil ?_
        refine VE.seq ?_
        refine VC.block ?_
        refine VC.rounds 40 ?_
        refine VC.rnd (m := 39) ?_
        refine VC.seq ?_
        refine VC.seq ?_
        refine VC.region ?_
        refine VL.q (Q.move rfl) ?_
        refine VL.quietE (v' := .bool true) (by decide) (Q.lt rfl rfl) (by rfl) ?_
        refine VL.nil ?_
        refine VE.seq ?_
        refine VC.condT rfl ?_
        refine VC.skip ?_
        refine VE.seq ?_
        refine VC.seq ?_
        refine VC.block ?_
        refine VC.seq ?_
        refine VC.region ?_
        refine VL.q (Q.move rfl) ?_
        refine VL.eff (O.call0 ok20 rfl rfl (by decide) (space_0) (fun _ ho _ => hsl.only0 ho) ?_)
        intro x321 y321
        refine VL.q (Q.move rfl) ?_
        refine VL.q (Q.extract rfl rfl) ?_
        refine VL.q (Q.extract rfl rfl) ?_
        refine VL.q (Q.assign rfl) ?_
        refine VL.q (Q.assign rfl) ?_
        refine VL.nil ?_
        refine VE.seq ?_
        refine VC.seq ?_
        refine VC.region ?_
        refine VL.q (Q.loadA ty46 rfl zM zS) ?_
        refine VL.q (Q.move rfl) ?_
        refine VL.q (Q.move rfl) ?_
        have hcall4 := earliest_0 ((st : Int) + T) 0 hno ((st : Int) + ps + pa) (by omega)
        rw [until0] at hcall4
        refine VL.eff (O.call0 ok21 rfl rfl (by decide) (hcall4) (fun _ ho _ => hsl.only0 ho) ?_)
        intro x328 y328
        refine VL.q (Q.move rfl) ?_
        refine VL.q (Q.extract rfl rfl) ?_
        refine VL.q (Q.extract rfl rfl) ?_
        refine VL.q (Q.assign rfl) ?_
        refine VL.q (Q.assign rfl) ?_
        refine VL.nil ?_
        refine VE.seq ?_
        refine VC.seq ?_
        refine VK.keep (by exact .cons (i := 1) rfl (.cons (i := 7) rfl (.cons (i := 15) rfl (.cons (i := 16) rfl (.cons (i := 17) rfl (.cons (i := 18) rfl (.cons (i := 19) rfl (.cons (i := 20) rfl (.cons (i := 28) rfl (.cons (i := 30) rfl (.cons (i := 32) rfl (.cons (i := 36) rfl (.cons (i := 37) rfl (.cons (i := 38) rfl (.cons (i := 39) rfl (.cons (i := 40) rfl (.cons (i := 315) rfl (.cons (i := 316) rfl (.cons (i := 319) rfl (.cons (i := 320) rfl (.cons (i := 321) rfl (.cons (i := 322) rfl (.cons (i := 323) rfl (.cons (i := 324) rfl (.cons (i := 325) rfl (.cons (i := 326) rfl (.cons (i := 327) rfl (.cons (i := 328) rfl (.cons (i := 329) rfl (.cons (i := 330) rfl ( .nil))))))))))))))))))))))))))))))) ?_
        refine VC.region ?_
        refine VL.q (Q.move rfl) ?_
        refine VL.quietE (v' := .bool false) (by decide) (Q.ne rfl rfl) (by rfl) ?_
        refine VL.q (Q.move rfl) ?_
        refine VL.yes rfl rfl ?_
        refine VL.q (Q.move rfl) ?_
        refine VL.yes rfl rfl ?_
        refine VL.quietE (v' := .bool false) (by decide) (Q.ne rfl rfl) (by rfl) ?_
        refine VL.quietE (v' := .bool false) (by decide) (Q.pick_false rfl rfl) (by rfl) ?_
        refine VL.q (Q.move rfl) ?_
        refine VL.yes rfl rfl ?_
        refine VL.q (Q.move rfl) ?_
        refine VL.yes rfl rfl ?_
        refine VL.q (Q.move rfl) ?_
        refine VL.yes rfl rfl ?_
        refine VL.q (Q.move rfl) ?_
        refine VL.yes rfl rfl ?_
        refine VL.q ((by first | exact Q.addI rfl rfl (by omega) (by omega) | exact Q.add rfl rfl)) ?_
        refine VL.yes rfl rfl ?_
        refine VL.quietE (v' := .bool false) (by decide) (Q.ne rfl rfl) (neF (by split <;> omega)) ?_
        refine VL.quietE (v' := .bool false) (by decide) (Q.pick_false rfl rfl) (by rfl) ?_
        refine VL.nil ?_
        refine VE.seq ?_
        refine VC.condF rfl ?_
        refine VC.skip ?_
        refine VE.block_normal ?_
        refine VE.seq ?_
        refine VC.region ?_
        refine VL.q (Q.move rfl) ?_
        refine VL.quietE (v' := .int .u8 1) (by decide) ((by first | exact Q.addF rfl rfl (by simp only [klo]; omega) (by simp only [khi]; omega) | exact Q.addM (M := 256) rfl rfl rfl rfl)) (by rfl) ?_
        refine VL.q (Q.assign rfl) ?_
        refine VL.nil ?_
        refine VE.then_normal ?_
        refine VC.rnd (m := 38) ?_
        refine VC.seq ?_
        refine VC.seq ?_
        refine VC.region ?_
        refine VL.q (Q.move rfl) ?_
        refine VL.quietE (v' := .bool true) (by decide) (Q.lt rfl rfl) (by rfl) ?_
        refine VL.nil ?_
        refine VE.seq ?_
        refine VC.condT rfl ?_
        refine VC.skip ?_
        refine VE.seq ?_
        refine VC.seq ?_
        refine VC.block ?_
        refine VC.seq ?_
        refine VC.region ?_
        refine VL.q (Q.move rfl) ?_
        refine VL.eff (O.call0 ok20 rfl rfl (by decide) (space_1) (fun _ ho _ => hsl.only0 ho) ?_)
        intro x321_1 y321_1
        refine VL.q (Q.move rfl) ?_
        refine VL.q (Q.extract rfl rfl) ?_
        refine VL.q (Q.extract rfl rfl) ?_
        refine VL.q (Q.assign rfl) ?_
        refine VL.q (Q.assign rfl) ?_
        refine VL.nil ?_
        refine VE.seq ?_
        refine VC.seq ?_
        refine VC.region ?_
        refine VL.q (Q.loadA ty46 rfl zM zS) ?_
        refine VL.q (Q.move rfl) ?_
        refine VL.q (Q.move rfl) ?_
        have hcall4 := earliest_1 ((st : Int) + T) 0 hno ((st : Int) + ps + pa) (by omega)
        rw [until0] at hcall4
        refine VL.eff (O.call0 ok21 rfl rfl (by decide) (hcall4) (fun _ ho _ => hsl.only0 ho) ?_)
        intro x328_1 y328_1
        refine VL.q (Q.move rfl) ?_
        refine VL.q (Q.extract rfl rfl) ?_
        refine VL.q (Q.extract rfl rfl) ?_
        refine VL.q (Q.assign rfl) ?_
        refine VL.q (Q.assign rfl) ?_
        refine VL.nil ?_
        refine VE.seq ?_
        refine VC.seq ?_
        refine VC.region ?_
        refine VL.q (Q.move rfl) ?_
        refine VL.quietE (v' := .bool false) (by decide) (Q.ne rfl rfl) (by rfl) ?_
        refine VL.q (Q.move rfl) ?_
        refine VL.yes rfl rfl ?_
        refine VL.q (Q.move rfl) ?_
        refine VL.yes rfl rfl ?_
        refine VL.quietE (v' := .bool false) (by decide) (Q.ne rfl rfl) (by rfl) ?_
        refine VL.quietE (v' := .bool false) (by decide) (Q.pick_false rfl rfl) (by rfl) ?_
        refine VL.q (Q.move rfl) ?_
        refine VL.yes rfl rfl ?_
        refine VL.q (Q.move rfl) ?_
        refine VL.yes rfl rfl ?_
        refine VL.q (Q.move rfl) ?_
        refine VL.yes rfl rfl ?_
        refine VL.q (Q.move rfl) ?_
        refine VL.yes rfl rfl ?_
        refine VL.q ((by first | exact Q.addI rfl rfl (by omega) (by omega) | exact Q.add rfl rfl)) ?_
        refine VL.yes rfl rfl ?_
        refine VL.quietE (v' := .bool false) (by decide) (Q.ne rfl rfl) (neF (by split <;> omega)) ?_
        refine VL.quietE (v' := .bool false) (by decide) (Q.pick_false rfl rfl) (by rfl) ?_
        refine VL.nil ?_
        refine VE.seq ?_
        refine VC.condF rfl ?_
        refine VC.skip ?_
        refine VE.block_normal ?_
        refine VE.seq ?_
        refine VC.region ?_
        refine VL.q (Q.move rfl) ?_
        refine VL.quietE (v' := .int .u8 2) (by decide) ((by first | exact Q.addF rfl rfl (by simp only [klo]; omega) (by simp only [khi]; omega) | exact Q.addM (M := 256) rfl rfl rfl rfl)) (by rfl) ?_
        refine VL.q (Q.assign rfl) ?_
        refine VL.nil ?_
        refine VE.then_normal ?_
        refine VC.rnd (m := 37) ?_
        refine VC.seq ?_
        refine VC.seq ?_
        refine VC.region ?_
        refine VL.q (Q.move rfl) ?_
        refine VL.quietE (v' := .bool true) (by decide) (Q.lt rfl rfl) (by rfl) ?_
        refine VL.nil ?_
        refine VE.seq ?_
        refine VC.condT rfl ?_
        refine VC.skip ?_
        refine VE.seq ?_
        refine VC.seq ?_
        refine VC.block ?_
        refine VC.seq ?_
        refine VC.region ?_
        refine VL.q (Q.move rfl) ?_
        refine VL.eff (O.call0 ok20 rfl rfl (by decide) (space_2) (fun _ ho _ => hsl.only0 ho) ?_)
        intro x321_2 y321_2
        refine VL.q (Q.move rfl) ?_
        refine VL.q (Q.extract rfl rfl) ?_
        refine VL.q (Q.extract rfl rfl) ?_
        refine VL.q (Q.assign rfl) ?_
        refine VL.q (Q.assign rfl) ?_
        refine VL.nil ?_
        refine VE.seq ?_
        refine VC.seq ?_
        refine VC.region ?_
        refine VL.q (Q.loadA ty46 rfl zM zS) ?_
        refine VL.q (Q.move rfl) ?_
        refine VL.q (Q.move rfl) ?_
        have hcall4 := earliest_2 ((st : Int) + T) 0 hno ((st : Int) + ps + pa) (by omega)
        rw [until0] at hcall4
        refine VL.eff (O.call0 ok21 rfl rfl (by decide) (hcall4) (fun _ ho _ => hsl.only0 ho) ?_)
        intro x328_2 y328_2
        refine VL.q (Q.move rfl) ?_
        refine VL.q (Q.extract rfl rfl) ?_
        refine VL.q (Q.extract rfl rfl) ?_
        refine VL.q (Q.assign rfl) ?_
        refine VL.q (Q.assign rfl) ?_
        refine VL.nil ?_
        refine VE.seq ?_
        refine VC.seq ?_
        refine VC.region ?_
        refine VL.q (Q.move rfl) ?_
        refine VL.quietE (v' := .bool false) (by decide) (Q.ne rfl rfl) (by rfl) ?_
        refine VL.q (Q.move rfl) ?_
        refine VL.yes rfl rfl ?_
        refine VL.q (Q.move rfl) ?_
        refine VL.yes rfl rfl ?_
        refine VL.quietE (v' := .bool false) (by decide) (Q.ne rfl rfl) (by rfl) ?_
        refine VL.quietE (v' := .bool false) (by decide) (Q.pick_false rfl rfl) (by rfl) ?_
        refine VL.q (Q.move rfl) ?_
        refine VL.yes rfl rfl ?_
        refine VL.q (Q.move rfl) ?_
        refine VL.yes rfl rfl ?_
        refine VL.q (Q.move rfl) ?_
        refine VL.yes rfl rfl ?_
        refine VL.q (Q.move rfl) ?_
        refine VL.yes rfl rfl ?_
        refine VL.q ((by first | exact Q.addI rfl rfl (by omega) (by omega) | exact Q.add rfl rfl)) ?_
        refine VL.yes rfl rfl ?_
        refine VL.quietE (v' := .bool false) (by decide) (Q.ne rfl rfl) (neF (by split <;> omega)) ?_
        refine VL.quietE (v' := .bool false) (by decide) (Q.pick_false rfl rfl) (by rfl) ?_
        refine VL.nil ?_
        refine VE.seq ?_
        refine VC.condF rfl ?_
        refine VC.skip ?_
        refine VE.block_normal ?_
        refine VE.seq ?_
        refine VC.region ?_
        refine VL.q (Q.move rfl) ?_
        refine VL.quietE (v' := .int .u8 3) (by decide) ((by first | exact Q.addF rfl rfl (by simp only [klo]; omega) (by simp only [khi]; omega) | exact Q.addM (M := 256) rfl rfl rfl rfl)) (by rfl) ?_
        refine VL.q (Q.assign rfl) ?_
        refine VL.nil ?_
        refine VE.then_normal ?_
        refine VC.rnd (m := 36) ?_
        refine VC.seq ?_
        refine VC.seq ?_
        refine VC.region ?_
        refine VL.q (Q.move rfl) ?_
        refine VL.quietE (v' := .bool true) (by decide) (Q.lt rfl rfl) (by rfl) ?_
        refine VL.nil ?_
        refine VE.seq ?_
        refine VC.condT rfl ?_
        refine VC.skip ?_
        refine VE.seq ?_
        refine VC.seq ?_
        refine VC.block ?_
        refine VC.seq ?_
        refine VC.region ?_
        refine VL.q (Q.move rfl) ?_
        refine VL.eff (O.call0 ok20 rfl rfl (by decide) (space_3) (fun _ ho _ => hsl.only0 ho) ?_)
        intro x321_3 y321_3
        refine VL.q (Q.move rfl) ?_
        refine VL.q (Q.extract rfl rfl) ?_
        refine VL.q (Q.extract rfl rfl) ?_
        refine VL.q (Q.assign rfl) ?_
        refine VL.q (Q.assign rfl) ?_
        refine VL.nil ?_
        refine VE.seq ?_
        refine VC.seq ?_
        refine VC.region ?_
        refine VL.q (Q.loadA ty46 rfl zM zS) ?_
        refine VL.q (Q.move rfl) ?_
        refine VL.q (Q.move rfl) ?_
        have hcall4 := earliest_3 ((st : Int) + T) 0 hno ((st : Int) + ps + pa) (by omega)
        rw [until0] at hcall4
        refine VL.eff (O.call0 ok21 rfl rfl (by decide) (hcall4) (fun _ ho _ => hsl.only0 ho) ?_)
        intro x328_3 y328_3
        refine VL.q (Q.move rfl) ?_
        refine VL.q (Q.extract rfl rfl) ?_
        refine VL.q (Q.extract rfl rfl) ?_
        refine VL.q (Q.assign rfl) ?_
        refine VL.q (Q.assign rfl) ?_
        refine VL.nil ?_
        refine VE.seq ?_
        refine VC.seq ?_
        refine VC.region ?_
        refine VL.q (Q.move rfl) ?_
        refine VL.quietE (v' := .bool false) (by decide) (Q.ne rfl rfl) (by rfl) ?_
        refine VL.q (Q.move rfl) ?_
        refine VL.yes rfl rfl ?_
        refine VL.q (Q.move rfl) ?_
        refine VL.yes rfl rfl ?_
        refine VL.quietE (v' := .bool false) (by decide) (Q.ne rfl rfl) (by rfl) ?_
        refine VL.quietE (v' := .bool false) (by decide) (Q.pick_false rfl rfl) (by rfl) ?_
        refine VL.q (Q.move rfl) ?_
        refine VL.yes rfl rfl ?_
        refine VL.q (Q.move rfl) ?_
        refine VL.yes rfl rfl ?_
        refine VL.q (Q.move rfl) ?_
        refine VL.yes rfl rfl ?_
        refine VL.q (Q.move rfl) ?_
        refine VL.yes rfl rfl ?_
        refine VL.q ((by first | exact Q.addI rfl rfl (by omega) (by omega) | exact Q.add rfl rfl)) ?_
        refine VL.yes rfl rfl ?_
        refine VL.quietE (v' := .bool false) (by decide) (Q.ne rfl rfl) (neF (by split <;> omega)) ?_
        refine VL.quietE (v' := .bool false) (by decide) (Q.pick_false rfl rfl) (by rfl) ?_
        refine VL.nil ?_
        refine VE.seq ?_
        refine VC.condF rfl ?_
        refine VC.skip ?_
        refine VE.block_normal ?_
        refine VE.seq ?_
        refine VC.region ?_
        refine VL.q (Q.move rfl) ?_
        refine VL.quietE (v' := .int .u8 4) (by decide) ((by first | exact Q.addF rfl rfl (by simp only [klo]; omega) (by simp only [khi]; omega) | exact Q.addM (M := 256) rfl rfl rfl rfl)) (by rfl) ?_
        refine VL.q (Q.assign rfl) ?_
        refine VL.nil ?_
        refine VE.then_normal ?_
        refine VC.rnd (m := 35) ?_
        refine VC.seq ?_
        refine VC.seq ?_
        refine VC.region ?_
        refine VL.q (Q.move rfl) ?_
        refine VL.quietE (v' := .bool false) (by decide) (Q.lt rfl rfl) (by rfl) ?_
        refine VL.nil ?_
        refine VE.seq ?_
        refine VC.condF rfl ?_
        refine VC.exit ?_
        refine VE.then_exit ?_
        refine VE.then_exit ?_
        refine VE.block_here ?_
        refine VE.seq ?_
        refine VC.region ?_
        refine VL.q (Q.loadA ty46 rfl zM zS) ?_
        refine VL.eff (O.store ty46 rfl rfl rfl rfl zU zP ?_)
        refine VL.nil ?_
        exact VE.give zE zB hn

end Go.Proofs.YtencghlmckbmlaaDoor
