/- The plain law of TopChoice: what has been heard, what is chosen, who reaches whom. No program. -/
import Derived.Test.YtencghlmckbmlaaGreatRows
import Derived.Test.YtencghlmckbmlaaGreatCTop1
namespace Go.Proofs.YtencghlmckbmlaaGreat
open Go Go.RowKit Go.Sx
set_option maxRecDepth 100000

def noSp : Sp := ⟨0, 0, 0, 0, ByteArray.empty, 0, false⟩
/-- the spot of node q -/
def pAt (pts : List Sp) (q : Nat) : Sp := pts.getD (q - 1) noSp
theorem pAt_get {pts : List Sp} {k : Nat} (h : k < pts.length) : pAt pts (1 + k) = pts[k] := by
  simp [pAt, List.getD, h]
def chanOf (pts : List Sp) (q : Nat) : Int := 1 + (((pAt pts q).ch % 4 : Nat) : Int)
def mt (pts : List Sp) (name : ByteArray) (sec : Bool) (q : Nat) : Bool := ((pAt pts q).nm.toList == name.toList) && ((pAt pts q).sec == sec)
def val (L : Nat → Int) (pts : List Sp) (q : Nat) : Int := L q - ((pAt pts q).ld : Int)
def bt (L : Nat → Int) (pts : List Sp) (b q : Nat) : Prop := val L pts q < val L pts b ∨ (val L pts q = val L pts b ∧ (L q < L b ∨ (L q = L b ∧ b < q)))
/-- what a station knows when it has listened to some nodes -/
structure Got (L : Nat → Int) (pts : List Sp) (name : ByteArray) (sec : Bool) (hs : List Nat) (l : List Cd) (lv : List Int) (best : Nat) (tm : Int) : Prop where
  tab : CdsOk l
  cd : ∀ c ∈ l, c.a ∈ hs ∧ -820 ≤ L c.a ∧ c.ch = chanOf pts c.a ∧ c.lv = L c.a ∧ c.ld = ((pAt pts c.a).ld : Int) ∧ c.nm = (pAt pts c.a).nm ∧ c.sec = (pAt pts c.a).sec ∧ c.hd ≤ tm
  all : ∀ q ∈ hs, -820 ≤ L q → ∃ c ∈ l, c.a = q
  lvs : ∀ q ∈ hs, -820 ≤ L q → lv[q]? = some (L q)
  pos : ∀ q ∈ hs, 1 ≤ q ∧ q ≤ pts.length
  len : lv.length = pts.length + 1
  most : l.length ≤ hs.length
  b0 : best = 0 → ∀ q ∈ hs, -820 ≤ L q → mt pts name sec q = false
  b1 : best ≠ 0 → best ∈ hs ∧ -820 ≤ L best ∧ mt pts name sec best = true ∧ ∀ q ∈ hs, -820 ≤ L q → mt pts name sec q = true → q ≠ best → bt L pts best q
section
variable {L : Nat → Int} {pts : List Sp} {name : ByteArray} {sec : Bool} {hs : List Nat} {l : List Cd} {lv : List Int} {best : Nat} {tm : Int}
theorem Got.start (tm : Int) : Got L pts name sec [] [] (List.replicate (pts.length + 1) 0) 0 tm where
  tab := ⟨fun c h => (by cases h), fun i j hi => (by simp at hi)⟩
  cd := fun c h => by cases h
  all := fun q h => by cases h
  lvs := fun q h => by cases h
  pos := fun q h => by cases h
  len := by simp
  most := Nat.le_refl _
  b0 := fun _ q h => by cases h
  b1 := fun h => absurd rfl h
theorem Got.later (h : Got L pts name sec hs l lv best tm) {tm' : Int} (ht : tm ≤ tm') : Got L pts name sec hs l lv best tm' :=
  ⟨h.tab, fun c hc => by obtain ⟨a, b, d, e, f, g, i, j⟩ := h.cd c hc; exact ⟨a, b, d, e, f, g, i, Int.le_trans j ht⟩, h.all, h.lvs, h.pos, h.len, h.most, h.b0, h.b1⟩
theorem Got.skip (h : Got L pts name sec hs l lv best tm) {i : Nat} (hi : 1 ≤ i ∧ i ≤ pts.length) (hL : L i < -820) : Got L pts name sec (hs ++ [i]) l lv best tm where
  tab := h.tab
  cd := fun c hc => by obtain ⟨a, b⟩ := h.cd c hc; exact ⟨List.mem_append_left _ a, b⟩
  all := fun q hq hl => by
    rcases List.mem_append.1 hq with hq | hq
    · exact h.all q hq hl
    · rw [List.mem_singleton] at hq; subst hq; omega
  lvs := fun q hq hl => by
    rcases List.mem_append.1 hq with hq | hq
    · exact h.lvs q hq hl
    · rw [List.mem_singleton] at hq; subst hq; omega
  pos := fun q hq => by
    rcases List.mem_append.1 hq with hq | hq
    · exact h.pos q hq
    · rw [List.mem_singleton] at hq; subst hq; exact hi
  len := h.len
  most := by rw [List.length_append]; have := h.most; omega
  b0 := fun hb q hq hl => by
    rcases List.mem_append.1 hq with hq | hq
    · exact h.b0 hb q hq hl
    · rw [List.mem_singleton] at hq; subst hq; omega
  b1 := fun hb => by
    obtain ⟨a, b, c, d⟩ := h.b1 hb
    refine ⟨List.mem_append_left _ a, b, c, fun q hq hl => ?_⟩
    rcases List.mem_append.1 hq with hq | hq
    · exact d q hq hl
    · rw [List.mem_singleton] at hq; subst hq; omega
theorem bt_total {b q : Nat} (h : b ≠ q) (hn : ¬ bt L pts b q) : bt L pts q b := by
  unfold bt at *
  omega
theorem bt_trans {a b c : Nat} (h1 : bt L pts a b) (h2 : bt L pts b c) : bt L pts a c := by
  unfold bt at *
  omega
theorem Got.learn (h : Got L pts name sec hs l lv best tm) {i : Nat} (hi : 1 ≤ i ∧ i ≤ pts.length) (hL : -820 ≤ L i) (hni : i ∉ hs) {l' : List Cd} {new : Cd} {best' : Nat} (hok : CdsOk l') (hmem : ∀ q, q ∈ l' ↔ q = new ∨ q ∈ l) (hlen : l'.length = l.length + 1)
    (ha : new.a = i) (hch : new.ch = chanOf pts i) (hlv : new.lv = L i) (hld : new.ld = ((pAt pts i).ld : Int)) (hnm : new.nm = (pAt pts i).nm) (hsec : new.sec = (pAt pts i).sec) (hhd : new.hd ≤ tm)
    (hb : (mt pts name sec i = false ∧ best' = best) ∨ (mt pts name sec i = true ∧ ((best = 0 ∧ best' = i) ∨ (best ≠ 0 ∧ bt L pts best i ∧ best' = best) ∨ (best ≠ 0 ∧ ¬ bt L pts best i ∧ best' = i)))) :
    Got L pts name sec (hs ++ [i]) l' (lv.set i (L i)) best' tm where
  tab := hok
  cd := fun c hc => by
    rcases (hmem c).1 hc with rfl | hc
    · rw [ha]
      exact ⟨by simp, hL, hch, hlv, hld, hnm, hsec, hhd⟩
    · obtain ⟨a, b⟩ := h.cd c hc
      exact ⟨List.mem_append_left _ a, b⟩
  all := fun q hq hl => by
    rcases List.mem_append.1 hq with hq | hq
    · obtain ⟨c, h1, h2⟩ := h.all q hq hl
      exact ⟨c, (hmem c).2 (.inr h1), h2⟩
    · rw [List.mem_singleton] at hq
      subst hq
      exact ⟨new, (hmem new).2 (.inl rfl), ha⟩
  lvs := fun q hq hl => by
    rcases List.mem_append.1 hq with hq | hq
    · have hne : i ≠ q := by rintro rfl; exact hni hq
      rw [List.getElem?_set_ne hne]
      exact h.lvs q hq hl
    · rw [List.mem_singleton] at hq
      subst hq
      rw [List.getElem?_set_self (by rw [h.len]; omega)]
  pos := fun q hq => by
    rcases List.mem_append.1 hq with hq | hq
    · exact h.pos q hq
    · rw [List.mem_singleton] at hq; subst hq; exact hi
  len := by rw [List.length_set]; exact h.len
  most := by rw [List.length_append, hlen]; have := h.most; simp; omega
  b0 := fun hb0 q hq hl => by
    rcases hb with ⟨h1, h2⟩ | ⟨h1, h2 | h2 | h2⟩
    · rcases List.mem_append.1 hq with hq | hq
      · exact h.b0 (h2 ▸ hb0) q hq hl
      · rw [List.mem_singleton] at hq; subst hq; exact h1
    · omega
    · omega
    · omega
  b1 := fun hb1 => by
    rcases hb with ⟨h1, h2⟩ | ⟨h1, ⟨h2, h3⟩ | ⟨h2, h3, h4⟩ | ⟨h2, h3, h4⟩⟩
    · subst h2
      obtain ⟨a, b, c, d⟩ := h.b1 hb1
      refine ⟨List.mem_append_left _ a, b, c, fun q hq hl hm hne => ?_⟩
      rcases List.mem_append.1 hq with hq | hq
      · exact d q hq hl hm hne
      · rw [List.mem_singleton] at hq; subst hq; rw [h1] at hm; cases hm
    · subst h3
      refine ⟨by simp, hL, h1, fun q hq hl hm hne => ?_⟩
      rcases List.mem_append.1 hq with hq | hq
      · rw [h.b0 h2 q hq hl] at hm; cases hm
      · rw [List.mem_singleton] at hq; exact absurd hq hne
    · subst h4
      obtain ⟨a, b, c, d⟩ := h.b1 hb1
      refine ⟨List.mem_append_left _ a, b, c, fun q hq hl hm hne => ?_⟩
      rcases List.mem_append.1 hq with hq | hq
      · exact d q hq hl hm hne
      · rw [List.mem_singleton] at hq; subst hq; exact h3
    · subst h4
      obtain ⟨a, b, c, d⟩ := h.b1 h2
      have hbi : best ≠ best' := by rintro rfl; exact hni a
      have hbt := bt_total hbi h3
      refine ⟨by simp, hL, h1, fun q hq hl hm hne => ?_⟩
      rcases List.mem_append.1 hq with hq | hq
      · by_cases e : q = best
        · subst e; exact hbt
        · exact bt_trans hbt (d q hq hl hm e)
      · rw [List.mem_singleton] at hq; exact absurd hq hne
end

/-! the choice -/
def okC (name : ByteArray) (sec : Bool) (c : Cd) : Bool := (c.nm.toList == name.toList) && (c.sec == sec)
def btC (b q : Cd) : Prop := q.lv - q.ld < b.lv - b.ld ∨ (q.lv - q.ld = b.lv - b.ld ∧ (q.lv < b.lv ∨ (q.lv = b.lv ∧ b.a < q.a)))
theorem betterB_iff (c b : Cd) : betterB c b = true ↔ (b.lv - b.ld < c.lv - c.ld ∨ (c.lv - c.ld = b.lv - b.ld ∧ b.lv < c.lv)) := by
  unfold betterB orZ cmpZ
  rw [decide_eq_true_eq]
  by_cases h1 : c.lv - c.ld < b.lv - b.ld <;> by_cases h2 : b.lv - b.ld < c.lv - c.ld <;> by_cases h3 : c.lv < b.lv <;> by_cases h4 : b.lv < c.lv <;> simp [h1, h2, h3, h4] <;> omega
structure PickI (name : ByteArray) (sec : Bool) (l : List Cd) (b : Option Cd) : Prop where
  none : b = none → ∀ c ∈ l, okC name sec c = false
  some : ∀ c, b = some c → c ∈ l ∧ okC name sec c = true ∧ ∀ q ∈ l, okC name sec q = true → q = c ∨ btC c q
theorem pick_inv (name : ByteArray) (sec : Bool) {l : List Cd} (h : CdsOk l) : ∀ k, k ≤ l.length → PickI name sec (l.take k) (pickF name sec (l.take k))
  | 0, _ => by
    rw [List.take_zero]
    exact ⟨fun _ c h => (by cases h), fun c h => (by cases h)⟩
  | k + 1, hk => by
    have ih := pick_inv name sec h k (by omega)
    have hlt : k < l.length := by omega
    rw [pick_step name sec l k hlt, List.take_succ_eq_append_getElem hlt]
    have hle : ∀ q ∈ l.take k, q.a < l[k].a := fun q hq => by
      obtain ⟨i, hi, rfl⟩ := List.getElem_of_mem hq
      rw [List.length_take] at hi
      rw [List.getElem_take]
      exact h.srt i k (by omega) hlt (by omega)
    generalize hb : pickF name sec (l.take k) = b at *
    unfold pstep
    by_cases hok : okC name sec l[k] = true
    · have e : ((l[k].nm.toList == name.toList) && ((l[k].sec == sec) && betterO l[k] b)) = betterO l[k] b := by
        unfold okC at hok
        rw [← Bool.and_assoc, hok, Bool.true_and]
      rw [e]
      cases b with
      | none =>
        refine ⟨fun h => (by cases h), fun c hc => ?_⟩
        simp only [betterO, if_true, Option.some.injEq] at hc
        subst hc
        refine ⟨List.mem_append_right _ (List.mem_singleton.2 rfl), hok, fun q hq hm => ?_⟩
        rcases List.mem_append.1 hq with hq | hq
        · rw [ih.none rfl q hq] at hm; cases hm
        · rw [List.mem_singleton] at hq; exact .inl hq
      | some b =>
        obtain ⟨b1, b2, b3⟩ := ih.some b rfl
        have hba := hle b b1
        by_cases hbet : betterB l[k] b = true
        · have e2 : betterO l[k] (some b) = true := hbet
          rw [e2, if_pos rfl]
          rw [betterB_iff] at hbet
          refine ⟨fun h => (by cases h), fun c hc => ?_⟩
          simp only [Option.some.injEq] at hc
          subst hc
          refine ⟨List.mem_append_right _ (List.mem_singleton.2 rfl), hok, fun q hq hm => ?_⟩
          rcases List.mem_append.1 hq with hq | hq
          · rcases b3 q hq hm with rfl | h3
            · right; unfold btC; omega
            · right; unfold btC at *; omega
          · rw [List.mem_singleton] at hq; exact .inl hq
        · have e2 : betterO l[k] (some b) = false := by simpa [betterO] using hbet
          rw [e2, if_neg (by simp)]
          rw [betterB_iff] at hbet
          refine ⟨fun h => (by cases h), fun c hc => ?_⟩
          simp only [Option.some.injEq] at hc
          subst hc
          refine ⟨List.mem_append_left _ b1, b2, fun q hq hm => ?_⟩
          rcases List.mem_append.1 hq with hq | hq
          · exact b3 q hq hm
          · rw [List.mem_singleton] at hq; subst hq; right; unfold btC; omega
    · have hok : okC name sec l[k] = false := by simpa using hok
      have e : ((l[k].nm.toList == name.toList) && ((l[k].sec == sec) && betterO l[k] b)) = false := by
        unfold okC at hok
        rw [← Bool.and_assoc, hok, Bool.false_and]
      rw [e, if_neg (by simp)]
      refine ⟨fun h c hc => ?_, fun c hc => ?_⟩
      · rcases List.mem_append.1 hc with hc | hc
        · exact ih.none h c hc
        · rw [List.mem_singleton] at hc; subst hc; exact hok
      · obtain ⟨b1, b2, b3⟩ := ih.some c hc
        refine ⟨List.mem_append_left _ b1, b2, fun q hq hm => ?_⟩
        rcases List.mem_append.1 hq with hq | hq
        · exact b3 q hq hm
        · rw [List.mem_singleton] at hq; subst hq; rw [hok] at hm; cases hm
theorem Got.choose {L : Nat → Int} {pts : List Sp} {name : ByteArray} {sec : Bool} {hs : List Nat} {l : List Cd} {lv : List Int} {best : Nat} {tm : Int} (h : Got L pts name sec hs l lv best tm) :
    (best = 0 → pickF name sec l = none) ∧ (best ≠ 0 → ∃ c, pickF name sec l = some c ∧ c.a = best ∧ c ∈ l) := by
  have hp := pick_inv name sec h.tab l.length (Nat.le_refl _)
  rw [List.take_length] at hp
  have hmt : ∀ c ∈ l, okC name sec c = mt pts name sec c.a := fun c hc => by
    obtain ⟨_, _, _, _, _, h6, h7, _⟩ := h.cd c hc
    unfold okC mt
    rw [h6, h7]
  refine ⟨fun hb => ?_, fun hb => ?_⟩
  · cases hc : pickF name sec l with
    | none => rfl
    | some c =>
      obtain ⟨h1, h2, _⟩ := hp.some c hc
      obtain ⟨a1, a2, _⟩ := h.cd c h1
      rw [hmt c h1, h.b0 hb _ a1 a2] at h2
      cases h2
  · obtain ⟨b1, b2, b3, b4⟩ := h.b1 hb
    obtain ⟨d, d1, d2⟩ := h.all best b1 b2
    cases hc : pickF name sec l with
    | none =>
      have := hp.none hc d d1
      rw [hmt d d1, d2, b3] at this
      cases this
    | some c =>
      obtain ⟨h1, h2, h3⟩ := hp.some c hc
      refine ⟨c, rfl, ?_, h1⟩
      obtain ⟨a1, a2, _, a4, a5, _⟩ := h.cd c h1
      obtain ⟨_, _, _, e4, e5, _⟩ := h.cd d d1
      by_cases he : c.a = best
      · exact he
      · have hbt := b4 c.a a1 a2 (by rw [← hmt c h1]; exact h2) he
        rcases h3 d d1 (by rw [hmt d d1, d2]; exact b3) with rfl | h4
        · exact absurd d2 he
        · exfalso
          unfold btC at h4
          unfold bt val at hbt
          rw [a4, a5, e4, e5, d2] at h4
          omega

/-! who hears whom -/
def lvAt (power : Int) (self : Sp) (pts : List Sp) (sw : List Nat) (q : Nat) : Int := lev (rsOf power self pts) (wsd (pts.length + 1) sw) q 0
theorem rsOf_zero (power : Int) (self : Sp) (pts : List Sp) : raAt (rsOf power self pts) 0 = raSelf power self := rfl
theorem rsOf_at (power : Int) (self : Sp) (pts : List Sp) (q : Nat) (h1 : 1 ≤ q) (h2 : q ≤ pts.length) : raAt (rsOf power self pts) q = raPt power (pAt pts q) := by
  obtain ⟨k, rfl⟩ : ∃ k, q = 1 + k := ⟨q - 1, by omega⟩
  rw [pAt_get (by omega)]
  have hk : k < pts.length := by omega
  simp [raAt, rsOf, List.getD, Nat.add_comm 1 k, hk]
theorem chan_at (power : Int) (self : Sp) (pts : List Sp) (q : Nat) (h1 : 1 ≤ q) (h2 : q ≤ pts.length) : (raAt (rsOf power self pts) q).c = chanOf pts q := by
  rw [rsOf_at _ _ _ _ h1 h2]
  rfl
theorem chan_bd (pts : List Sp) (q : Nat) : 1 ≤ chanOf pts q ∧ chanOf pts q ≤ 4 := by unfold chanOf; omega
theorem lev_sym (power : Int) (self : Sp) (pts : List Sp) (sd : List (List Int)) (hsym : ∀ i j, shAt sd i j = shAt sd j i) (q : Nat) (h1 : 1 ≤ q) (h2 : q ≤ pts.length) : lev (rsOf power self pts) sd 0 q = lev (rsOf power self pts) sd q 0 := by
  unfold lev
  rw [rsOf_zero, rsOf_at _ _ _ _ h1 h2, hsym 0 q, dist_sym]
  rfl
theorem hears_tuned (power : Int) (self : Sp) (pts : List Sp) (sd : List (List Int)) (q : Nat) (h1 : 1 ≤ q) (h2 : q ≤ pts.length) (ch : Int) (hc : chanOf pts q = ch) : hearsB (tuneR (rsOf power self pts) 0 ch) sd 0 q = decide (-820 ≤ lev (rsOf power self pts) sd q 0) := by
  obtain ⟨_, _, _, h4, _⟩ := tuneR_at (rsOf power self pts) 0 ch q
  obtain ⟨_, _, _, _, h5⟩ := tuneR_at (rsOf power self pts) 0 ch 0
  have e1 : (raAt (tuneR (rsOf power self pts) 0 ch) q).c = ch := by rw [h4 (by omega), chan_at _ _ _ _ h1 h2, hc]
  have e2 : (raAt (tuneR (rsOf power self pts) 0 ch) 0).c = ch := h5 rfl (by rw [rsOf_len]; omega)
  unfold hearsB
  rw [e1, e2, lev_tune, decide_eq_true (show q ≠ 0 by omega), decide_eq_true rfl, Bool.true_and, Bool.true_and]
theorem hears_back (power : Int) (self : Sp) (pts : List Sp) (sd : List (List Int)) (q : Nat) (h1 : 1 ≤ q) (h2 : q ≤ pts.length) (ch : Int) (hc : chanOf pts q = ch) : hearsB (tuneR (rsOf power self pts) 0 ch) sd q 0 = decide (-820 ≤ lev (rsOf power self pts) sd 0 q) := by
  obtain ⟨_, _, _, h4, _⟩ := tuneR_at (rsOf power self pts) 0 ch q
  obtain ⟨_, _, _, _, h5⟩ := tuneR_at (rsOf power self pts) 0 ch 0
  have e1 : (raAt (tuneR (rsOf power self pts) 0 ch) q).c = ch := by rw [h4 (by omega), chan_at _ _ _ _ h1 h2, hc]
  have e2 : (raAt (tuneR (rsOf power self pts) 0 ch) 0).c = ch := h5 rfl (by rw [rsOf_len]; omega)
  unfold hearsB
  rw [e1, e2, lev_tune, decide_eq_true (show 0 ≠ q by omega), decide_eq_true rfl, Bool.true_and, Bool.true_and]
theorem can_here (power : Int) (self : Sp) (pts : List Sp) (sd : List (List Int)) (x : Sd) (h1 : 1 ≤ x.n) (h2 : x.n ≤ pts.length) (ch : Int) (hc : chanOf pts x.n = ch) : canB (tuneR (rsOf power self pts) 0 ch) sd x 0 = (decide (-820 ≤ lev (rsOf power self pts) sd x.n 0) && decide (x.need ≤ lev (rsOf power self pts) sd x.n 0)) := by
  unfold canB
  rw [hears_tuned power self pts sd x.n h1 h2 ch hc, lev_tune]
theorem can_there (power : Int) (self : Sp) (pts : List Sp) (sd : List (List Int)) (q : Nat) (h1 : 1 ≤ q) (h2 : q ≤ pts.length) (ch : Int) (hc : chanOf pts q = ch) (s e need : Int) : canB (tuneR (rsOf power self pts) 0 ch) sd ⟨0, s, e, need⟩ q = (decide (-820 ≤ lev (rsOf power self pts) sd 0 q) && decide (need ≤ lev (rsOf power self pts) sd 0 q)) := by
  unfold canB
  rw [hears_back power self pts sd q h1 h2 ch hc, lev_tune]
theorem need_resp (i : Nat) (h : i < 12) : 0 ≤ respOf (i : Int) ∧ respOf (i : Int) < 12 ∧ rNeed (respOf (i : Int)) ≤ rNeed (i : Int) := by
  have key : ∀ j : Fin 12, 0 ≤ respOf ((j : Nat) : Int) ∧ respOf ((j : Nat) : Int) < 12 ∧ rNeed (respOf ((j : Nat) : Int)) ≤ rNeed ((j : Nat) : Int) := by decide
  exact key ⟨i, h⟩
theorem air_small (b : Int) (h0 : 0 ≤ b) (h1 : b ≤ 100) : 24 ≤ airOf 0 b ∧ airOf 0 b ≤ 200 := by
  have e : airOf 0 b = 20 + 4 * ((8 * b + 22 + 24 - 1) / 24) := rfl
  rw [e]
  omega
theorem vis_at (k : Nat) (hk : k < 4) : visC[k * 4 + 0]? = some (.int .i64 ((k : Int) + 1)) ∧ visC[k * 4 + 1]? = some (.int .i64 (100000 * (k : Int))) ∧ visC[k * 4 + 2]? = some (.int .i64 (100000 * (k : Int) + 100000)) := by
  match k, hk with
  | 0, _ | 1, _ | 2, _ | 3, _ => exact ⟨rfl, rfl, rfl⟩

/-! the beacons of a channel -/
structure SdsI (pts : List Sp) (k i : Nat) (ls : List Sd) (now : Int) : Prop where
  len : ls.length ≤ i
  el : ∀ x ∈ ls, 1 ≤ x.n ∧ x.n ≤ i ∧ chanOf pts x.n = (k : Int) + 1 ∧ 100000 * (k : Int) ≤ x.s ∧ x.s < x.e ∧ x.e ≤ now ∧ x.need = -820
  pw : ∀ a b (ha : a < ls.length) (hb : b < ls.length), a < b → ls[a].n < ls[b].n ∧ ls[a].e ≤ ls[b].s
  all : ∀ q, 1 ≤ q → q ≤ i → chanOf pts q = (k : Int) + 1 → ∃ x ∈ ls, x.n = q
  now : 100000 * (k : Int) ≤ now ∧ now ≤ 100000 * (k : Int) + 200 * (i : Int)
theorem SdsI.start (pts : List Sp) (k : Nat) : SdsI pts k 0 [] (100000 * (k : Int)) := ⟨Nat.le_refl _, fun x h => (by cases h), fun a b ha => (by simp at ha), fun q h1 h2 => (by omega), by omega⟩
theorem SdsI.skip {pts : List Sp} {k i : Nat} {ls : List Sd} {now : Int} (h : SdsI pts k i ls now) (hc : chanOf pts (1 + i) ≠ (k : Int) + 1) : SdsI pts k (i + 1) ls now where
  len := by have := h.len; omega
  el := fun x hx => by obtain ⟨a, b, c⟩ := h.el x hx; exact ⟨a, by omega, c⟩
  pw := h.pw
  all := fun q h1 h2 h3 => by
    by_cases e : q = 1 + i
    · subst e; exact absurd h3 hc
    · exact h.all q h1 (by omega) h3
  now := by have := h.now; omega
theorem SdsI.add {pts : List Sp} {k i : Nat} {ls : List Sd} {now air : Int} (h : SdsI pts k i ls now) (hc : chanOf pts (1 + i) = (k : Int) + 1) (ha : 24 ≤ air ∧ air ≤ 200) : SdsI pts k (i + 1) (ls ++ [⟨1 + i, now, now + air, -820⟩]) (now + air) where
  len := by rw [List.length_append]; have := h.len; simp; omega
  el := fun x hx => by
    rcases List.mem_append.1 hx with hx | hx
    · obtain ⟨a, b, c, d, e, f, g⟩ := h.el x hx
      exact ⟨a, by omega, c, d, e, by omega, g⟩
    · rw [List.mem_singleton] at hx
      subst hx
      have := h.now
      exact ⟨by show 1 ≤ 1 + i; omega, by show 1 + i ≤ i + 1; omega, hc, by show 100000 * (k : Int) ≤ now; omega, by show now < now + air; omega, Int.le_refl _, rfl⟩
  pw := fun a b ha' hb' hlt => by
    rw [List.length_append, List.length_singleton] at ha' hb'
    have hal : a < ls.length := by omega
    rw [List.getElem_append_left hal]
    by_cases hb : b < ls.length
    · rw [List.getElem_append_left hb]
      exact h.pw a b hal hb hlt
    · rw [List.getElem_append_right (by omega)]
      obtain ⟨a1, a2, a3, a4, a5, a6, a7⟩ := h.el _ (List.getElem_mem hal)
      simp only [List.getElem_singleton]
      exact ⟨by omega, a6⟩
  all := fun q h1 h2 h3 => by
    by_cases e : q = 1 + i
    · subst e; exact ⟨_, List.mem_append_right _ (List.mem_singleton.2 rfl), rfl⟩
    · obtain ⟨x, hx, hq⟩ := h.all q h1 (by omega) h3
      exact ⟨x, List.mem_append_left _ hx, hq⟩
  now := by have := h.now; omega
theorem SdsI.ok {pts : List Sp} {k : Nat} {ls : List Sd} {now : Int} (h : SdsI pts k pts.length ls now) (hn : pts.length ≤ 8) (hk : k < 4) : SdsOk (pts.length + 1) ls where
  most := by have := h.len; omega
  node := fun x hx => by obtain ⟨a, b, _⟩ := h.el x hx; omega
  time := fun x hx => by obtain ⟨a, b, c, d, e, f, g⟩ := h.el x hx; have := h.now; omega
  need := fun x hx => by obtain ⟨a, b, c, d, e, f, g⟩ := h.el x hx; omega
  apart := fun i j hi hj hne => by
    rcases Nat.lt_or_gt_of_ne hne with h1 | h1
    · obtain ⟨a, b⟩ := h.pw i j hi hj h1
      exact ⟨by omega, .inr b⟩
    · obtain ⟨a, b⟩ := h.pw j i hj hi h1
      exact ⟨by omega, .inl b⟩
/-- the texts of the beacons, as they lie in memory -/
structure BRow where
  p : Option Addr
  c : Nat
  d : List UInt8
def brC (r : BRow) : List Value := [.slice r.p r.d.length r.c]
theorem brC_len (r : BRow) : (brC r).length = 1 := rfl
def RdB (ts : List BRow) (W : World) : Prop := ∀ r ∈ ts, Rd W r.p (bs r.d)
structure TxI (pts : List Sp) (ls : List Sd) (ts : List BRow) : Prop where
  len : ts.length = ls.length
  at_ : ∀ m (h : m < ls.length), (ts[m]'(by omega)).d = txt ls[m].n (pAt pts ls[m].n) ∧ (ts[m]'(by omega)).d.length ≤ (ts[m]'(by omega)).c
theorem TxI.start (pts : List Sp) : TxI pts [] [] := ⟨rfl, fun m h => by simp at h⟩
theorem TxI.add {pts : List Sp} {ls : List Sd} {ts : List BRow} (h : TxI pts ls ts) {x : Sd} {r : BRow} (hd : r.d = txt x.n (pAt pts x.n)) (hc : r.d.length ≤ r.c) : TxI pts (ls ++ [x]) (ts ++ [r]) where
  len := by rw [List.length_append, List.length_append, h.len]; rfl
  at_ := fun m hm => by
    have hl := h.len
    rw [List.length_append, List.length_singleton] at hm
    by_cases h1 : m < ls.length
    · rw [List.getElem_append_left h1, List.getElem_append_left (by omega)]
      exact h.at_ m h1
    · rw [List.getElem_append_right (by omega), List.getElem_append_right (by omega)]
      simp only [List.getElem_singleton]
      exact ⟨hd, hc⟩
theorem rdb_snoc {L : List Rs} {W : World} {ids : List Nat} {ts : List BRow} {r : BRow} {e : TypeId} (hw : Go.Sx.Own W L) (h1 : Rs.frz ids (RdB ts) ∈ L) (h2 : Rs.row (.slice r.p r.d.length r.c) e 1 r.d.length (bs r.d) ∈ L) : RdB (ts ++ [r]) W := by
  intro q hq
  rcases List.mem_append.1 hq with hq | hq
  · exact Rd.frz hw h1 q hq
  · rw [List.mem_singleton] at hq
    subst hq
    exact Rd.row hw h2
theorem says_of {els : List El} {s : Sp} (h : els.map elK = (bcnE s).map elK) : Says els s.nm.data.toList (UInt8.ofNat s.ld) s.sec := by
  have hlen := congrArg List.length h
  simp only [List.length_map] at hlen
  have hat : ∀ i (hi : i < els.length), elK els[i] = elK ((bcnE s)[i]'(by omega)) := fun i hi => by
    have := congrArg (fun l => l[i]?) h
    simpa [hi, show i < (bcnE s).length by omega] using this
  have hb : (bcnE s).length = if s.sec then 3 else 2 := by unfold bcnE; cases s.sec <;> rfl
  refine ⟨?_, fun h0 => ?_, fun h0 => ?_, fun h1 => ?_, fun h1 => ?_, fun h2 => ?_, ?_⟩
  · rw [hlen, hb]; split <;> omega
  · exact congrArg Prod.fst (hat 0 h0)
  · exact congrArg Prod.snd (hat 0 h0)
  · exact congrArg Prod.fst (hat 1 h1)
  · exact congrArg Prod.snd (hat 1 h1)
  · have h3 := congrArg Prod.fst (hat 2 h2)
    have hs : s.sec = true := by
      cases hs : s.sec with
      | true => rfl
      | false => rw [hlen, hb, hs] at h2; simp at h2
    have : (elK ((bcnE s)[2]'(by omega))).1 = 48 := by
      simp [bcnE, hs, elK]
    rw [this] at h3
    exact h3
  · rw [hlen, hb]
    cases s.sec <;> rfl
theorem bcnE_ok (s : Sp) (h : s.nm.data.toList.length ≤ 32) : (∀ e ∈ bcnE s, ElOk e) ∧ (bcnE s).length ≤ 10 := by
  unfold bcnE
  refine ⟨fun e he => ?_, ?_⟩
  · simp only [List.mem_cons] at he
    rcases he with rfl | rfl | he
    · exact ⟨by show 0 ≤ 199; decide, by show s.nm.data.toList.length ≤ 200; omega, Nat.le_refl _⟩
    · exact ⟨by show 11 ≤ 199; decide, by show 1 ≤ 200; decide, Nat.le_refl _⟩
    · split at he
      · rw [List.mem_singleton] at he
        subst he
        exact ⟨by show 48 ≤ 199; decide, by show 1 ≤ 200; decide, Nat.le_refl _⟩
      · cases he
  · cases s.sec <;> simp
end Go.Proofs.YtencghlmckbmlaaGreat
