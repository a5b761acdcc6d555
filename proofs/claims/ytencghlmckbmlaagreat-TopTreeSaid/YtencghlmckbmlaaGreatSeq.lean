/- What a sequence of parts tells: plain, no program. -/
import Derived.Test.YtencghlmckbmlaaGreatParts
namespace Go.Sx
open Go Go.RowKit

def okKind (k : Nat) (b : Bool) : Prop := (k = 1 ∧ b = false) ∨ (k = 2 ∧ b = true) ∨ (k = 3 ∧ b = false) ∨ (k = 4 ∧ b = false) ∨ (k = 5 ∧ b = true) ∨ (k = 6 ∧ b = false) ∨ (k = 7 ∧ b = true)

structure InvP (s : List Part × Int) : Prop where
  ok : OkP s
  kinds : ∀ p ∈ s.1, okKind p.kind p.peer
  rts : ∀ j p, s.1[j]? = some p → p.kind = 1 → j = 0
  len : lenP s.1 = s.2
  first : ∀ p ∈ s.1, ∀ p0, s.1[0]? = some p0 → p0.start + p0.air ≤ p.start + p.air

theorem InvP.nil : InvP ([], 0) := ⟨OkP.nil, (fun p h => by cases h), (fun j p h => by simp at h), rfl, (fun p h => by cases h)⟩

theorem InvP.add {s : List Part × Int} (h : InvP s) (k : Nat) (peer : Bool) (i : Nat) (air : Int) (ha : 1 ≤ air ∧ air ≤ 32767) (hk : okKind k peer) (h1 : k ≠ 1 ∨ s.1.length = 0) : InvP (addP s k peer i air) := by
  have hok := h.ok.add k peer i air ha
  have hst : s.2 + 1 ≤ (if s.1.length = 0 then 0 else s.2 + 16 : Int) + air ∧ 0 ≤ (if s.1.length = 0 then 0 else s.2 + 16 : Int) := by
    have := h.ok.lo
    split
    · rename_i h0
      have e : s.1 = [] := List.eq_nil_of_length_eq_zero h0
      have hl := h.len
      rw [e] at hl
      have : lenP [] = 0 := rfl
      omega
    · omega
  refine ⟨hok, ?_, ?_, ?_, ?_⟩
  · intro p hp
    rcases List.mem_append.1 hp with hp | hp
    · exact h.kinds p hp
    · simp only [List.mem_singleton] at hp
      subst hp
      exact hk
  · intro j p hp hpk
    show j = 0
    have hp' : (s.1 ++ [(⟨k, peer, i, if s.1.length = 0 then 0 else s.2 + 16, air, 0⟩ : Part)])[j]? = some p := hp
    by_cases hj : j < s.1.length
    · rw [List.getElem?_append_left hj] at hp'
      exact h.rts j p hp' hpk
    · rw [List.getElem?_append_right (by omega)] at hp'
      have hj0 : j - s.1.length = 0 := by
        have := (List.getElem?_eq_some_iff.1 hp').1
        simp at this
        omega
      rw [hj0] at hp'
      simp only [List.getElem?_cons_zero, Option.some.injEq] at hp'
      subst hp'
      rcases h1 with h1 | h1
      · exact absurd hpk h1
      · omega
  · show lenP (s.1 ++ [_]) = _
    unfold lenP
    rw [List.foldl_append]
    have hl : List.foldl (fun e p => if e < p.start + p.air then p.start + p.air else e) 0 s.1 = s.2 := h.len
    rw [hl]
    show (if s.2 < (if s.1.length = 0 then 0 else s.2 + 16) + air then (if s.1.length = 0 then 0 else s.2 + 16) + air else s.2) = (if s.1.length = 0 then 0 else s.2 + 16) + air
    rw [if_pos (by omega)]
  · intro p hp p0 h0
    have h0' : (s.1 ++ [(⟨k, peer, i, if s.1.length = 0 then 0 else s.2 + 16, air, 0⟩ : Part)])[0]? = some p0 := h0
    by_cases hz : s.1.length = 0
    · have e : s.1 = [] := List.eq_nil_of_length_eq_zero hz
      rw [e] at h0'
      simp only [List.nil_append, List.getElem?_cons_zero, Option.some.injEq] at h0'
      rcases List.mem_append.1 hp with hp | hp
      · rw [e] at hp
        cases hp
      · simp only [List.mem_singleton] at hp
        rw [← h0', hp]
        simp [hz]
    · rw [List.getElem?_append_left (by omega)] at h0'
      rcases List.mem_append.1 hp with hp | hp
      · exact h.first p hp p0 h0'
      · simp only [List.mem_singleton] at hp
        subst hp
        have := (h.ok.all p0 (List.mem_of_getElem? h0')).2.2
        show p0.start + p0.air ≤ (if s.1.length = 0 then 0 else s.2 + 16) + air
        omega

theorem inv_raw {q : Exch} (hq : q.Ok) {l : List Int} (hl : ∀ a ∈ l, 1 ≤ a ∧ a ≤ 32767) {n : Nat} (hn : n ≤ l.length) : InvP (q.raw l n) := by
  have hpre : InvP (preP q.prot q.rts q.cts) := by
    unfold preP
    split
    · exact InvP.nil.add _ _ _ _ hq.cts (by simp [okKind]) (.inl (by decide))
    · split
      · exact (InvP.nil.add _ _ _ _ hq.rts (by simp [okKind]) (.inr rfl)).add _ _ _ _ hq.cts (by simp [okKind]) (.inl (by decide))
      · exact InvP.nil
  have hd : ∀ k, k ≤ l.length → InvP (dataP q.pol q.ack (preP q.prot q.rts q.cts) l k) := by
    intro k
    induction k with
    | zero => exact fun _ => hpre
    | succ k ih =>
      intro hk
      have ih := ih (by omega)
      rw [dataP_succ _ _ _ _ _ (by omega)]
      have ha := hl _ (List.getElem_mem (l := l) (n := k) (by omega))
      unfold stepP
      split
      · exact (ih.add _ _ _ _ ha (by simp [okKind]) (.inl (by decide))).add _ _ _ _ hq.ack (by simp [okKind]) (.inl (by decide))
      · exact ih.add _ _ _ _ ha (by simp [okKind]) (.inl (by decide))
  unfold Exch.raw postP
  split
  · exact ((hd n hn).add _ _ _ _ hq.bar (by simp [okKind]) (.inl (by decide))).add _ _ _ _ hq.back (by simp [okKind]) (.inl (by decide))
  · exact hd n hn

theorem lenP_dur (e : Int) (l : List Part) : lenP (l.map (durP e)) = lenP l := by
  unfold lenP
  rw [List.foldl_map]
  rfl

/-- what a part of a sequence of total length T is -/
structure PartOk (T : Int) (k : Nat) (p : Part) : Prop where
  st : 0 ≤ p.start
  air : 1 ≤ p.air
  sum : p.start + p.air + p.dur = T
  dur : 0 ≤ p.dur ∧ p.dur ≤ 32767
  kind : okKind p.kind p.peer
  rts : p.kind = 1 → k = 0

theorem seq_total {q : Exch} (hq : q.Ok) {l : List Int} (hl : ∀ a ∈ l, 1 ≤ a ∧ a ≤ 32767) {n : Nat} (hn : n ≤ l.length) (h16 : l.length ≤ 16) : lenP (q.seq l n) = (q.raw l n).2 ∧ 0 ≤ (q.raw l n).2 ∧ (q.raw l n).2 ≤ 2000000 := by
  have hi := inv_raw hq hl hn
  have hs := raw_small hq l (n := n) (by omega)
  have := hi.ok.lo
  have := hi.ok.hi
  refine ⟨?_, by omega, by omega⟩
  unfold Exch.seq
  rw [lenP_dur]
  exact hi.len

theorem seq_part {q : Exch} (hq : q.Ok) {l : List Int} (hl : ∀ a ∈ l, 1 ≤ a ∧ a ≤ 32767) {n : Nat} (hn : n ≤ l.length) (hd : decide (32767 < q.d0 l n) = false) (k : Nat) (hk : k < (q.seq l n).length) : PartOk (q.raw l n).2 k (q.seq l n)[k] := by
  have hi := inv_raw hq hl hn
  have hk' : k < (q.raw l n).1.length := by rw [seq_length] at hk; exact hk
  have e : (q.seq l n)[k] = durP (q.raw l n).2 (q.raw l n).1[k] := by simp [Exch.seq]
  have hm := List.getElem_mem (l := (q.raw l n).1) (n := k) hk'
  obtain ⟨a, b, c⟩ := hi.ok.all _ hm
  have h0 : 0 < (q.seq l n).length := by omega
  have hd0 := d0_eq h0
  have h0' : 0 < (q.raw l n).1.length := by omega
  have e0 : (q.seq l n)[0] = durP (q.raw l n).2 (q.raw l n).1[0] := by simp [Exch.seq]
  have hf := hi.first _ hm (q.raw l n).1[0] (List.getElem?_eq_getElem h0')
  have hlt : ¬ 32767 < q.d0 l n := of_decide_eq_false hd
  rw [hd0, e0] at hlt
  have hlt' : (q.raw l n).2 - (q.raw l n).1[0].start - (q.raw l n).1[0].air ≤ 32767 := by
    have : (durP (q.raw l n).2 (q.raw l n).1[0]).dur = (q.raw l n).2 - (q.raw l n).1[0].start - (q.raw l n).1[0].air := rfl
    omega
  rw [e]
  refine ⟨a, b, ?_, ⟨?_, ?_⟩, hi.kinds (q.raw l n).1[k] hm, fun h => hi.rts k _ (List.getElem?_eq_getElem hk') h⟩
  · show (q.raw l n).1[k].start + (q.raw l n).1[k].air + ((q.raw l n).2 - (q.raw l n).1[k].start - (q.raw l n).1[k].air) = _
    omega
  · show 0 ≤ (q.raw l n).2 - (q.raw l n).1[k].start - (q.raw l n).1[k].air
    omega
  · show (q.raw l n).2 - (q.raw l n).1[k].start - (q.raw l n).1[k].air ≤ 32767
    omega

theorem seg_append {A B : List Value} {s : Nat} (hs : s = B.length) {C : List Value} : Seg (A ++ (B ++ C)) A.length s B := by
  induction A with
  | nil =>
    subst hs
    induction B with
    | nil => exact .nil
    | cons b B ih => exact .here ih
  | cons a A ih => exact .skip ih
theorem pcs_seg (l : List Part) (k : Nat) (h : k < l.length) : Seg (pcs l) (k * 6) 6 (partC l[k]) := by
  rw [pcs_split l k h]
  have hl : (pcs (l.take k)).length = k * 6 := by rw [pcs_length, List.length_take, Nat.min_eq_left (Nat.le_of_lt h)]
  rw [← hl]
  exact seg_append rfl

theorem neF {a b : Int} (h : a = b) : Value.bool (a != b) = Value.bool false := by
  subst h
  simp

theorem VS.mkP {W0 : World} {gs : List Nat} {n : Nat} {E E' : List (Nat × Value)} {L L' L2 : List Rs} (he : Env E E') (hp : Picks L L' L2) : VK W0 gs n (fun a W => St W0 gs n E' L' a W) E L :=
  VK.perm hp.perm (VK.sub (List.sublist_append_left _ _) (VS.mk he (List.Sublist.refl _)))

/-- a piece of a body, by the way to it -/
def codeAt : Code → List Nat → Code
  | c, [] => c
  | .seq x y, b :: p => codeAt (match b with | 0 => x | _ => y) p
  | .cond _ x y, b :: p => codeAt (match b with | 0 => x | _ => y) p
  | .block _ x, _ :: p => codeAt x p
  | .loop x, _ :: p => codeAt x p
  | c, _ :: _ => c
def bodyAt (f : Func) (p : List Nat) : Code := match f.body with | some c => codeAt c p | none => .ret
def us (l : List Nat) : List Value := l.map fun i : Nat => Value.int .u16 (i : Int)
def bls (l : List Bool) : List Value := l.map .bool
theorem us_get (l : List Nat) (k : Nat) (h : k < l.length) : (us l)[k]? = some (.int .u16 (l[k] : Int)) := by simp [us, h]
theorem bls_get (l : List Bool) (k : Nat) (h : k < l.length) : (bls l)[k]? = some (.bool l[k]) := by simp [bls, h]

end Go.Sx
