/- Sequences of parts as lists: plain, no program. -/
import Derived.Test.YtencghlmckbmlaaGreatMore
namespace Go.Sx
open Go Go.RowKit

structure Part where
  kind : Nat
  peer : Bool
  index : Nat
  start : Int
  air : Int
  dur : Int

def partC (p : Part) : List Value := [.int .u8 (p.kind : Int), .bool p.peer, .int .i64 (p.index : Int), .int .i64 p.start, .int .i64 p.air, .int .i64 p.dur]
def pcs (l : List Part) : List Value := l.flatMap partC
def is (l : List Int) : List Value := l.map fun i => .int .i64 i
theorem is_length (l : List Int) : (is l).length = l.length := by simp [is]
theorem is_get (l : List Int) (k : Nat) (h : k < l.length) : (is l)[k]? = some (.int .i64 l[k]) := by simp [is, h]
theorem is_append (l m : List Int) : is (l ++ m) = is l ++ is m := by simp [is]
theorem is_one (l : List Int) : (is l).all one = true := by simp [is, one]
theorem pcs_length (l : List Part) : (pcs l).length = l.length * 6 := by
  induction l with
  | nil => rfl
  | cons p l ih =>
    have h : pcs (p :: l) = partC p ++ pcs l := rfl
    rw [h, List.length_append, ih]
    simp [partC]
    omega
theorem pcs_append (l m : List Part) : pcs (l ++ m) = pcs l ++ pcs m := by simp [pcs]
theorem pcs_split (l : List Part) (k : Nat) (h : k < l.length) : pcs l = pcs (l.take k) ++ (partC l[k] ++ pcs (l.drop (k + 1))) := by
  have e : l = l.take k ++ (l[k] :: l.drop (k + 1)) := by
    rw [← List.drop_eq_getElem_cons h, List.take_append_drop]
  have h2 : pcs (l[k] :: l.drop (k + 1)) = partC l[k] ++ pcs (l.drop (k + 1)) := rfl
  rw [← h2, ← pcs_append, ← e]
theorem pcs_get (l : List Part) (k : Nat) (h : k < l.length) (j : Nat) (v : Value) (hj : (partC l[k])[j]? = some v) : (pcs l)[k * 6 + j]? = some v := by
  rw [pcs_split l k h]
  have hl : (pcs (l.take k)).length = k * 6 := by rw [pcs_length, List.length_take, Nat.min_eq_left (Nat.le_of_lt h)]
  have h6 : j < (partC l[k]).length := (List.getElem?_eq_some_iff.1 hj).1
  rw [List.getElem?_append_right (by omega), hl, List.getElem?_append_left (by omega)]
  rw [show k * 6 + j - k * 6 = j by omega]
  exact hj

def addP (s : List Part × Int) (k : Nat) (peer : Bool) (i : Nat) (air : Int) : List Part × Int :=
  (s.1 ++ [⟨k, peer, i, if s.1.length = 0 then 0 else s.2 + 16, air, 0⟩], (if s.1.length = 0 then 0 else s.2 + 16) + air)
def preP (prot : Nat) (rts cts : Int) : List Part × Int :=
  if prot = 1 then addP ([], 0) 3 false 0 cts else if prot = 2 then addP (addP ([], 0) 1 false 0 rts) 2 true 0 cts else ([], 0)
def stepP (pol : Nat) (ack : Int) (s : List Part × Int) (i : Nat) (air : Int) : List Part × Int :=
  if pol = 0 then addP (addP s 4 false i air) 5 true i ack else addP s 4 false i air
def dataP (pol : Nat) (ack : Int) (s : List Part × Int) (l : List Int) : Nat → List Part × Int
  | 0 => s
  | k + 1 => stepP pol ack (dataP pol ack s l k) k (l.getD k 0)
def postP (pol : Nat) (bar back : Int) (s : List Part × Int) : List Part × Int :=
  if pol = 2 then addP (addP s 6 false 0 bar) 7 true 0 back else s
def durP (e : Int) (p : Part) : Part := { p with dur := e - p.start - p.air }
structure Exch where
  prot : Nat
  pol : Nat
  rts : Int
  cts : Int
  ack : Int
  bar : Int
  back : Int
def Exch.raw (x : Exch) (l : List Int) (n : Nat) : List Part × Int := postP x.pol x.bar x.back (dataP x.pol x.ack (preP x.prot x.rts x.cts) l n)
def Exch.seq (x : Exch) (l : List Int) (n : Nat) : List Part := (x.raw l n).1.map (durP (x.raw l n).2)
def lenP (l : List Part) : Int := l.foldl (fun e p => if e < p.start + p.air then p.start + p.air else e) 0

/-- the bounds that the walks need -/
structure OkP (s : List Part × Int) : Prop where
  lo : 0 ≤ s.2
  hi : s.2 ≤ 32783 * s.1.length
  all : ∀ p ∈ s.1, 0 ≤ p.start ∧ 1 ≤ p.air ∧ p.start + p.air ≤ s.2
theorem OkP.nil : OkP ([], 0) := ⟨Int.le_refl _, by simp, fun p hp => by cases hp⟩
theorem OkP.add {s : List Part × Int} (h : OkP s) (k : Nat) (peer : Bool) (i : Nat) (air : Int) (ha : 1 ≤ air ∧ air ≤ 32767) : OkP (addP s k peer i air) := by
  obtain ⟨h1, h2, h3⟩ := h
  have hst : 0 ≤ (if s.1.length = 0 then 0 else s.2 + 16 : Int) ∧ (if s.1.length = 0 then 0 else s.2 + 16 : Int) ≤ 32783 * s.1.length + 16 ∧ (s.1.length ≠ 0 → s.2 ≤ (if s.1.length = 0 then 0 else s.2 + 16 : Int)) := by
    split <;> omega
  refine ⟨?_, ?_, ?_⟩
  · show 0 ≤ (if s.1.length = 0 then 0 else s.2 + 16) + air
    omega
  · show (if s.1.length = 0 then 0 else s.2 + 16) + air ≤ 32783 * ((s.1 ++ [_]).length : Nat)
    rw [List.length_append, List.length_singleton]
    omega
  · intro p hp
    show _ ∧ _ ∧ _ ≤ (if s.1.length = 0 then 0 else s.2 + 16) + air
    rcases List.mem_append.1 hp with hp | hp
    · obtain ⟨a, b, c⟩ := h3 p hp
      have : s.1.length ≠ 0 := fun e => by
        rw [List.eq_nil_of_length_eq_zero e] at hp
        cases hp
      have := hst.2.2 this
      omega
    · simp only [List.mem_singleton] at hp
      subst hp
      dsimp only
      omega
theorem addP_length (s : List Part × Int) (k : Nat) (peer : Bool) (i : Nat) (air : Int) : (addP s k peer i air).1.length = s.1.length + 1 := by simp [addP]
theorem pre_length (prot : Nat) (rts cts : Int) (h : prot ≤ 2) : (preP prot rts cts).1.length = prot := by
  unfold preP
  split
  · simp [addP_length]; omega
  · split
    · simp [addP_length]; omega
    · simp; omega
theorem data_length (pol : Nat) (ack : Int) (s : List Part × Int) (l : List Int) (k : Nat) : (dataP pol ack s l k).1.length = s.1.length + (if pol = 0 then 2 else 1) * k := by
  induction k with
  | zero => simp [dataP]
  | succ k ih =>
    have e : dataP pol ack s l (k + 1) = stepP pol ack (dataP pol ack s l k) k (l.getD k 0) := rfl
    rw [e]
    generalize dataP pol ack s l k = r at *
    unfold stepP
    split
    · rename_i hp
      simp only [addP_length, ih, hp, if_true]
      omega
    · rename_i hp
      simp only [addP_length, ih, hp, if_false]
      omega
theorem pre_ok (prot : Nat) (rts cts : Int) (hr : 1 ≤ rts ∧ rts ≤ 32767) (hc : 1 ≤ cts ∧ cts ≤ 32767) : OkP (preP prot rts cts) := by
  unfold preP
  split
  · exact OkP.nil.add _ _ _ _ hc
  · split
    · exact (OkP.nil.add _ _ _ _ hr).add _ _ _ _ hc
    · exact OkP.nil
theorem step_ok {s : List Part × Int} (h : OkP s) (pol : Nat) (ack : Int) (i : Nat) (air : Int) (ha : 1 ≤ ack ∧ ack ≤ 32767) (hb : 1 ≤ air ∧ air ≤ 32767) : OkP (stepP pol ack s i air) := by
  unfold stepP
  split
  · exact (h.add _ _ _ _ hb).add _ _ _ _ ha
  · exact h.add _ _ _ _ hb
theorem data_ok {s : List Part × Int} (h : OkP s) (pol : Nat) (ack : Int) (l : List Int) (ha : 1 ≤ ack ∧ ack ≤ 32767) (hl : ∀ a ∈ l, 1 ≤ a ∧ a ≤ 32767) : ∀ k, k ≤ l.length → OkP (dataP pol ack s l k)
  | 0, _ => h
  | k + 1, hk => by
    refine step_ok (data_ok h pol ack l ha hl k (by omega)) pol ack k _ ha ?_
    rw [List.getD_eq_getElem?_getD, List.getElem?_eq_getElem (by omega)]
    exact hl _ (List.getElem_mem _)
theorem post_ok {s : List Part × Int} (h : OkP s) (pol : Nat) (bar back : Int) (hb : 1 ≤ bar ∧ bar ≤ 32767) (hk : 1 ≤ back ∧ back ≤ 32767) : OkP (postP pol bar back s) := by
  unfold postP
  split
  · exact (h.add _ _ _ _ hb).add _ _ _ _ hk
  · exact h

structure Exch.Ok (x : Exch) : Prop where
  prot : x.prot ≤ 2
  pol : x.pol ≤ 2
  rts : 1 ≤ x.rts ∧ x.rts ≤ 32767
  cts : 1 ≤ x.cts ∧ x.cts ≤ 32767
  ack : 1 ≤ x.ack ∧ x.ack ≤ 32767
  bar : 1 ≤ x.bar ∧ x.bar ≤ 32767
  back : 1 ≤ x.back ∧ x.back ≤ 32767
theorem raw_ok {x : Exch} (h : x.Ok) {l : List Int} (hl : ∀ a ∈ l, 1 ≤ a ∧ a ≤ 32767) {n : Nat} (hn : n ≤ l.length) : OkP (x.raw l n) :=
  post_ok (data_ok (pre_ok _ _ _ h.rts h.cts) _ _ _ h.ack hl n hn) _ _ _ h.bar h.back
theorem raw_length {x : Exch} (h : x.Ok) (l : List Int) (n : Nat) : (x.raw l n).1.length = x.prot + (if x.pol = 0 then 2 else 1) * n + (if x.pol = 2 then 2 else 0) := by
  have h1 := pre_length x.prot x.rts x.cts h.prot
  have h2 := data_length x.pol x.ack (preP x.prot x.rts x.cts) l n
  unfold Exch.raw postP
  split
  · simp [addP_length, h2, h1]
  · simp [h2, h1]
theorem seq_length {x : Exch} (l : List Int) (n : Nat) : (x.seq l n).length = (x.raw l n).1.length := by simp [Exch.seq]

/-- the parts, the first k with their durations -/
def durK (e : Int) (l : List Part) (k : Nat) : List Part := (l.take k).map (durP e) ++ l.drop k
theorem durK_length (e : Int) (l : List Part) (k : Nat) : (durK e l k).length = l.length := by simp [durK]; omega
theorem durK_zero (e : Int) (l : List Part) : durK e l 0 = l := by simp [durK]
theorem durK_all (e : Int) (l : List Part) : durK e l l.length = l.map (durP e) := by simp [durK]
theorem durK_get (e : Int) (l : List Part) (k : Nat) (h : k < l.length) (j : Nat) (v : Value) (hj : (partC l[k])[j]? = some v) : (pcs (durK e l k))[k * 6 + j]? = some v := by
  have h2 : k < (durK e l k).length := by rw [durK_length]; exact h
  refine pcs_get _ k h2 j v ?_
  have : (durK e l k)[k] = l[k] := by
    have h3 : (durK e l k)[k]? = some l[k] := by
      unfold durK
      rw [List.getElem?_append_right (by simp; omega)]
      simp [Nat.min_eq_left (Nat.le_of_lt h), h]
    exact (List.getElem?_eq_some_iff.1 h3).2
  rw [this]
  exact hj
theorem put_app {A C C' ys : List Value} {o : Nat} (h : Put C o ys C') : Put (A ++ C) (A.length + o) ys (A ++ C') := by
  induction A with
  | nil => simpa using h
  | cons a A ih =>
    have e : (a :: A).length + o = (A.length + o) + 1 := by simp; omega
    rw [e]
    exact .skip ih
theorem durK_put (e : Int) (l : List Part) (k : Nat) (h : k < l.length) (v : Int) (hv : v = e - l[k].start - l[k].air) : Put (pcs (durK e l k)) (k * 6 + 5) [.int .i64 v] (pcs (durK e l (k + 1))) := by
  have e1 : durK e l k = (l.take k).map (durP e) ++ (l[k] :: l.drop (k + 1)) := by
    unfold durK
    rw [List.drop_eq_getElem_cons h]
  have e2 : durK e l (k + 1) = (l.take k).map (durP e) ++ (durP e l[k] :: l.drop (k + 1)) := by
    unfold durK
    rw [List.take_succ_eq_append_getElem h, List.map_append, List.map_singleton, List.append_assoc]
    rfl
  have e3 : ∀ p : Part, pcs ((l.take k).map (durP e) ++ (p :: l.drop (k + 1))) = pcs ((l.take k).map (durP e)) ++ (partC p ++ pcs (l.drop (k + 1))) := fun p => by
    rw [pcs_append]; rfl
  rw [e1, e2, e3, e3]
  have hl : (pcs ((l.take k).map (durP e))).length = k * 6 := by rw [pcs_length, List.length_map, List.length_take, Nat.min_eq_left (Nat.le_of_lt h)]
  rw [← hl]
  refine put_app ?_
  subst hv
  exact .skip (.skip (.skip (.skip (.skip (.here .nil)))))

theorem lenP_snoc (l : List Part) (k : Nat) (h : k < l.length) : lenP (l.take (k + 1)) = if lenP (l.take k) < l[k].start + l[k].air then l[k].start + l[k].air else lenP (l.take k) := by
  unfold lenP
  rw [List.take_succ_eq_append_getElem h, List.foldl_append]
  rfl
theorem dataP_succ (pol : Nat) (ack : Int) (s : List Part × Int) (l : List Int) (k : Nat) (h : k < l.length) : dataP pol ack s l (k + 1) = stepP pol ack (dataP pol ack s l k) k l[k] := by
  show stepP pol ack _ k (l.getD k 0) = _
  rw [List.getD_eq_getElem?_getD, List.getElem?_eq_getElem h]
  rfl

theorem addP_end0 {s : List Part × Int} {k : Nat} {b : Bool} {i : Nat} {a : Int} (h : s.1.length = 0) : (addP s k b i a).2 = 0 + a := by simp [addP, h]
theorem addP_end1 {s : List Part × Int} {k : Nat} {b : Bool} {i : Nat} {a : Int} (h : s.1.length ≠ 0) : (addP s k b i a).2 = s.2 + 16 + a := by unfold addP; rw [if_neg h]
theorem addP_row0 {s : List Part × Int} {k : Nat} {b : Bool} {i : Nat} {a : Int} (h : s.1.length = 0) : pcs (addP s k b i a).1 = pcs s.1 ++ [.int .u8 (k : Int), .bool b, .int .i64 (i : Int), .int .i64 0, .int .i64 a, .int .i64 0] := by
  unfold addP
  rw [if_pos h, pcs_append]
  rfl
theorem addP_row1 {s : List Part × Int} {k : Nat} {b : Bool} {i : Nat} {a : Int} (h : s.1.length ≠ 0) : pcs (addP s k b i a).1 = pcs s.1 ++ [.int .u8 (k : Int), .bool b, .int .i64 (i : Int), .int .i64 (s.2 + 16), .int .i64 a, .int .i64 0] := by
  unfold addP
  rw [if_neg h, pcs_append]
  rfl
theorem durK_get1 (e : Int) (l : List Part) (k : Nat) (h : k < l.length) (j : Nat) (v : Value) (h5 : j < 5) (hj : (partC l[k])[j]? = some v) : (pcs (durK e l (k + 1)))[k * 6 + j]? = some v := by
  have h2 : k < (durK e l (k + 1)).length := by rw [durK_length]; exact h
  refine pcs_get _ k h2 j v ?_
  have h3 : (durK e l (k + 1))[k]? = some (durP e l[k]) := by
    unfold durK
    rw [List.getElem?_append_left (by simp; omega)]
    simp [h]
  rw [(List.getElem?_eq_some_iff.1 h3).2, ← hj]
  match j, h5 with
  | 0, _ => rfl
  | 1, _ => rfl
  | 2, _ => rfl
  | 3, _ => rfl
  | 4, _ => rfl

theorem Cells.row {L : List Rs} {g o m c s : Nat} {e : TypeId} {xs : List Value} {v : Value} {Cs : List (Addr × Value)} (hm : Rs.row (.slice (some ⟨g, 0, none⟩) m c) e s m xs ∈ L) (hv : xs[o]? = some v) (h : Cells L Cs) : Cells L ((⟨g, o, none⟩, v) :: Cs) := by
  intro W hw p hp
  rcases List.mem_cons.1 hp with rfl | hp
  · have := Rd.at (Rd.row hw hm) hv
    simpa using this
  · exact h W hw p hp

theorem VE.meetP {W0 : World} {gs : List Nat} {n : Nat} {E : List (Nat × Value)} {L L2 : List Rs} {X : Type} {φ : X → Prop} {Ef : X → List (Nat × Value)} {Lf : X → List Rs} (x' : X) (hx : φ x') (he : Env E (Ef x')) (hp : Picks L (Lf x') L2) :
    VK W0 gs n (fun a W => ∃ x', φ x' ∧ St W0 gs n (Ef x') (Lf x') a W) E L :=
  VK.perm hp.perm (VK.sub (List.sublist_append_left _ _) (VE.meet x' hx he (List.Sublist.refl _)))
theorem VE.give {W0 : World} {gs : List Nat} {n : Nat} {E E' : List (Nat × Value)} {L L' : List Rs} {K : Act → World → Prop} (he : Env E E') (hL : L'.Sublist L) (h : ∀ a W, St W0 gs n E' L' a W → K a W) : VK W0 gs n K E L :=
  fun a W s => h a W ((s.env_mono he.spec).sub hL)
/-- the duration of the first part -/
def Exch.d0 (q : Exch) (l : List Int) (n : Nat) : Int := ((q.seq l n)[0]?.map Part.dur).getD 0
theorem d0_eq {q : Exch} {l : List Int} {n : Nat} (h : 0 < (q.seq l n).length) : q.d0 l n = (q.seq l n)[0].dur := by
  unfold Exch.d0
  rw [List.getElem?_eq_getElem h]
  rfl
theorem raw_pos {q : Exch} (h : q.Ok) (l : List Int) {n : Nat} (hn : 1 ≤ n) : 0 < (q.raw l n).1.length := by
  rw [raw_length h]
  split <;> omega
theorem raw_small {q : Exch} (h : q.Ok) (l : List Int) {n : Nat} (hn : n ≤ 16) : (q.raw l n).1.length ≤ 36 := by
  have := h.prot
  rw [raw_length h]
  split <;> split <;> omega
theorem seq_bd {q : Exch} (h : q.Ok) {l : List Int} (hl : ∀ a ∈ l, 1 ≤ a ∧ a ≤ 32767) {n : Nat} (hn : n ≤ l.length) (h16 : l.length ≤ 16) : ∀ p ∈ q.seq l n, 0 ≤ p.start ∧ 1 ≤ p.air ∧ p.start + p.air ≤ 2000000 := by
  intro p hp
  obtain ⟨p', hp', rfl⟩ := List.mem_map.1 hp
  have ho := raw_ok h hl hn
  have hs := raw_small h l (n := n) (by omega)
  obtain ⟨a, b, c⟩ := ho.all p' hp'
  have := ho.hi
  refine ⟨a, b, ?_⟩
  show p'.start + p'.air ≤ 2000000
  omega
end Go.Sx
