/- The calculus in which the walks of this family are written: a state is known by the values of the slots that matter and by a list of owned blocks of memory; the act and the world themselves stay variables. Conditions: none; nothing of a program stands here. -/
import Derived.WalkKit
import Derived.OrdersHeld
namespace Go.Sx
open Go Go.RowKit

/-- What a walk owns: a block with all its cells; a slice that owns the row that it lies at the head of (or is nil); a block that is no cells; blocks that are written no more, and what is known of them. -/
inductive Rs where
  | blk (g : Nat) (C : List Value) (t : TypeId)
  | row (v : Value) (e : TypeId) (size n : Nat) (xs : List Value)
  | obj (g : Nat) (o : Obj)
  | frz (ids : List Nat) (H : World → Prop)

def Rs.ids : Rs → List Nat
  | .blk g _ _ => [g]
  | .row v _ _ _ _ => v.ownBlock.toList
  | .obj g _ => [g]
  | .frz ids _ => ids

def Rs.holds (W : World) : Rs → Prop
  | .blk g C t => W.heap[g]? = some (.cells C.toArray t (0, 0))
  | .row v e size n xs => W.ownsRow 0 e size v n xs
  | .obj g o => W.heap[g]? = some o
  | .frz ids H => (∀ k ∈ ids, k < W.heap.size) ∧ ∀ W' : World, (∀ k ∈ ids, W'.heap[k]? = W.heap[k]?) → H W'

theorem Rs.lt {W : World} {r : Rs} (h : r.holds W) : ∀ k ∈ r.ids, k < W.heap.size := by
  cases r with
  | blk g C t =>
    intro k hk
    simp only [Rs.ids, List.mem_singleton] at hk
    subst hk
    exact (Array.getElem?_eq_some_iff.1 h).1
  | row v e size n xs =>
    intro k hk
    simp only [Rs.ids, Option.mem_toList] at hk
    exact (World.ownsRow.lt h k hk).2
  | obj g o =>
    intro k hk
    simp only [Rs.ids, List.mem_singleton] at hk
    subst hk
    exact (Array.getElem?_eq_some_iff.1 h).1
  | frz ids H => exact h.1

theorem Rs.stable {W W' : World} {r : Rs} (h : r.holds W) (hk : ∀ k ∈ r.ids, W'.heap[k]? = W.heap[k]?) : r.holds W' := by
  cases r with
  | blk g C t => exact (hk g (by simp [Rs.ids])).trans h
  | obj g o => exact (hk g (by simp [Rs.ids])).trans h
  | frz ids H => exact ⟨fun k hm => by
      have := h.1 k hm
      have e := hk k hm
      rw [Array.getElem?_eq_getElem this] at e
      exact (Array.getElem?_eq_some_iff.1 e).1, fun W'' hw => h.2 W'' fun k hm => (hw k hm).trans (hk k hm)⟩
  | row v e size n xs =>
    refine ⟨h.1, ?_⟩
    rcases h.2 with hn | ⟨g, cap, cur, rfl, hb, hg, rest⟩
    · exact .inl hn
    · exact .inr ⟨g, cap, cur, rfl, hb, (hk g (by simp [Rs.ids, Value.ownBlock])).trans hg, rest⟩

structure Own (W : World) (L : List Rs) : Prop where
  nodup : (L.flatMap Rs.ids).Nodup
  all : ∀ r ∈ L, r.holds W

/-- Nothing that was there has changed, but the blocks of a list. -/
structure Only (gs : List Nat) (w w' : World) : Prop where
  os : w'.os = w.os
  tape : w'.tape = w.tape
  output : w'.output = w.output
  size : w.heap.size ≤ w'.heap.size
  block : ∀ k, k < w.heap.size → k ∉ gs → w'.heap[k]? = w.heap[k]?

theorem Only.refl (gs : List Nat) (w : World) : Only gs w w := ⟨rfl, rfl, rfl, Nat.le_refl _, fun _ _ _ => rfl⟩
theorem Only.trans {gs : List Nat} {a b c : World} (h : Only gs a b) (k : Only gs b c) : Only gs a c :=
  ⟨k.os.trans h.os, k.tape.trans h.tape, k.output.trans h.output, Nat.le_trans h.size k.size,
    fun i hi hn => (k.block i (Nat.lt_of_lt_of_le hi h.size) hn).trans (h.block i hi hn)⟩
theorem Only.mono {gs gs' : List Nat} {a b : World} (h : Only gs a b) (hg : ∀ k ∈ gs, k ∈ gs' ∨ a.heap.size ≤ k) : Only gs' a b :=
  ⟨h.os, h.tape, h.output, h.size, fun i hi hn => h.block i hi (fun hm => (hg i hm).elim hn (fun hl => by omega))⟩
theorem Only.below {w w' : World} (h : Only [] w w') : Below w.heap.size w w' := ⟨h.os, h.tape, h.output, h.size, fun k hk => h.block k hk (by simp)⟩
theorem Only.of_below {w w' : World} (h : Below w.heap.size w w') : Only [] w w' := ⟨h.os, h.tape, h.output, h.size, fun k hk _ => h.block k hk⟩

/-- The slots that are known: the first pair with a slot's number tells its value. -/
def look : List (Nat × Value) → Nat → Option Value
  | [], _ => none
  | (i, v) :: E, j => bif Nat.beq i j then some v else look E j

def ev (E : List (Nat × Value)) : Operand → Option Value
  | .tmp t => look E t
  | .const v => some v
  | .global g => some (.pointer (some ⟨g, 0, none⟩))
  | .func f => some (.func (.func f) #[] #[])

def evs (E : List (Nat × Value)) : List Operand → Option (List Value)
  | [] => some []
  | x :: xs => match ev E x, evs E xs with
    | some v, some vs => some (v :: vs)
    | _, _ => none

/-- The deferred calls that ranges over functions leave: each one's block stands there, empty, and is nobody's. -/
structure Marks (W0 : World) (L : List Rs) (W : World) (ds : List Deferred) : Prop where
  nodup : ds.Nodup
  all : ∀ d ∈ ds, ∃ D, d = { target := .collected D, args := #[] } ∧ W0.heap.size ≤ D ∧ D ∉ L.flatMap Rs.ids ∧ W.heap[D]? = some (.deferred (some []))
theorem Marks.nil {W0 : World} {L : List Rs} {W : World} : Marks W0 L W [] := ⟨List.nodup_nil, fun _ h => by cases h⟩
theorem Marks.move {W0 : World} {L L' : List Rs} {W W' : World} {ds : List Deferred} (h : Marks W0 L W ds)
    (hk : ∀ D, D < W.heap.size → D ∉ L.flatMap Rs.ids → W'.heap[D]? = W.heap[D]? ∧ D ∉ L'.flatMap Rs.ids) : Marks W0 L' W' ds :=
  ⟨h.nodup, fun d hd => by
    obtain ⟨D, e, h1, h3, h4⟩ := h.all d hd
    obtain ⟨h5, h6⟩ := hk D (Array.getElem?_eq_some_iff.1 h4).1 h3
    exact ⟨D, e, h1, h6, h5.trans h4⟩⟩

structure St (W0 : World) (gs : List Nat) (n : Nat) (E : List (Nat × Value)) (L : List Rs) (a : Act) (W : World) : Prop where
  defers : Marks W0 L W a.defers
  size : a.tmps.size = n
  env : ∀ i v, look E i = some v → a.tmps[i]? = some v
  only : Only gs W0 W
  own : Own W L
  fresh : ∀ k ∈ L.flatMap Rs.ids, k ∈ gs ∨ W0.heap.size ≤ k

def VK (W0 : World) (gs : List Nat) (n : Nat) (K : Act → World → Prop) (E : List (Nat × Value)) (L : List Rs) : Prop :=
  ∀ a W, St W0 gs n E L a W → K a W

theorem look_cons_ne {i j : Nat} {v : Value} {E : List (Nat × Value)} (h : i ≠ j) : look ((i, v) :: E) j = look E j := by
  have hb : Nat.beq i j = false := by
    cases hb : Nat.beq i j with
    | false => rfl
    | true => exact absurd (Nat.eq_of_beq_eq_true hb) h
  simp [look, hb]

theorem look_cons_eq {i : Nat} {v : Value} {E : List (Nat × Value)} : look ((i, v) :: E) i = some v := by
  simp [look]

section
variable {W0 : World} {gs : List Nat} {n : Nat} {E : List (Nat × Value)} {L : List Rs} {a : Act} {W : World}

theorem St.eval (h : St W0 gs n E L a W) {x : Operand} {v : Value} (hx : ev E x = some v) : a.eval x = v := by
  cases x with
  | tmp t =>
    have := h.env t v hx
    simp [Act.eval, this]
  | const u => simpa [ev, Act.eval] using hx
  | global g => simpa [ev, Act.eval] using hx
  | func f => simpa [ev, Act.eval] using hx

theorem St.evals (h : St W0 gs n E L a W) : ∀ {xs : List Operand} {vs : List Value}, evs E xs = some vs → xs.map a.eval = vs
  | [], vs, hx => by simpa [evs] using hx
  | x :: xs, vs, hx => by
    simp only [evs] at hx
    split at hx
    · rename_i v us hv hu
      have e1 := h.eval hv
      have e2 := h.evals hu
      simp only [Option.some.injEq] at hx
      simp [e1, e2, hx]
    · cases hx

theorem St.put (h : St W0 gs n E L a W) {d : Nat} (hd : d < n) (v : Value) : St W0 gs n ((d, v) :: E) L (a.put (some d) v) W where
  defers := h.defers
  size := by simp [Act.put, h.size]
  env := by
    intro i u hi
    by_cases e : d = i
    · subst e
      rw [look_cons_eq] at hi
      simp only [Option.some.injEq] at hi
      subst hi
      simp [Act.put, h.size, hd]
    · rw [look_cons_ne e] at hi
      simp only [Act.put, Array.getElem?_setIfInBounds_ne e]
      exact h.env i u hi
  only := h.only
  own := h.own
  fresh := h.fresh

theorem St.world (h : St W0 gs n E L a W) {W' : World} {L' : List Rs} (ho : Only gs W0 W') (hw : Own W' L') (hf : ∀ k ∈ L'.flatMap Rs.ids, k ∈ gs ∨ W0.heap.size ≤ k)
    (hk : ∀ D, D < W.heap.size → D ∉ L.flatMap Rs.ids → W'.heap[D]? = W.heap[D]? ∧ D ∉ L'.flatMap Rs.ids) :
    St W0 gs n E L' a W' := ⟨h.defers.move hk, h.size, h.env, ho, hw, hf⟩

/-- Some slots may be forgotten, or spelt otherwise. -/
theorem St.env_mono (h : St W0 gs n E L a W) {E' : List (Nat × Value)} (he : ∀ p ∈ E', look E p.1 = some p.2) : St W0 gs n E' L a W where
  defers := h.defers
  size := h.size
  env := by
    intro i v hi
    have key : ∀ F : List (Nat × Value), (∀ p ∈ F, look E p.1 = some p.2) → look F i = some v → look E i = some v := by
      intro F hF hl
      induction F with
      | nil => cases hl
      | cons p F ih =>
        obtain ⟨j, u⟩ := p
        by_cases e : j = i
        · subst e
          rw [look_cons_eq] at hl
          simp only [Option.some.injEq] at hl
          subst hl
          exact hF (j, u) (by simp)
        · rw [look_cons_ne e] at hl
          exact ih (fun p hp => hF p (by simp [hp])) hl
    exact h.env i v (key E' he hi)
  only := h.only
  own := h.own
  fresh := h.fresh

theorem flatMap_sublist {α β : Type} {f : α → List β} {l₁ l₂ : List α} (h : l₁.Sublist l₂) : (l₁.flatMap f).Sublist (l₂.flatMap f) := by
  induction h with
  | slnil => exact List.Sublist.refl _
  | cons x _ ih => simp only [List.flatMap_cons]; exact ih.trans (List.sublist_append_right _ _)
  | cons_cons x _ ih => simp only [List.flatMap_cons]; exact (List.Sublist.refl _).append ih

theorem Own.sub {W : World} {L L' : List Rs} (h : Own W L) (hs : L'.Sublist L) : Own W L' :=
  ⟨h.nodup.sublist (flatMap_sublist hs), fun r hr => h.all r (hs.subset hr)⟩

theorem Own.perm {W : World} {L L' : List Rs} (h : Own W L) (hp : L.Perm L') : Own W L' :=
  ⟨(hp.flatMap_right _).nodup_iff.1 h.nodup, fun r hr => h.all r (hp.mem_iff.2 hr)⟩

theorem St.sub (h : St W0 gs n E L a W) {L' : List Rs} (hs : L'.Sublist L) : St W0 gs n E L' a W :=
  ⟨h.defers.move fun _ _ hd => ⟨rfl, fun hm => hd ((flatMap_sublist hs).subset hm)⟩, h.size, h.env, h.only, h.own.sub hs, fun k hk => h.fresh k ((flatMap_sublist hs).subset hk)⟩

theorem St.perm (h : St W0 gs n E L a W) {L' : List Rs} (hp : L.Perm L') : St W0 gs n E L' a W :=
  ⟨h.defers.move fun _ _ hd => ⟨rfl, fun hm => hd ((hp.flatMap_right _).mem_iff.2 hm)⟩, h.size, h.env, h.only, h.own.perm hp, fun k hk => h.fresh k ((hp.flatMap_right _).mem_iff.2 hk)⟩
end

section
variable {P : Program} {W0 : World} {gs : List Nat} {n : Nat} {E E' : List (Nat × Value)} {L L' : List Rs} {K : Act → World → Prop}
  {ops : Array Oper} {Q : Exit → Act → World → Prop} {rest : List Oper}

theorem VK.env (he : ∀ p ∈ E', look E p.1 = some p.2) (h : VK W0 gs n K E' L) : VK W0 gs n K E L := fun a W s => h a W (s.env_mono he)
theorem VK.sub (hs : L'.Sublist L) (h : VK W0 gs n K E L') : VK W0 gs n K E L := fun a W s => h a W (s.sub hs)
theorem VK.perm (hp : L.Perm L') (h : VK W0 gs n K E L') : VK W0 gs n K E L := fun a W s => h a W (s.perm hp)
theorem VK.mono {K' : Act → World → Prop} (h : VK W0 gs n K E L) (hk : ∀ a W, K a W → K' a W) : VK W0 gs n K' E L := fun a W s => hk _ _ (h a W s)

/-- A bool in a slot: both cases. -/
theorem VK.case (i : Nat) {b : Bool} (hv : look E i = some (.bool b)) (ht : b = true → VK W0 gs n K ((i, .bool true) :: E) L) (hf : b = false → VK W0 gs n K ((i, .bool false) :: E) L) :
    VK W0 gs n K E L := by
  have key : ∀ c : Bool, b = c → ∀ a W, St W0 gs n E L a W → St W0 gs n ((i, .bool c) :: E) L a W := by
    intro c hc a W s
    subst hc
    refine ⟨s.defers, s.size, ?_, s.only, s.own, s.fresh⟩
    intro j u hj
    by_cases e : i = j
    · subst e
      rw [look_cons_eq] at hj
      simp only [Option.some.injEq] at hj
      subst hj
      exact s.env _ _ hv
    · rw [look_cons_ne e] at hj
      exact s.env _ _ hj
  cases hb : b with
  | true => exact fun a W s => ht hb a W (key true hb a W s)
  | false => exact fun a W s => hf hb a W (key false hb a W s)

/-! operations that leave the world as it is -/

def Quiet (P : Program) (W0 : World) (gs : List Nat) (E : List (Nat × Value)) (L : List Rs) (op : Op) (v : Value) : Prop :=
  ∀ (a : Act) (W : World) (dst : Option Tmp) (t : TypeId) (pos : String) (after : Array Edge) (g : Option (Nat × Bool)),
    (∀ x u, ev E x = some u → a.eval x = u) → Only gs W0 W → Own W L → (execOp a.eval ⟨dst, op, t, pos, after, g⟩).run P W = .ok (.value v) W

def putE (d : Option Tmp) (v : Value) (E : List (Nat × Value)) : List (Nat × Value) :=
  match d with
  | some d => (d, v) :: E
  | none => E

theorem VL.quiet {op : Op} {v : Value} {d : Nat} {t : TypeId} {pos : String} {after : Array Edge} (hd : d < n) (hq : Quiet P W0 gs E L op v)
    (h : VK W0 gs n (wpList P ops Q rest) ((d, v) :: E) L) : VK W0 gs n (wpList P ops Q (⟨some d, op, t, pos, after, none⟩ :: rest)) E L := by
  intro a W s
  refine wpList_plain rfl fun K hK => ?_
  unfold Oper.wp
  rw [hq a W _ t pos after none (fun x u hx => s.eval hx) s.only s.own, Oper.upon_value]
  exact hK _ _ (h _ _ (s.put hd v))

/-- An operation whose guard says yes. -/
theorem VL.yes {op : Op} {d : Option Tmp} {t : TypeId} {pos : String} {after : Array Edge} {j dj : Nat} {want : Bool} (hj : (ops[j]?).bind (·.dst) = some dj)
    (hv : look E dj = some (.bool want)) (h : VK W0 gs n (wpList P ops Q (⟨d, op, t, pos, after, none⟩ :: rest)) E L) :
    VK W0 gs n (wpList P ops Q (⟨d, op, t, pos, after, some (j, want)⟩ :: rest)) E L := by
  intro a W s
  have hy : yielded ops a.tmps j = some want := by
    unfold yielded
    rw [hj]
    simp [s.env _ _ hv]
  have h' := h a W s
  unfold wpList at h' ⊢
  simp only [Region.wanted, hy, if_true, beq_self_eq_true] at h' ⊢
  exact h'

theorem VL.no {op : Op} {d : Option Tmp} {t : TypeId} {pos : String} {after : Array Edge} {j dj : Nat} {want : Bool} {u : Value} (hd : ∀ x, d = some x → x < n) (hj : (ops[j]?).bind (·.dst) = some dj)
    (hv : look E dj = some u) (hu : u = .bool (!want) ∨ u = undef) (h : VK W0 gs n (wpList P ops Q rest) (putE d undef E) L) :
    VK W0 gs n (wpList P ops Q (⟨d, op, t, pos, after, some (j, want)⟩ :: rest)) E L := by
  intro a W s
  have hy : (yielded ops a.tmps j == some want) = false := by
    unfold yielded
    rw [hj]
    simp only [Option.bind_some, s.env _ _ hv]
    rcases hu with rfl | rfl <;> cases want <;> rfl
  unfold wpList
  simp only [Region.wanted, hy, Bool.false_eq_true, if_false]
  cases d with
  | none => exact h a W s
  | some x => exact h _ _ (s.put (hd x rfl) _)

theorem VL.nil (h : VK W0 gs n (fun a W => Q .normal a W) E L) : VK W0 gs n (wpList P ops Q []) E L := fun a W s => h a W s

/-- What stands behind the first k operations is met once, in one state. -/
theorem wpList_append : ∀ (l l' : List Oper) (a : Act) (W : World), wpList P ops (Exit.then (fun a W => wpList P ops Q l' a W) Q) l a W → wpList P ops Q (l ++ l') a W
  | [], l', a, W, h => h
  | o :: l, l', a, W, h => by
    unfold wpList at h
    rw [List.cons_append]
    unfold wpList
    split at h
    · rename_i hw
      rw [if_pos hw]
      rcases h with h | ⟨h1, a0, w0, h2⟩
      · refine .inl ?_
        have hm : ∀ a W, wpList P ops (Exit.then (fun a W => wpList P ops Q l' a W) Q) l a W → wpList P ops Q (l ++ l') a W := fun a W h => wpList_append l l' a W h
        unfold Oper.wp at h ⊢
        generalize (execOp a.eval o).run P W = r at *
        cases r with
        | ok x w' =>
          cases x <;> simp only [Oper.upon] at h ⊢ <;> first
            | exact hm _ _ h
            | exact Calls.mono h (fun e w'' he => by
                cases e with
                | returned v => exact hm _ _ he
                | panicked c => exact he
                | outgrown => obtain ⟨a0, w0, h2⟩ := he; exact ⟨a0, w0, h2⟩)
            | exact Rows.mono h (fun _ _ he => hm _ _ he)
        | halt x w' => cases x <;> simp only [Oper.upon] at h ⊢ <;> exact h
      · exact .inr ⟨h1, a0, w0, h2⟩
    · rename_i hw
      rw [if_neg hw]
      exact wpList_append l l' _ _ h

theorem VL.cut (k : Nat) {l : List Oper} {X : Type} (Ef : X → List (Nat × Value)) (Lf : X → List Rs) (φ : X → Prop)
    (h1 : VK W0 gs n (wpList P ops (Exit.then (fun a W => ∃ x, φ x ∧ St W0 gs n (Ef x) (Lf x) a W) Q) (l.take k)) E L)
    (h2 : ∀ x, φ x → VK W0 gs n (wpList P ops Q (l.drop k)) (Ef x) (Lf x)) : VK W0 gs n (wpList P ops Q l) E L := by
  intro a W s
  rw [← List.take_append_drop k l]
  refine wpList_append _ _ _ _ ?_
  have hm : ∀ (l0 : List Oper) (a : Act) (W : World), wpList P ops (Exit.then (fun a W => ∃ x, φ x ∧ St W0 gs n (Ef x) (Lf x) a W) Q) l0 a W →
      wpList P ops (Exit.then (fun a W => wpList P ops Q (l.drop k) a W) Q) l0 a W := by
    intro l0
    induction l0 with
    | nil =>
      intro a W ⟨x, hx, sx⟩
      exact h2 x hx a W sx
    | cons o l0 ih =>
      intro a W h
      unfold wpList at h ⊢
      split at h
      · rename_i hw
        rw [if_pos hw]
        rcases h with h | ⟨h1, a0, w0, h2⟩
        · refine .inl ?_
          unfold Oper.wp at h ⊢
          generalize (execOp a.eval o).run P W = r at *
          cases r with
          | ok x w' =>
            cases x <;> simp only [Oper.upon] at h ⊢ <;> first
              | exact ih _ _ h
              | exact Calls.mono h (fun e w'' he => by
                  cases e with
                  | returned v => exact ih _ _ he
                  | panicked c => exact he
                  | outgrown => obtain ⟨a0, w0, h2⟩ := he; exact ⟨a0, w0, h2⟩)
              | exact Rows.mono h (fun _ _ he => ih _ _ he)
          | halt x w' => cases x <;> simp only [Oper.upon] at h ⊢ <;> exact h
        · exact .inr ⟨h1, a0, w0, h2⟩
      · rename_i hw
        rw [if_neg hw]
        exact ih _ _ h
  exact hm _ _ _ (h1 a W s)

/-! code -/

theorem VC.seq {x y : Code} (h : VK W0 gs n (x.wp P (Exit.then (y.wp P Q) Q)) E L) : VK W0 gs n ((Code.seq x y).wp P Q) E L := fun a W s => wp_seq (h a W s)

theorem VC.region {id : Nat} {l : List Oper} (h : VK W0 gs n (wpList P l.toArray Q l) E L) : VK W0 gs n ((Code.region id l.toArray false).wp P Q) E L :=
  fun a W s => wp_region_lit (h a W s)

theorem VC.cond {c : Operand} {x y : Code} {b : Bool} (hc : ev E c = some (.bool b)) (ht : b = true → VK W0 gs n (x.wp P Q) E L) (hf : b = false → VK W0 gs n (y.wp P Q) E L) :
    VK W0 gs n ((Code.cond c x y).wp P Q) E L :=
  fun a W s => wp_cond_split (s.eval hc) (fun h => ht h a W s) (fun h => hf h a W s)

theorem VC.block {id : Nat} {c : Code} (h : VK W0 gs n (c.wp P (Exit.inBlock id Q)) E L) : VK W0 gs n ((Code.block id c).wp P Q) E L := fun a W s => wp_block (h a W s)
theorem VC.skip (h : VK W0 gs n (fun a W => Q .normal a W) E L) : VK W0 gs n (Code.skip.wp P Q) E L := fun a W s => wp_skip (h a W s)
theorem VC.exit {id : Nat} (h : VK W0 gs n (fun a W => Q (.exit id) a W) E L) : VK W0 gs n ((Code.exit id).wp P Q) E L := fun a W s => wp_exit (h a W s)
theorem VC.ret (h : VK W0 gs n (fun a W => Q .ret a W) E L) : VK W0 gs n (Code.ret.wp P Q) E L := fun a W s => wp_ret (h a W s)

theorem VC.loop {c : Code} {X : Type} (Ef : X → List (Nat × Value)) (Lf : X → List Rs) (φ : X → Prop) (μ : X → Nat) (x0 : X) (h0 : φ x0)
    (hs : VK W0 gs n (fun a W => St W0 gs n (Ef x0) (Lf x0) a W) E L)
    (round : ∀ x, φ x → VK W0 gs n (c.wp P (Exit.then (fun a W => ∃ x', φ x' ∧ μ x' < μ x ∧ St W0 gs n (Ef x') (Lf x') a W) Q)) (Ef x) (Lf x)) :
    VK W0 gs n ((Code.loop c).wp P Q) E L := by
  intro a W s b k cs
  have key : ∀ m x a W, μ x = m → φ x → St W0 gs n (Ef x) (Lf x) a W →
      ∃ e a' w', Q e a' w' ∧ Arrives P (lone (b.at a (.code c :: .inLoop c :: k)) cs W) b k cs e a' w' := by
    intro m
    induction m using Nat.strongRecOn with
    | _ m ih =>
      intro x a W hm hx sx
      obtain ⟨e, a₁, w₁, hq, harr⟩ := round x hx a W sx b (.inLoop c :: k) cs
      cases e with
      | normal =>
        obtain ⟨x', hx', hlt, sx'⟩ := hq
        obtain ⟨e₂, a₂, w₂, hq₂, harr₂⟩ := ih (μ x') (hm ▸ hlt) x' a₁ w₁ rfl hx' sx'
        exact ⟨e₂, a₂, w₂, hq₂, .of_steps (Steps.trans harr (.one step_inLoop)) harr₂⟩
      | exit id => exact ⟨_, a₁, w₁, hq, .pass (x := .inLoop c) rfl (fun _ _ => .inl (by simp)) harr⟩
      | goto l => exact ⟨_, a₁, w₁, hq, .pass (x := .inLoop c) rfl (fun _ _ => .inl (by simp)) harr⟩
      | ret => exact ⟨_, a₁, w₁, hq, .pass (x := .inLoop c) rfl (fun _ _ => .inl (by simp)) harr⟩
      | panic ch => exact ⟨_, a₁, w₁, hq, .pass (x := .inLoop c) rfl (fun _ _ => .inl (by simp)) harr⟩
      | outgrown => exact ⟨_, a₁, w₁, hq, .pass (x := .inLoop c) rfl (fun _ _ => .inl (by simp)) harr⟩
  obtain ⟨e, a', w', hq, harr⟩ := key _ x0 a W rfl h0 (hs a W s)
  exact ⟨e, a', w', hq, .of_steps (.one step_loop) harr⟩

/-! where a piece of code ends: what stands behind it -/

theorem VE.seq {y : Code} (h : VK W0 gs n (y.wp P Q) E L) : VK W0 gs n (fun a W => Exit.then (y.wp P Q) Q .normal a W) E L := h
theorem VE.then_normal {N : Act → World → Prop} (h : VK W0 gs n N E L) : VK W0 gs n (fun a W => Exit.then N Q .normal a W) E L := h
theorem VE.then_exit {N : Act → World → Prop} {id : Nat} (h : VK W0 gs n (fun a W => Q (.exit id) a W) E L) : VK W0 gs n (fun a W => Exit.then N Q (.exit id) a W) E L := h
theorem VE.then_ret {N : Act → World → Prop} (h : VK W0 gs n (fun a W => Q .ret a W) E L) : VK W0 gs n (fun a W => Exit.then N Q .ret a W) E L := h
theorem VE.block_normal {id : Nat} (h : VK W0 gs n (fun a W => Q .normal a W) E L) : VK W0 gs n (fun a W => Exit.inBlock id Q .normal a W) E L := h
theorem VE.block_ret {id : Nat} (h : VK W0 gs n (fun a W => Q .ret a W) E L) : VK W0 gs n (fun a W => Exit.inBlock id Q .ret a W) E L := h
theorem VE.block_here {id : Nat} (h : VK W0 gs n (fun a W => Q .normal a W) E L) : VK W0 gs n (fun a W => Exit.inBlock id Q (.exit id) a W) E L :=
  fun a W s => by simp only [Exit.inBlock, if_true]; exact h a W s
theorem VE.block_on {id id' : Nat} (hne : id' ≠ id) (h : VK W0 gs n (fun a W => Q (.exit id') a W) E L) : VK W0 gs n (fun a W => Exit.inBlock id Q (.exit id') a W) E L :=
  fun a W s => by simp only [Exit.inBlock, if_neg hne]; exact h a W s
end
end Go.Sx
