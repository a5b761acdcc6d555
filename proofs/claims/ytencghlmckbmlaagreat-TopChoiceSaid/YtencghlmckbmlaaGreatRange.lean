/- Ranges over functions as rules of the calculus: code within a round, calls of yield, rounds, the statement. Conditions: those of the rules. -/
import Derived.Test.YtencghlmckbmlaaGreatMore
import Derived.RangeFuncCalls
namespace Go.Sx
open Go Go.RowKit

/-- A fence that lets everything in: the wide one, or the wide one within a round. -/
class IsW (F : Fence) : Prop where
  is : F = Fence.wide ∨ ∃ l, F = Fence.wide.inRound l
instance : IsW Fence.wide := ⟨.inl rfl⟩
instance {l : Nat} : IsW (Fence.wide.inRound l) := ⟨.inr ⟨l, rfl⟩⟩
theorem IsW.fn {F : Fence} (h : IsW F) (f : FuncId) : F.fn f := by
  rcases h.is with rfl | ⟨l, rfl⟩ <;> trivial
theorem IsW.deep {F : Fence} (h : IsW F) {p : Prop} (hd : F.depth.isSome = true) : p := by
  rcases h.is with rfl | ⟨l, rfl⟩ <;> cases hd
theorem IsW.calls {F : Fence} (h : IsW F) {m : Nat} {P : Program} {f : FuncId} {args : Array Value} {w : World} {R : Ending → World → Prop} (hc : Calls P f args w R) : CallsIn F m P f args w R := by
  rcases h.is with rfl | ⟨l, rfl⟩
  · exact callsIn_wide.2 hc
  · exact CallsIn.inRound l (callsIn_wide.2 hc)
theorem IsW.rows {F : Fence} (h : IsW F) {m : Nat} {P : Program} {row : String} {args : Array Value} {w : World} {R : Value → World → Prop} (hc : Rows P row args w R) : RowsIn F m P row args w R := by
  intro c cs _
  obtain ⟨v, w', hr, hs⟩ := hc c cs
  refine ⟨v, w', hr, ?_⟩
  rcases h.is with rfl | ⟨l, rfl⟩
  · exact stepsIn_wide.2 hs
  · rw [fenced_inRound]
    exact stepsIn_wide.2 hs

section
variable {P : Program} {W0 : World} {gs : List Nat} {n : Nat} {E E' : List (Nat × Value)} {L L' : List Rs} {K : Act → World → Prop}
  {ops : Array Oper} {Q : Exit → Act → World → Prop} {rest : List Oper} {F : Fence} {m : Nat}

theorem wpIn_of_wp [hF : IsW F] {o : Oper} {a : Act} {W : World} (hnd : ∀ c, o.op ≠ .defer c) (h : o.wp P a W K Q) : o.wpIn F m P a W K Q := by
  refine ⟨fun f _ => hF.fn f, ?_⟩
  rw [Oper.semAt_eq _ _ _ hnd]
  unfold Oper.wp at h
  generalize (execOp a.eval o).run P W = r at *
  cases r with
  | ok x w' =>
    cases x with
    | enter f args => exact ⟨fun hd => hF.deep hd, hF.calls h⟩
    | row r args => exact ⟨fun hd => hF.deep hd, hF.rows h⟩
    | _ => first | exact h | exact h.elim
  | halt x w' => cases x <;> first | exact h | exact h.elim

/-! operations -/
theorem zD {op : Op} (h : ∀ c, op ≠ .defer c := by intro c h; cases h) : ∀ c, op ≠ .defer c := h
theorem VI.op [hF : IsW F] {op : Op} {d : Option Tmp} {t : TypeId} {pos : String} {after : Array Edge} (hnd : ∀ c, op ≠ .defer c) (h : VO P W0 gs n Q ⟨d, op, t, pos, after, none⟩ (wpListIn F m P ops Q rest) E L) :
    VK W0 gs n (wpListIn F m P ops Q (⟨d, op, t, pos, after, none⟩ :: rest)) E L := fun a W s =>
  wpListIn_plain rfl fun K hK => by
    have := h a W s
    have h2 := wpIn_of_wp (F := F) (m := m) hnd this
    refine ⟨h2.1, ?_⟩
    have h3 := h2.2
    revert h3
    generalize (Oper.semAt F.round a.eval _).run P W = r
    intro h3
    cases r with
    | ok x w' =>
      cases x with
      | value v => exact hK _ _ h3
      | skip => exact hK _ _ h3
      | defer d => exact hK _ _ h3
      | enter f args => exact ⟨h3.1, h3.2.mono fun e w'' he => by
          cases e with
          | returned v => exact hK _ _ he
          | panicked c => exact he
          | outgrown => exact he⟩
      | row r args => exact ⟨h3.1, h3.2.mono fun v w'' he => hK _ _ he⟩
      | round l f tm as bd => exact ⟨h3.1, h3.2.mono fun e w'' he => by
          cases e with
          | returned v => exact hK _ _ he
          | panicked c => exact he
          | outgrown => exact he⟩
      | _ => exact h3
    | halt x w' => cases x <;> exact h3
theorem VI.yes {op : Op} {d : Option Tmp} {t : TypeId} {pos : String} {after : Array Edge} {j dj : Nat} {want : Bool} (hj : (ops[j]?).bind (·.dst) = some dj)
    (hv : look E dj = some (.bool want)) (h : VK W0 gs n (wpListIn F m P ops Q (⟨d, op, t, pos, after, none⟩ :: rest)) E L) :
    VK W0 gs n (wpListIn F m P ops Q (⟨d, op, t, pos, after, some (j, want)⟩ :: rest)) E L := by
  intro a W s
  have hy : yielded ops a.tmps j = some want := by
    unfold yielded
    rw [hj]
    simp [s.env _ _ hv]
  have h' := h a W s
  unfold wpListIn at h' ⊢
  simp only [Region.wanted, hy, if_true, beq_self_eq_true] at h' ⊢
  exact h'
theorem VI.no [hF : IsW F] {op : Op} {d : Option Tmp} {t : TypeId} {pos : String} {after : Array Edge} {j dj : Nat} {want : Bool} {u : Value} (hd : ∀ x, d = some x → x < n) (hj : (ops[j]?).bind (·.dst) = some dj)
    (hv : look E dj = some u) (hu : u = .bool (!want) ∨ u = undef) (h : VK W0 gs n (wpListIn F m P ops Q rest) (putE d undef E) L) :
    VK W0 gs n (wpListIn F m P ops Q (⟨d, op, t, pos, after, some (j, want)⟩ :: rest)) E L := by
  intro a W s
  have hy : (yielded ops a.tmps j == some want) = false := by
    unfold yielded
    rw [hj]
    simp only [Option.bind_some, s.env _ _ hv]
    rcases hu with rfl | rfl <;> cases want <;> rfl
  unfold wpListIn
  simp only [Region.wanted, hy, Bool.false_eq_true, if_false]
  refine ⟨fun f _ => hF.fn f, ?_⟩
  cases d with
  | none => exact h a W s
  | some x => exact h _ _ (s.put (hd x rfl) _)
theorem VI.nil (h : VK W0 gs n (fun a W => Q .normal a W) E L) : VK W0 gs n (wpListIn F m P ops Q []) E L := fun a W s => h a W s

/-! code -/
theorem VI.seq {x y : Code} (h : VK W0 gs n (x.wpIn F m P (Exit.then (y.wpIn F m P Q) Q)) E L) : VK W0 gs n ((Code.seq x y).wpIn F m P Q) E L := fun a W s => wpIn_seq (h a W s)
theorem VI.region {id : Nat} {l : List Oper} (h : VK W0 gs n (wpListIn F m P l.toArray Q l) E L) : VK W0 gs n ((Code.region id l.toArray false).wpIn F m P Q) E L := fun a W s => wpIn_region_lit (h a W s)
theorem VI.cond {c : Operand} {x y : Code} {b : Bool} (hc : ev E c = some (.bool b)) (ht : b = true → VK W0 gs n (x.wpIn F m P Q) E L) (hf : b = false → VK W0 gs n (y.wpIn F m P Q) E L) :
    VK W0 gs n ((Code.cond c x y).wpIn F m P Q) E L := fun a W s => wpIn_cond (s.eval hc) (by
      cases hb : b with
      | true => exact ht hb a W s
      | false => exact hf hb a W s)
theorem VI.condT {c : Operand} {x y : Code} (hc : ev E c = some (.bool true)) (h : VK W0 gs n (x.wpIn F m P Q) E L) : VK W0 gs n ((Code.cond c x y).wpIn F m P Q) E L := fun a W s => wpIn_cond (s.eval hc) (h a W s)
theorem VI.condF {c : Operand} {x y : Code} (hc : ev E c = some (.bool false)) (h : VK W0 gs n (y.wpIn F m P Q) E L) : VK W0 gs n ((Code.cond c x y).wpIn F m P Q) E L := fun a W s => wpIn_cond (s.eval hc) (h a W s)
theorem VI.block {id : Nat} {c : Code} (h : VK W0 gs n (c.wpIn F m P (Exit.inBlock id Q)) E L) : VK W0 gs n ((Code.block id c).wpIn F m P Q) E L := fun a W s => wpIn_block (h a W s)
theorem VI.skip (h : VK W0 gs n (fun a W => Q .normal a W) E L) : VK W0 gs n (Code.skip.wpIn F m P Q) E L := fun a W s => wpIn_skip (h a W s)
theorem VI.exit {id : Nat} (h : VK W0 gs n (fun a W => Q (.exit id) a W) E L) : VK W0 gs n ((Code.exit id).wpIn F m P Q) E L := fun a W s => wpIn_exit (h a W s)
/-- A region of a plain frame that calls yield. -/
theorem VC.regionY {id : Nat} {l : List Oper} (h : VK W0 gs n (wpListIn Fence.wide 0 P l.toArray Q l) E L) : VK W0 gs n ((Code.region id l.toArray false).wp P Q) E L := fun a W s => wpIn_wide.1 (wpIn_region_lit (h a W s))

/-! a call of yield -/
/-- What a call of yield comes to: one round of its loop. -/
def YieldsTo (P : Program) (l : Nat) (args : List Value) (Lin : List Rs) (RO : World → Prop) {X : Type} (ψ : X → Prop) (rv : X → Value) (Lout : X → List Rs) : Prop :=
  ∀ W, Own W Lin → RO W → ∃ fn tmps assign body, (Instr.yield l args.toArray).run P W = .ok (.round l fn tmps assign body) W ∧
    ∀ m, RoundIn Fence.wide m P l fn tmps assign body W fun e W' => ∃ x, ψ x ∧ e = .returned (rv x) ∧ Only (Lin.flatMap Rs.ids) W W' ∧ Own W' (Lout x) ∧
      ∀ j ∈ (Lout x).flatMap Rs.ids, j ∈ Lin.flatMap Rs.ids ∨ W.heap.size ≤ j

theorem VI.yield {f : Operand} {xs : List Operand} {tys : Array TypeId} {l : Nat} {vs : List Value} {Lin Lr : List Rs} {RO : World → Prop} {X : Type} {ψ : X → Prop} {rv : X → Value} {Lout : X → List Rs}
    {d : Nat} {t : TypeId} {pos : String} {after : Array Edge}
    (hf : ev E f = some (.func (.yield l) #[] #[])) (hxs : evs E xs = some vs) (hd : d < n) (hc : YieldsTo P l vs Lin RO ψ rv Lout) (hp : L.Perm (Lin ++ Lr)) (hro : ∀ W, Only gs W0 W → Own W L → RO W)
    (h : ∀ x, ψ x → VK W0 gs n (wpListIn Fence.wide m P ops Q rest) ((d, rv x) :: E) (Lout x ++ Lr)) :
    VK W0 gs n (wpListIn Fence.wide m P ops Q (⟨some d, .call ⟨.value f, xs.toArray, tys⟩, t, pos, after, none⟩ :: rest)) E L := by
  intro a W s
  obtain ⟨fn, tmps, assign, body, hy, hR⟩ := hc W ((s.own.perm hp).sub (List.sublist_append_left _ _)) (hro W s.only s.own)
  have hr : (execOp a.eval ⟨some d, .call ⟨.value f, xs.toArray, tys⟩, t, pos, after, none⟩).run P W = .ok (.round l fn tmps assign body) W := by
    simp [execOp, resolve, s.eval hf, Deferred.ofValue, invoke, s.evals hxs, hy]
  refine wpListIn_plain rfl fun K hK => ⟨fun _ _ => trivial, ?_⟩
  rw [Oper.semAt_eq _ _ _ (by intro c h; cases h), hr, Oper.uponIn_round]
  refine ⟨fun hd => (by cases hd), (hR _).mono ?_⟩
  rintro e W' ⟨x, hx, rfl, ho, hw, hfr⟩
  exact hK _ _ (h x hx _ _ ((s.called hp ho hw hfr).put hd _))

/-! a round -/
/-- What a round's body must come to. -/
def RoundR (P : Program) (l : Nat) (W0 : World) (gs : List Nat) {X : Type} (ψ : X → Prop) (rv : X → Value) (Lout : X → List Rs) : Exit → Act → World → Prop :=
  roundPost P l fun e W' => ∃ x, ψ x ∧ e = .returned (rv x) ∧ Only gs W0 W' ∧ Own W' (Lout x) ∧ ∀ j ∈ (Lout x).flatMap Rs.ids, j ∈ gs ∨ W0.heap.size ≤ j
/-- What stands behind the assignment to a loop's left sides. -/
def RoundB (P : Program) (l : Nat) (body : Code) (Q : Exit → Act → World → Prop) : Exit → Act → World → Prop :=
  Exit.then (fun a₁ w₁ => ∃ w₂, (Instr.beginRound l).run P w₁ = .ok () w₂ ∧ body.wpIn (Fence.wide.inRound l) 0 P Q a₁ w₂) (fun _ _ _ => False)

theorem VE.begin {l : Nat} {r : Loop} {body : Code} (hr : r.state = .ready) (hu : Upd L (.obj l (.loop r)) (.obj l (.loop { r with state := .busy })) L')
    (h : VK W0 gs n (body.wpIn (Fence.wide.inRound l) 0 P Q) E L') : VK W0 gs n (fun a W => RoundB P l body Q .normal a W) E L := by
  intro a W s
  have hb : W.heap[l]? = some (.loop r) := s.own.all _ hu.mem
  have hlt := (Array.getElem?_eq_some_iff.1 hb).1
  refine ⟨_, run_beginRound hb hr, h a _ ?_⟩
  have hin : l ∈ L.flatMap Rs.ids := List.mem_flatMap.2 ⟨_, hu.mem, by simp [Rs.ids]⟩
  have hids : L'.flatMap Rs.ids = L.flatMap Rs.ids := by
    obtain ⟨A, B, rfl, rfl⟩ := hu.split
    simp [Rs.ids]
  refine s.world ⟨s.only.os, s.only.tape, s.only.output, by rw [World.putObj_size]; exact s.only.size, fun k hk hn => ?_⟩ (own_upd s.own hu (World.putObj_heap_same hlt) (.inl rfl) fun k hk _ => World.putObj_heap_other (by simpa [Rs.ids] using hk)) (by rw [hids]; exact s.fresh)
    fun D _ hd => ⟨World.putObj_heap_other (fun e => hd (by rw [e]; exact hin)), by rw [hids]; exact hd⟩
  refine (World.putObj_heap_other ?_).trans (s.only.block k hk hn)
  rintro rfl
  rcases s.fresh k hin with h1 | h1
  · exact hn h1
  · omega

theorem VE.endRound {l : Nat} {r : Loop} {X : Type} {ψ : X → Prop} {rv : X → Value} {Lout : X → List Rs} (hr : r.state = .ready) (hpn : r.pending = none) (hu : Upd L (.obj l (.loop { r with state := .busy })) (.obj l (.loop r)) L')
    (x : X) (hx : ψ x) (he : rv x = .bool true) (hL : (Lout x).Sublist L') : VK W0 gs n (fun a W => RoundR P l W0 gs ψ rv Lout .normal a W) E L := by
  intro a W s
  have hb : W.heap[l]? = some (.loop { r with state := .busy }) := s.own.all _ hu.mem
  have hlt := (Array.getElem?_eq_some_iff.1 hb).1
  have hin : l ∈ L.flatMap Rs.ids := List.mem_flatMap.2 ⟨_, hu.mem, by simp [Rs.ids]⟩
  have hids : L'.flatMap Rs.ids = L.flatMap Rs.ids := by
    obtain ⟨A, B, rfl, rfl⟩ := hu.split
    simp [Rs.ids]
  have hrr : (⟨.ready, none, r.fn, r.tmps, r.params, r.assign, r.body, r.defers⟩ : Loop) = r := by
    cases r
    simp only at hr hpn
    subst hr; subst hpn
    rfl
  have he2 := run_endRound (P := P) none hb
  simp only [Option.isNone_none, if_true] at he2
  rw [hrr] at he2
  refine ⟨_, _, he2, x, hx, by rw [he], ⟨s.only.os, s.only.tape, s.only.output, by rw [World.putObj_size]; exact s.only.size, fun k hk hn => ?_⟩,
    (own_upd s.own hu (World.putObj_heap_same hlt) (.inl rfl) fun k hk _ => World.putObj_heap_other (by simpa [Rs.ids] using hk)).sub hL, fun j hj => ?_⟩
  · refine (World.putObj_heap_other ?_).trans (s.only.block k hk hn)
    rintro rfl
    rcases s.fresh k hin with h1 | h1
    · exact hn h1
    · omega
  · have := (flatMap_sublist hL).subset hj
    rw [hids] at this
    exact s.fresh j this

/-- The record of a loop, as its statement lays it. -/
structure Rec (n : Nat) (E : List (Nat × Value)) (ps : Array Tmp) (assign body : Code) (r : Loop) : Prop where
  state : r.state = .ready
  pending : r.pending = none
  params : r.params = ps
  assign : r.assign = assign
  body : r.body = body
  size : r.tmps.size = n
  env : ∀ i v, look E i = some v → r.tmps[i]? = some v

theorem Rec.sub {ps : Array Tmp} {assign body : Code} {r : Loop} (h : Rec n E ps assign body r) (he : Env E E') : Rec n E' ps assign body r := ⟨h.state, h.pending, h.params, h.assign, h.body, h.size, fun i v hi => by
  have key : ∀ F : List (Nat × Value), (∀ p ∈ F, look E p.1 = some p.2) → look F i = some v → look E i = some v := by
    intro F hF hl
    induction F with
    | nil => cases hl
    | cons p F ih =>
      obtain ⟨j, u⟩ := p
      by_cases e : j = i
      · subst e
        rw [look_cons_eq] at hl
        simp only [Option.some.injEq] at hl
        subst hl
        exact hF (j, u) (by simp)
      · rw [look_cons_ne e] at hl
        exact ih (fun p hp => hF p (by simp [hp])) hl
  exact h.env i v (key E' he.spec hi)⟩
theorem fresh_cons {L : List Rs} {l N : Nat} {o : Obj} (hl : N ≤ l) (h : ∀ j ∈ L.flatMap Rs.ids, j ∈ ([] : List Nat) ∨ N ≤ j) : ∀ j ∈ (Rs.obj l o :: L).flatMap Rs.ids, N ≤ j := fun j hj => by
  rw [List.flatMap_cons] at hj
  rcases List.mem_append.1 hj with h1 | h1
  · simp only [Rs.ids, List.mem_singleton] at h1
    omega
  · rcases h j h1 with h2 | h2
    · cases h2
    · exact h2

/-- A call of yield, out of the walk of its loop's body. -/
theorem YieldsTo.of {l p : Nat} {r : Loop} {v : Value} {assign body : Code} {Lin : List Rs} {RO : World → Prop} {X : Type} {ψ : X → Prop} {rv : X → Value} {Lout : X → List Rs} (hr : Rec n E #[p] assign body r) (hp : p < n)
    (h : ∀ W0, RO W0 → VK W0 (l :: Lin.flatMap Rs.ids) n (fun a W => assign.wpIn (Fence.wide.inRound l) 0 P (RoundB P l body (RoundR P l W0 (l :: Lin.flatMap Rs.ids) ψ rv fun x => .obj l (.loop r) :: Lout x)) a W) ((p, v) :: E) (.obj l (.loop r) :: Lin)) :
    YieldsTo P l [v] (.obj l (.loop r) :: Lin) RO ψ rv (fun x => .obj l (.loop r) :: Lout x) := by
  intro W hw hro
  have hb : W.heap[l]? = some (.loop r) := hw.all _ (.head _)
  have hy := run_yield (P := P) (args := #[v]) hb (by rw [hr.params]; rfl)
  rw [hr.params, hr.assign, hr.body] at hy
  have hy' : (Instr.yield l [v].toArray).run P W = .ok (.round l r.fn (r.tmps.setIfInBounds p v) assign body) W := by simpa using hy
  refine ⟨r.fn, _, assign, body, hy', fun m => ?_⟩
  have key := roundIn_of_wpIn (F := Fence.wide) (n := 0) (P := P) (l := l) (f := r.fn) (w := W) (tmps := r.tmps.setIfInBounds p v) (assign := assign) (body := body)
    (R := fun e W' => ∃ x, ψ x ∧ e = .returned (rv x) ∧ Only (l :: Lin.flatMap Rs.ids) W W' ∧ Own W' (.obj l (.loop r) :: Lout x) ∧ ∀ j ∈ (Rs.obj l (.loop r) :: Lout x).flatMap Rs.ids, j ∈ (l :: Lin.flatMap Rs.ids) ∨ W.heap.size ≤ j) trivial
    (h W hro { tmps := r.tmps.setIfInBounds p v, defers := [] } W ⟨Marks.nil, by simpa using hr.size, fun i u hi => ?_, Only.refl _ _, hw, fun k hk => .inl (by simpa [Rs.ids] using hk)⟩)
  · refine ⟨trivial, fun c cs hroom => ?_⟩
    obtain ⟨e, w', h1, h2⟩ := key.2 c cs (by intro d hd; cases hd)
    obtain ⟨x, hx, rfl, ho, hown, hfr⟩ := h1
    exact ⟨_, w', ⟨x, hx, rfl, by simpa [Rs.ids] using ho, hown, by simpa [Rs.ids] using hfr⟩, h2⟩
  · by_cases e : p = i
    · subst e
      rw [look_cons_eq] at hi
      cases hi
      simp [hr.size, hp]
    · rw [look_cons_ne e] at hi
      simp only [Array.getElem?_setIfInBounds_ne e]
      exact hr.env i u hi

/-- What lay there before a walk began lies there still, behind a call that is handed what is new. -/
theorem only_base {Wb W W' : World} {gs : List Nat} (h : Only [] Wb W) (k : Only gs W W') (hg : ∀ j ∈ gs, Wb.heap.size ≤ j) : Only [] Wb W' :=
  ⟨k.os.trans h.os, k.tape.trans h.tape, k.output.trans h.output, Nat.le_trans h.size k.size, fun i hi hn =>
    (k.block i (Nat.lt_of_lt_of_le hi h.size) fun hm => by have := hg i hm; omega).trans (h.block i hi hn)⟩
/-- A call of yield that is handed what is owned. -/
theorem VI.yieldF {f : Operand} {xs : List Operand} {tys : Array TypeId} {l : Nat} {vs : List Value} {Lin Lr : List Rs} {RO : World → Prop} {X : Type} {ψ : X → Prop} {rv : X → Value} {Lout : X → List Rs}
    {d : Nat} {t : TypeId} {pos : String} {after : Array Edge}
    (hc : YieldsTo P l vs Lin RO ψ rv Lout) (hp : Picks L Lin Lr) (hro : ∀ W, Only gs W0 W → Own W L → RO W) (hf : ev E f = some (.func (.yield l) #[] #[])) (hxs : evs E xs = some vs) (hd : d < n)
    (h : ∀ x, ψ x → VK W0 gs n (wpListIn Fence.wide m P ops Q rest) ((d, rv x) :: E) (Lr ++ Lout x)) :
    VK W0 gs n (wpListIn Fence.wide m P ops Q (⟨some d, .call ⟨.value f, xs.toArray, tys⟩, t, pos, after, none⟩ :: rest)) E L :=
  VI.yield hf hxs hd hc hp.perm hro fun x hx => VK.perm List.perm_append_comm (h x hx)
/-- Where the walk of a sub-code begins. -/
def rfA : Code → Code
  | .rangeFunc _ _ a _ => a
  | _ => .skip
def rfB : Code → Code
  | .rangeFunc _ _ _ b => b
  | _ => .skip

/-! the statement -/
theorem VC.rangeFunc {g : Operand} {ps : Array Tmp} {assign body : Code} {gf : FuncId} {lb : List Value} {RO : World → Prop} {X : Type} {ψ : X → Prop} {rv : X → Value} {Lout : X → List Rs} (hg : ev E g = some (.func (.func gf) #[] lb.toArray)) (hok : okFunc P gf = true)
    (hc : ∀ l r, W0.heap.size ≤ l → Rec n E ps assign body r → Does P gf (.func (.yield l) #[] #[] :: lb) (.obj l (.loop r) :: L) RO ψ rv (fun x => .obj l (.loop r) :: Lout x))
    (hro : ∀ W, Only gs W0 W → Own W L → RO W) (h : ∀ x, ψ x → VK W0 gs n (fun a W => Q .normal a W) E (Lout x)) : VK W0 gs n ((Code.rangeFunc g ps assign body).wp P Q) E L := by
  intro a W s
  refine wpIn_wide (n := 0).1 (wpIn_rangeFunc ?_)
  intro fn _
  obtain ⟨r, hr⟩ : ∃ r : Loop, r = { state := .ready, pending := none, fn := fn, tmps := a.tmps, params := ps, assign := assign, body := body, defers := W.heap.size } := ⟨_, rfl⟩
  obtain ⟨W1, hW1⟩ : ∃ W1, (W.alloc (.deferred (some []))).alloc (.loop r) = W1 := ⟨_, rfl⟩
  have hsz : W1.heap.size = W.heap.size + 2 := by rw [← hW1, World.size_alloc, World.size_alloc]
  have hL1 : W1.heap[W.heap.size + 1]? = some (.loop r) := by
    rw [← hW1]; have := World.alloc_heap_new (W.alloc (.deferred (some []))) (.loop r); rwa [World.size_alloc] at this
  have hK1 : W1.heap[W.heap.size]? = some (.deferred (some [])) := by
    rw [← hW1]; exact (Go.heap_alloc_old _ _ (by rw [World.size_alloc]; omega)).trans (World.alloc_heap_new W _)
  have hold : ∀ k, k < W.heap.size → W1.heap[k]? = W.heap[k]? := fun k hk => by
    rw [← hW1]; exact (Go.heap_alloc_old _ _ (by rw [World.size_alloc]; omega)).trans (Go.heap_alloc_old _ _ hk)
  have hlt := own_lt s.own
  have ho1 : Only gs W0 W1 := by rw [← hW1]; exact only_alloc (only_alloc s.only _) _
  have hown1 : Own W1 L := own_stable s.own fun k hk => hold k (hlt k hk)
  have hrec : Rec n E ps assign body r := by
    subst hr
    exact ⟨rfl, rfl, rfl, rfl, rfl, s.size, s.env⟩
  have hown : Own W1 (.obj (W.heap.size + 1) (.loop r) :: L) := by
    refine ⟨?_, fun x hx => ?_⟩
    · simp only [List.flatMap_cons, Rs.ids, List.cons_append, List.nil_append, List.nodup_cons]
      exact ⟨fun hm => by have := hlt _ hm; omega, s.own.nodup⟩
    · rcases List.mem_cons.1 hx with rfl | hx
      · exact hL1
      · exact hown1.all x hx
  refine ⟨W.heap.size + 1, [{ target := .collected W.heap.size, args := #[] }], W1, { target := .fn (.func gf) lb.toArray, args := #[.func (.yield (W.heap.size + 1)) #[] #[]] }, W1, gf,
    #[.func (.yield (W.heap.size + 1)) #[] #[]] ++ lb.toArray, W1, ?_, ?_, fun _ _ => trivial, ?_, fun hd => (by cases hd), ?_⟩
  · rw [← hW1, hr]; exact run_enterLoop_outer _ _ _ _ _
  · have hcst : ∀ v, a.eval (.const v) = v := fun _ => rfl
    simp [resolve, s.eval hg, Deferred.ofValue, hcst]
  · simp [invoke, run_callFunc hok]
  · refine callsIn_wide.2 ?_
    have hargs : (#[.func (.yield (W.heap.size + 1)) #[] #[]] ++ lb.toArray : Array Value) = (.func (.yield (W.heap.size + 1)) #[] #[] :: lb).toArray := by simp
    rw [hargs]
    refine (hc (W.heap.size + 1) r (by have := s.only.size; omega) hrec W1 hown (hro W1 ho1 hown1)).mono ?_
    rintro e W2 ⟨x, hx, rfl, ho, hw, hfr⟩
    have hl2 : W2.heap[W.heap.size + 1]? = some (.loop r) := hw.all _ (.head _)
    have hlt2 := (Array.getElem?_eq_some_iff.1 hl2).1
    have hend := run_endLoop (P := P) hl2 (by rw [hrec.state]; simp)
    rw [hrec.pending] at hend
    refine ⟨none, _, hend, h x hx _ _ ?_⟩
    have hnd := hw.nodup
    simp only [List.flatMap_cons, Rs.ids, List.cons_append, List.nil_append, List.nodup_cons] at hnd
    have hidL : (Rs.obj (W.heap.size + 1) (.loop r) :: L).flatMap Rs.ids = (W.heap.size + 1) :: L.flatMap Rs.ids := by simp [Rs.ids]
    rw [hidL] at ho hfr
    have hfr' : ∀ j ∈ (Lout x).flatMap Rs.ids, j ∈ L.flatMap Rs.ids ∨ W.heap.size + 2 ≤ j := fun j hj => by
      rcases hfr j (by rw [List.flatMap_cons]; exact List.mem_append_right _ hj) with h1 | h1
      · rcases List.mem_cons.1 h1 with rfl | h1
        · exact absurd hj hnd.1
        · exact .inl h1
      · exact .inr (by omega)
    have hkeep : ∀ o k, k < W.heap.size + 1 → k ∉ L.flatMap Rs.ids → (W2.putObj (W.heap.size + 1) o).heap[k]? = W1.heap[k]? := fun o k hk hn =>
      (World.putObj_heap_other (by omega)).trans (ho.block k (by omega) (fun hm => by
        rcases List.mem_cons.1 hm with rfl | hm
        · omega
        · exact hn hm))
    have hsz2 := ho.size
    refine ⟨⟨?_, ?_⟩, s.size, s.env, ⟨ho.os.trans ho1.os, ho.tape.trans ho1.tape, ho.output.trans ho1.output, by rw [World.putObj_size]; have := s.only.size; omega, fun k hk hn => ?_⟩,
      own_stable (hw.sub (List.sublist_cons_self _ _)) fun k hk => World.putObj_heap_other (by rintro rfl; exact hnd.1 hk), fun k hk => ?_⟩
    · show (_ :: a.defers).Nodup
      refine List.nodup_cons.2 ⟨fun hm => ?_, s.defers.nodup⟩
      obtain ⟨D, e, _, _, h4⟩ := s.defers.all _ hm
      simp only [Deferred.mk.injEq, Target.collected.injEq, and_true] at e
      subst e
      have := (Array.getElem?_eq_some_iff.1 h4).1
      omega
    · intro d hd
      rcases List.mem_cons.1 (show d ∈ _ :: a.defers from hd) with rfl | hd
      · refine ⟨_, rfl, s.only.size, fun hm => ?_, (hkeep _ _ (by omega) fun hm => ?_).trans hK1⟩
        · rcases hfr' _ hm with h1 | h1
          · have := hlt _ h1; omega
          · omega
        · have := hlt _ hm; omega
      · obtain ⟨D, e, h1, h3, h4⟩ := s.defers.all _ hd
        have hDlt := (Array.getElem?_eq_some_iff.1 h4).1
        refine ⟨D, e, h1, fun hm => ?_, ((hkeep _ D (by omega) h3).trans (hold D hDlt)).trans h4⟩
        rcases hfr' _ hm with h5 | h5
        · exact h3 h5
        · omega
    · have hkL : k ∉ L.flatMap Rs.ids := fun hm => by
        rcases s.fresh k hm with h1 | h1
        · exact hn h1
        · omega
      have := s.only.size
      exact (hkeep _ k (by omega) hkL).trans ((hold k (by omega)).trans (s.only.block k hk hn))
    · rcases hfr' k hk with h1 | h1
      · exact s.fresh k h1
      · exact .inr (by have := s.only.size; omega)
end
end Go.Sx
