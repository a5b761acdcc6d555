/- Small forms of the calculus's rules, as the printed walks use them. Conditions: those of the rules. -/
import Derived.Test.YtencghlmckbmlaaGreatAny
namespace Go.Sx
open Go Go.RowKit

/-- The slots of E', each with its value, as E tells them. -/
inductive Env (E : List (Nat × Value)) : List (Nat × Value) → Prop
  | nil : Env E []
  | cons {i : Nat} {v : Value} {E' : List (Nat × Value)} : look E i = some v → Env E E' → Env E ((i, v) :: E')
theorem Env.spec {E E' : List (Nat × Value)} (h : Env E E') : ∀ p ∈ E', look E p.1 = some p.2 := by
  induction h with
  | nil => intro p hp; cases hp
  | cons h1 _ ih =>
    intro p hp
    rcases List.mem_cons.1 hp with rfl | hp
    · exact h1
    · exact ih p hp

/-- Slots have been added that were not known. -/
inductive Grow (E : List (Nat × Value)) : List (Nat × Value) → Prop
  | refl : Grow E E
  | cons {i : Nat} {v : Value} {E' : List (Nat × Value)} : look E i = none → Grow E E' → Grow E ((i, v) :: E')
theorem Grow.spec {E E' : List (Nat × Value)} (h : Grow E E') : ∀ i v, look E i = some v → look E' i = some v := by
  induction h with
  | refl => exact fun _ _ h => h
  | @cons j u E' hj _ ih =>
    intro i v hi
    by_cases e : j = i
    · subst e
      rw [hj] at hi
      cases hi
    · rw [look_cons_ne e]
      exact ih i v hi

section
variable {P : Program} {W0 : World} {gs : List Nat} {n : Nat} {E E' : List (Nat × Value)} {L L' Ls : List Rs} {K : Act → World → Prop}
  {ops : Array Oper} {Q : Exit → Act → World → Prop} {rest : List Oper} {a : Act} {W : World}

theorem VC.condT {c : Operand} {x y : Code} (hc : ev E c = some (.bool true)) (ht : VK W0 gs n (x.wp P Q) E L) : VK W0 gs n ((Code.cond c x y).wp P Q) E L :=
  VC.cond hc (fun _ => ht) (fun h => by cases h)
theorem VC.condF {c : Operand} {x y : Code} (hc : ev E c = some (.bool false)) (hf : VK W0 gs n (y.wp P Q) E L) : VK W0 gs n ((Code.cond c x y).wp P Q) E L :=
  VC.cond hc (fun h => by cases h) (fun _ => hf)

theorem VS.mk (he : Env E E') (hL : L'.Sublist L) : VK W0 gs n (fun a W => St W0 gs n E' L' a W) E L := fun _ _ s => (s.env_mono he.spec).sub hL
theorem VE.round {X : Type} {φ : X → Prop} {μ : X → Nat} {x : X} {Ef : X → List (Nat × Value)} {Lf : X → List Rs} (x' : X) (hx : φ x') (hm : μ x' < μ x) (he : Env E (Ef x')) (hL : (Lf x').Sublist L) :
    VK W0 gs n (fun a W => ∃ x', φ x' ∧ μ x' < μ x ∧ St W0 gs n (Ef x') (Lf x') a W) E L := fun _ _ s => ⟨x', hx, hm, (s.env_mono he.spec).sub hL⟩
theorem VE.meet {X : Type} {φ : X → Prop} {Ef : X → List (Nat × Value)} {Lf : X → List Rs} (x' : X) (hx : φ x') (he : Env E (Ef x')) (hL : (Lf x').Sublist L) :
    VK W0 gs n (fun a W => ∃ x', φ x' ∧ St W0 gs n (Ef x') (Lf x') a W) E L := fun _ _ s => ⟨x', hx, (s.env_mono he.spec).sub hL⟩

theorem VC.loopK {c : Code} {X : Type} (Ef : X → List (Nat × Value)) (φ : X → Prop) (μ : X → Nat) (x0 : X) (h0 : φ x0)
    (hs : VK W0 gs n (fun a W => St W0 gs n (Ef x0) L a W) E L)
    (round : ∀ x, φ x → VK W0 gs n (c.wp P (Exit.then (fun a W => ∃ x', φ x' ∧ μ x' < μ x ∧ St W0 gs n (Ef x') L a W) Q)) (Ef x) L) :
    VK W0 gs n ((Code.loop c).wp P Q) E L := VC.loop Ef (fun _ => L) φ μ x0 h0 hs round
theorem VE.roundK {X : Type} {φ : X → Prop} {μ : X → Nat} {x : X} {Ef : X → List (Nat × Value)} (x' : X) (hx : φ x') (hm : μ x' < μ x) (he : Env E (Ef x')) (hL : L'.Sublist L) :
    VK W0 gs n (fun a W => ∃ x', φ x' ∧ μ x' < μ x ∧ St W0 gs n (Ef x') L' a W) E L := fun _ _ s => ⟨x', hx, hm, (s.env_mono he.spec).sub hL⟩

theorem VL.joinB (k d : Nat) {l : List Oper} (b : Bool)
    (h1 : VK W0 gs n (wpList P ops (Exit.then (fun a W => ∃ _x : Unit, True ∧ St W0 gs n ((d, .bool b) :: E) L a W) Q) (l.take k)) E L)
    (h2 : VK W0 gs n (wpList P ops Q (l.drop k)) ((d, .bool b) :: E) L) : VK W0 gs n (wpList P ops Q l) E L :=
  VL.cut k (fun _ : Unit => (d, .bool b) :: E) (fun _ => L) (fun _ => True) h1 (fun _ _ => h2)

theorem VE.joinB {N : Exit → Act → World → Prop} {d : Nat} {b c : Bool} (he : look E' d = some (.bool c)) (hb : c = b) (hg : Grow E E') :
    VK W0 gs n (fun a W => Exit.then (fun a W => ∃ _x : Unit, True ∧ St W0 gs n ((d, .bool b) :: E) L a W) N .normal a W) E' L := by
  intro a W s
  refine ⟨(), trivial, s.defers, s.size, ?_, s.only, s.own, s.fresh⟩
  intro i v hi
  by_cases e : d = i
  · subst e
    rw [look_cons_eq] at hi
    simp only [Option.some.injEq] at hi
    subst hi
    subst hb
    exact s.env _ _ he
  · rw [look_cons_ne e] at hi
    exact s.env _ _ (hg.spec i v hi)

theorem O.call0 {f : Operand} {xs : List Operand} {tys : Array TypeId} {k : FuncId} {vs : List Value} {RO : World → Prop} {X : Type} {ψ : X → Prop} {rv : X → Value} {Lout : X → List Rs}
    {d : Nat} {t : TypeId} {pos : String} {after : Array Edge} {gd : Option (Nat × Bool)}
    (hk : okFunc P k = true) (hf : ev E f = some (.func (.func k) #[] #[])) (hxs : evs E xs = some vs) (hd : d < n) (hc : Does P k vs [] RO ψ rv Lout)
    (hro : ∀ W, Only gs W0 W → Own W L → RO W) (h : ∀ x, ψ x → VK W0 gs n K ((d, rv x) :: E) (Lout x ++ L)) :
    VO P W0 gs n Q ⟨some d, .call ⟨.value f, xs.toArray, tys⟩, t, pos, after, gd⟩ K E L :=
  O.call (first := []) (capt := []) (vs := vs) (Lin := []) (Lr := L) (by simpa using hc) hk hf hxs hd (List.Perm.refl _) hro h

/-- A call that is handed one block to write. -/
theorem O.call1 {f : Operand} {xs : List Operand} {tys : Array TypeId} {k : FuncId} {first vs : List Value} {r : Rs} {Lr : List Rs} {RO : World → Prop} {X : Type} {ψ : X → Prop} {rv : X → Value} {Lout : X → List Rs}
    {d : Nat} {t : TypeId} {pos : String} {after : Array Edge} {gd : Option (Nat × Bool)}
    (hk : okFunc P k = true) (hf : ev E f = some (.func (.func k) first.toArray #[])) (hxs : evs E xs = some vs) (hd : d < n) (hc : Does P k (first ++ vs) [r] RO ψ rv Lout) (hp : Pick L r Lr)
    (hro : ∀ W, Only gs W0 W → Own W L → RO W) (h : ∀ x, ψ x → VK W0 gs n K ((d, rv x) :: E) (Lout x ++ Lr)) :
    VO P W0 gs n Q ⟨some d, .call ⟨.value f, xs.toArray, tys⟩, t, pos, after, gd⟩ K E L :=
  O.call (first := first) (capt := []) (vs := vs) (Lin := [r]) (Lr := Lr) (by simpa using hc) hk hf hxs hd hp.perm hro h

/-- A call of a function value with receivers or captured variables, which writes nothing that was there. -/
theorem O.callV {f : Operand} {xs : List Operand} {tys : Array TypeId} {k : FuncId} {first capt vs : List Value} {RO : World → Prop} {X : Type} {ψ : X → Prop} {rv : X → Value} {Lout : X → List Rs}
    {d : Nat} {t : TypeId} {pos : String} {after : Array Edge} {gd : Option (Nat × Bool)}
    (hk : okFunc P k = true) (hf : ev E f = some (.func (.func k) first.toArray capt.toArray)) (hxs : evs E xs = some vs) (hd : d < n) (hc : Does P k (first ++ vs ++ capt) [] RO ψ rv Lout)
    (hro : ∀ W, Only gs W0 W → Own W L → RO W) (h : ∀ x, ψ x → VK W0 gs n K ((d, rv x) :: E) (Lout x ++ L)) :
    VO P W0 gs n Q ⟨some d, .call ⟨.value f, xs.toArray, tys⟩, t, pos, after, gd⟩ K E L :=
  O.call (first := first) (capt := capt) (vs := vs) (Lin := []) (Lr := L) hc hk hf hxs hd (List.Perm.refl _) hro h

theorem VA.forall1 {p : Nat → Prop} {i : Nat} (h : p i) : ∀ j ∈ [i], p j := by simpa using h
theorem VA.forall2 {p : Nat → Prop} {i j : Nat} (h : p i) (h2 : p j) : ∀ k ∈ [i, j], p k := by
  intro k hk
  rcases List.mem_cons.1 hk with rfl | hk
  · exact h
  · exact VA.forall1 h2 k hk
theorem VA.forall3 {p : Nat → Prop} {i j m : Nat} (h : p i) (h2 : p j) (h3 : p m) : ∀ k ∈ [i, j, m], p k := by
  intro k hk
  rcases List.mem_cons.1 hk with rfl | hk
  · exact h
  · exact VA.forall2 h2 h3 k hk
theorem VA.forall4 {p : Nat → Prop} {i j m l : Nat} (h : p i) (h2 : p j) (h3 : p m) (h4 : p l) : ∀ k ∈ [i, j, m, l], p k := by
  intro k hk
  rcases List.mem_cons.1 hk with rfl | hk
  · exact h
  · exact VA.forall3 h2 h3 h4 k hk

theorem Q.cap {t : TypeId} {x : Operand} {p : Option Addr} {m c : Nat} {e : TypeId × Nat × Nat} (ht : tySlice P t = some e) (hx : ev E x = some (.slice p m c)) :
    Quiet P W0 gs E L (.call ⟨.builtin .cap, #[x], #[t]⟩) (.int .i64 c) := by
  intro a W dst ty pos after g he _ _
  obtain ⟨e', s, b⟩ := e
  obtain ⟨i, hu, _⟩ := tySlice_spec ht
  simp [execOp, resolve, invoke, builtin, he x _ hx, Builtin.cap_, run_underlying hu, goInt]

/-- An element of an array value. -/
theorem Q.index {t e : TypeId} {x y : Operand} {m s : Nat} {b : Bool} {k : IntKind} {i : Int} {cs : List Value} (ht : tyArr P t = some (m, e, s)) (he' : tySz P e = some (b, s)) (h1 : b = false → s = 1)
    (hx : ev E x = some (.agg cs.toArray)) (hy : ev E y = some (.int k i)) (j : Nat) (h0 : i = j) (hj : j < m) (hl : cs.length = m * s) :
    Quiet P W0 gs E L (.index t x y) (mkV b ((cs.drop (j * s)).take s)) := by
  intro a W dst ty pos after g he _ _
  subst h0
  obtain ⟨inf, hu, hi, rfl⟩ := tyArr_spec ht
  have hle : j * inf.size + inf.size ≤ cs.length := by
    rw [hl, ← Nat.succ_mul]
    exact Nat.mul_le_mul_right _ hj
  have hp := run_part' (P := P) (cs := cs) (off := j * inf.size) he' hle h1 W
  have hlt : (j : Int) < (m : Int) := by omega
  simp only [execOp, he x _ hx, he y _ hy, Instr.index, asIntOf, Sem.run_bind, run_underlying hu, Sem.run_pure, Result.andThen_ok, Int.natCast_nonneg, hlt, and_self, if_true, sizeOf, typeInfo, run_program, hi, Int.toNat_natCast, hp]

/-- A slice literal. -/
theorem O.buildSlice {t e : TypeId} {m s by_ : Nat} {z : Value} {ps : List (Nat × Operand)} {xs : List Value} {d : Nat} {t' : TypeId} {pos : String} {after : Array Edge} {gd : Option (Nat × Bool)}
    (ht : tySlice P t = some (e, s, by_)) (hz : (P.info? e).bind (·.zero) = some z) (hm : 0 < m * s ∧ m * s ≤ 16777216)
    (hp : Puts E ((List.range m).map fun i => (i * s, s)) ((List.range (m * s)).map fun i => z.cells[i % z.cells.size]!) ps xs) (hd : d < n)
    (h : ∀ g, VK W0 gs n K ((d, .slice (some ⟨g, 0, none⟩) m m) :: E) (.blk g xs e :: L)) : VO P W0 gs n Q ⟨some d, .buildSlice t m ps.toArray, t', pos, after, gd⟩ K E L := by
  intro a W st
  obtain ⟨i, hu, hi, rfl, _⟩ := tySlice_spec ht
  have hzi : i.zero = some z := by simpa [hi] using hz
  have hf := fill_puts (place := fun j => some (j * i.size, i.size)) (fun j => by
    by_cases h : j < m
    · exact .inl (by simp [h])
    · exact .inr ⟨_, _, by simp [h], rfl⟩) (ρ := a.eval) (fun x v hx => st.eval hx) hp
  have hr : (execOp a.eval ⟨some d, .buildSlice t m ps.toArray, t', pos, after, gd⟩).run P W = .ok (.value (.slice (some ⟨W.heap.size, 0, none⟩) m m)) (W.alloc (.cells xs.toArray e)) := by
    have h1 : ¬ m * i.size > 2 ^ 24 := by omega
    have h2 : ¬ m * i.size = 0 := by omega
    have e1 : ((Array.range (m * i.size)).map fun j => z.cells[j % z.cells.size]!) = ((List.range (m * i.size)).map fun j => z.cells[j % z.cells.size]!).toArray := by
      apply Array.ext'
      simp
    have e2 : (ps.toArray.map fun (i, x) => (i, a.eval x)).toList = ps.map fun p => (p.1, a.eval p.2) := by simp
    have hb : (Instr.buildSlice t m (ps.toArray.map fun (i, x) => (i, a.eval x))).run P W = .ok (.slice (some ⟨W.heap.size, 0, none⟩) m m) (W.alloc (.cells xs.toArray e)) := by
      unfold Instr.buildSlice
      simp only [Sem.run_bind, run_underlying hu, Result.andThen_ok, sizeOf, typeInfo, run_program, hi, Sem.run_pure]
      rw [if_neg h1, if_neg h2]
      simp only [Sem.run_bind, zeroValue, typeInfo, run_program, hi, hzi, Sem.run_pure, Result.andThen_ok, e1, e2, hf]
      rfl
    simp only [execOp, Sem.run_bind, hb, Result.andThen_ok, Sem.run_pure]
  unfold Oper.wp
  rw [hr, Oper.upon_value]
  exact h _ _ _ ((st.alloc xs e).put hd _)

/-! shifts by a constant; unsigned numbers -/

def md : IntKind → Int
  | .u8 => 256 | .u16 => 65536 | .u32 => 4294967296 | .u64 => 18446744073709551616 | _ => 0

theorem wrap_md {k : IntKind} (hk : k.signed = false) (z : Int) : k.wrap z = z % md k := by
  cases k <;> first | (cases hk; done) | (simp [IntKind.wrap, IntKind.bits, IntKind.signed, md])

theorem Q.shrC {t t' : TypeId} {x y : Operand} {k k' : IntKind} {p m : Int} {s : Nat} (hx : ev E x = some (.int k p)) (hy : ev E y = some (.int k' s)) (hs : s ≤ k.bits) (hm : (2 : Int) ^ s = m) :
    Quiet P W0 gs E L (.binOp .shr t x y t') (.int k (p / m)) := by
  have := Q.shr (P := P) (W0 := W0) (gs := gs) (L := L) (t := t) (t' := t') hx hy (by omega)
  rwa [Int.toNat_natCast, Nat.min_eq_left hs, hm] at this
theorem Q.shlF {t t' : TypeId} {x y : Operand} {k k' : IntKind} {p m : Int} {s : Nat} (hx : ev E x = some (.int k p)) (hy : ev E y = some (.int k' s)) (hs : s ≤ k.bits) (hm : (2 : Int) ^ s = m) (h1 : klo k ≤ p * m) (h2 : p * m ≤ khi k) :
    Quiet P W0 gs E L (.binOp .shl t x y t') (.int k (p * m)) := by
  have := Q.shl (P := P) (W0 := W0) (gs := gs) (L := L) (t := t) (t' := t') hx hy (by omega)
  rwa [Int.toNat_natCast, Nat.min_eq_left hs, hm, wrap_fit h1 h2] at this
theorem Q.shlM {t t' : TypeId} {x y : Operand} {k k' : IntKind} {p m M : Int} {s : Nat} (hx : ev E x = some (.int k p)) (hy : ev E y = some (.int k' s)) (hs : s ≤ k.bits) (hm : (2 : Int) ^ s = m) (hk : k.signed = false) (hM : md k = M) :
    Quiet P W0 gs E L (.binOp .shl t x y t') (.int k (p * m % M)) := by
  have := Q.shl (P := P) (W0 := W0) (gs := gs) (L := L) (t := t) (t' := t') hx hy (by omega)
  rwa [Int.toNat_natCast, Nat.min_eq_left hs, hm, wrap_md hk, hM] at this
theorem Q.addM {t t' : TypeId} {x y : Operand} {k : IntKind} {p q M : Int} (hx : ev E x = some (.int k p)) (hy : ev E y = some (.int k q)) (hk : k.signed = false) (hM : md k = M) :
    Quiet P W0 gs E L (.binOp .add t x y t') (.int k ((p + q) % M)) := by
  have := Q.add (P := P) (W0 := W0) (gs := gs) (L := L) (t := t) (t' := t') hx hy
  rwa [wrap_md hk, hM] at this
theorem Q.addF {t t' : TypeId} {x y : Operand} {k : IntKind} {p q : Int} (hx : ev E x = some (.int k p)) (hy : ev E y = some (.int k q)) (h1 : klo k ≤ p + q) (h2 : p + q ≤ khi k) :
    Quiet P W0 gs E L (.binOp .add t x y t') (.int k (p + q)) := by
  have := Q.add (P := P) (W0 := W0) (gs := gs) (L := L) (t := t) (t' := t') hx hy
  rwa [wrap_fit h1 h2] at this
theorem Q.convM {s d : TypeId} {x : Operand} {k k' : IntKind} {p M : Int} (hs : tyInt P s = some k) (hd : tyInt P d = some k') (hx : ev E x = some (.int k p)) (hk : k'.signed = false) (hM : md k' = M) :
    Quiet P W0 gs E L (.convert s d x) (.int k' (p % M)) := by
  have := Q.conv (P := P) (W0 := W0) (gs := gs) (L := L) hs hd hx
  rwa [wrap_md hk, hM] at this

theorem eInt {k : IntKind} {a b : Int} (h : a = b) : some (Value.int k a) = some (Value.int k b) := by rw [h]
theorem eBool {a b : Bool} (h : a = b) : some (Value.bool a) = some (Value.bool b) := by rw [h]

theorem Put.set {C : List Value} {o : Nat} {x : Value} (h : o < C.length) : Put C o [x] (C.set o x) := by
  induction C generalizing o with
  | nil => simp at h
  | cons c C ih =>
    cases o with
    | zero => exact .here .nil
    | succ o => exact .skip (ih (by simpa using h))
theorem Put.all : ∀ {C xs : List Value}, C.length = xs.length → Put C 0 xs xs
  | [], [], _ => .nil
  | _ :: C, _ :: xs, h => .here (Put.all (by simpa using h))
  | [], _ :: _, h => by cases h
  | _ :: _, [], h => by cases h

theorem run_make2 {t e : TypeId} {s by_ : Nat} {z : Value} {kl kc : IntKind} {l c : Nat} (ht : tySlice P t = some (e, s, by_)) (hz : (P.info? e).bind (·.zero) = some z) (hlc : l ≤ c) (hb : by_ * c ≤ 281474976710656) (hc : c ≤ maxLen) (W : World) :
    (Instr.makeSlice t (.int kl l) (.int kc c)).run P W = .ok (.slice (some ⟨W.heap.size, 0, none⟩) l c) (W.alloc (.cells (madeCells z.cells (c * s)) e)) := by
  obtain ⟨i, hu, hi, rfl, rfl⟩ := tySlice_spec ht
  have hzi : i.zero = some z := by simpa [hi] using hz
  have := run_make (P := P) W t e i z hu hi hzi kl kc l c (by omega) (by omega) (by omega) (by unfold maxLen at hc; omega)
  simpa using this

/-- 'make([]T, l, c)'. -/
theorem O.make {t e : TypeId} {s by_ : Nat} {z : Value} {x y : Operand} {kl kc : IntKind} {il ic : Int} (l c : Nat) {d : Nat} {t' : TypeId} {pos : String} {after : Array Edge} {gd : Option (Nat × Bool)}
    (ht : tySlice P t = some (e, s, by_)) (hz : (P.info? e).bind (·.zero) = some z) (hx : ev E x = some (.int kl il)) (hy : ev E y = some (.int kc ic)) (hil : il = l) (hic : ic = c) (hlc : l ≤ c)
    (hb : by_ * c ≤ 281474976710656) (hc : c ≤ maxLen) (hd : d < n)
    (h : ∀ g, VK W0 gs n K ((d, .slice (some ⟨g, 0, none⟩) l c) :: E) (.row (.slice (some ⟨g, 0, none⟩) l c) e s l ((madeCells z.cells (c * s)).toList.take (l * s)) :: L)) :
    VO P W0 gs n Q ⟨some d, .makeSlice t x y, t', pos, after, gd⟩ K E L := by
  intro a W st
  subst hil; subst hic
  have hr : (execOp a.eval ⟨some d, .makeSlice t x y, t', pos, after, gd⟩).run P W = .ok (.value (.slice (some ⟨W.heap.size, 0, none⟩) l c)) (W.alloc (.cells (madeCells z.cells (c * s)) e)) := by
    simp [execOp, st.eval hx, st.eval hy, run_make2 ht hz hlc hb hc]
  unfold Oper.wp
  rw [hr, Oper.upon_value]
  have st' := st.alloc (madeCells z.cells (c * s)).toList e
  rw [Array.toArray_toList] at st'
  have st2 := st'.put hd (.slice (some ⟨W.heap.size, 0, none⟩) l c)
  exact VK.toRow (t := e) (s := s) (m := l) (c := c) Upd.here (by simp [size_madeCells]) hlc hc (h W.heap.size) _ _ st2

/-- 'x[:h]', nil or not. -/
theorem Q.slc0 {t e : TypeId} {x : Operand} {hi : Option Operand} {p : Option Addr} {m c h s by_ : Nat} (ht : tySlice P t = some (e, s, by_)) (hx : ev E x = some (.slice p m c)) (hh : Bd E hi m h)
    (h2 : h ≤ c) : Quiet P W0 gs E L (.slice t x none hi none) (.slice p h c) := by
  cases p with
  | some p =>
    intro a W dst ty pos after g he _ _
    obtain ⟨i, hu, hi', rfl, _⟩ := tySlice_spec ht
    have hb := run_sliceBounds (P := P) (W := W) (isS := true) (lo := none) he rfl hh (Nat.zero_le _) h2
    simp only [Option.map_none] at hb
    simp only [execOp, he x _ hx, Instr.sliceAt, Sem.run_bind, run_underlying hu, Result.andThen_ok, Instr.slice, Option.map_none, hb, sizeOf, typeInfo, run_program, hi', Sem.run_pure]
    obtain ⟨b, o, v⟩ := p
    simp [Addr.add]
  | none =>
    have := Q.slcNil (P := P) (W0 := W0) (gs := gs) (L := L) (lo := none) ht hx rfl hh (Nat.zero_le _) h2
    simpa using this

/-- 'x[l:h]' short of the capacity. -/
theorem Q.slcL {t e : TypeId} {x : Operand} {lo hi : Option Operand} {b o m c l h s by_ : Nat} (ht : tySlice P t = some (e, s, by_)) (hx : ev E x = some (.slice (some ⟨b, o, none⟩) m c)) (hl : Bd E lo 0 l) (hh : Bd E hi m h)
    (h1 : l ≤ h) (h2 : h ≤ c) (h3 : l < c) : Quiet P W0 gs E L (.slice t x lo hi none) (.slice (some ⟨b, o + l * s, none⟩) (h - l) (c - l)) := by
  have := Q.slc (P := P) (W0 := W0) (gs := gs) (L := L) ht hx hl hh h1 h2
  rwa [sliceOff_lt h3] at this

theorem Q.slcA0 {t e : TypeId} {x : Operand} {hi : Option Operand} {b o m h s : Nat} (ht : tyArr P t = some (m, e, s)) (hx : ev E x = some (.pointer (some ⟨b, o, none⟩))) (hh : Bd E hi m h)
    (h2 : h ≤ m) : Quiet P W0 gs E L (.slice t x none hi none) (.slice (some ⟨b, o, none⟩) h m) := by
  have := Q.slcA (P := P) (W0 := W0) (gs := gs) (L := L) (lo := none) ht hx rfl hh (Nat.zero_le _) h2
  rwa [sliceOff_zero] at this
theorem Q.slcAL {t e : TypeId} {x : Operand} {lo hi : Option Operand} {b o m l h s : Nat} (ht : tyArr P t = some (m, e, s)) (hx : ev E x = some (.pointer (some ⟨b, o, none⟩))) (hl : Bd E lo 0 l) (hh : Bd E hi m h)
    (h1 : l ≤ h) (h2 : h ≤ m) (h3 : l < m) : Quiet P W0 gs E L (.slice t x lo hi none) (.slice (some ⟨b, o + l * s, none⟩) (h - l) (m - l)) := by
  have := Q.slcA (P := P) (W0 := W0) (gs := gs) (L := L) ht hx hl hh h1 h2
  rwa [sliceOff_lt h3] at this

end
end Go.Sx
