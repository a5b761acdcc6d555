/- The operations that make or write memory, calls, entries and ends of functions, as rules of the calculus. Conditions: those of the rules. -/
import Derived.Test.YtencghlmckbmlaaGreatOps
import Derived.RangeFuncRecord
namespace Go.Sx
open Go Go.RowKit

/-! the list of what is owned -/

/-- One entry is taken out. -/
inductive Pick : List Rs → Rs → List Rs → Prop
  | here {r : Rs} {L : List Rs} : Pick (r :: L) r L
  | there {r x : Rs} {L L' : List Rs} : Pick L r L' → Pick (x :: L) r (x :: L')
theorem Pick.perm {L L' : List Rs} {r : Rs} (h : Pick L r L') : L.Perm (r :: L') := by
  induction h with
  | here => exact List.Perm.refl _
  | there _ ih => exact (ih.cons _).trans (List.Perm.swap _ _ _)

/-- One entry is replaced. -/
inductive Upd : List Rs → Rs → Rs → List Rs → Prop
  | here {r r' : Rs} {L : List Rs} : Upd (r :: L) r r' (r' :: L)
  | there {r r' x : Rs} {L L' : List Rs} : Upd L r r' L' → Upd (x :: L) r r' (x :: L')
theorem Upd.split {L L' : List Rs} {r r' : Rs} (h : Upd L r r' L') : ∃ A B, L = A ++ r :: B ∧ L' = A ++ r' :: B := by
  induction h with
  | @here r r' L => exact ⟨[], L, rfl, rfl⟩
  | @there r r' x L L' _ ih =>
    obtain ⟨A, B, h1, h2⟩ := ih
    exact ⟨x :: A, B, by simp [h1], by simp [h2]⟩
theorem Upd.mem {L L' : List Rs} {r r' : Rs} (h : Upd L r r' L') : r ∈ L := by
  obtain ⟨A, B, rfl, _⟩ := h.split
  simp

theorem own_upd {W W' : World} {L L' : List Rs} {r r' : Rs} (h : Own W L) (hu : Upd L r r' L') (hr : r'.holds W') (hids : r'.ids = r.ids ∨ (∀ k ∈ r'.ids, W.heap.size ≤ k) ∧ r'.ids.Nodup)
    (hk : ∀ k, k ∉ r.ids → k < W.heap.size → W'.heap[k]? = W.heap[k]?) : Own W' L' := by
  obtain ⟨A, B, rfl, rfl⟩ := hu.split
  have hall := h.all
  have hnd := h.nodup
  simp only [List.flatMap_append, List.flatMap_cons] at hnd
  have hother : ∀ x, x ∈ A ∨ x ∈ B → x.holds W' := by
    intro x hx
    have hx' : x ∈ A ++ r :: B := by rcases hx with h | h <;> simp [h]
    refine Rs.stable (hall x hx') fun k hkx => ?_
    have hlt := Rs.lt (hall x hx') k hkx
    refine hk k (fun hkr => ?_) hlt
    rw [List.nodup_append] at hnd
    obtain ⟨hA, hrest, hdis⟩ := hnd
    rw [List.nodup_append] at hrest
    rcases hx with hx | hx
    · exact hdis k (List.mem_flatMap.2 ⟨x, hx, hkx⟩) k (by simp [hkr]) rfl
    · exact hrest.2.2 k hkr k (List.mem_flatMap.2 ⟨x, hx, hkx⟩) rfl
  refine ⟨?_, ?_⟩
  · simp only [List.flatMap_append, List.flatMap_cons]
    rcases hids with hids | ⟨hfr, hn⟩
    · rw [hids]; exact hnd
    · rw [List.nodup_append] at hnd ⊢
      obtain ⟨hA, hrest, hdis⟩ := hnd
      rw [List.nodup_append] at hrest
      have hlt : ∀ x, x ∈ A ∨ x ∈ B → ∀ k ∈ x.ids, k < W.heap.size := fun x hx k hkx => Rs.lt (hall x (by rcases hx with h | h <;> simp [h])) k hkx
      refine ⟨hA, ?_, ?_⟩
      · rw [List.nodup_append]
        refine ⟨hn, hrest.2.1, ?_⟩
        intro k hkr k' hk' e
        subst e
        obtain ⟨x, hx, hkx⟩ := List.mem_flatMap.1 hk'
        have := hlt x (.inr hx) k hkx
        have := hfr k hkr
        omega
      · intro k hkA k' hk' e
        subst e
        obtain ⟨x, hx, hkx⟩ := List.mem_flatMap.1 hkA
        rcases List.mem_append.1 hk' with hk' | hk'
        · have := hlt x (.inl hx) k hkx
          have := hfr k hk'
          omega
        · exact hdis k hkA k (by simp [hk']) rfl
  · intro x hx
    simp only [List.mem_append, List.mem_cons] at hx
    rcases hx with hx | rfl | hx
    · exact hother x (.inl hx)
    · exact hr
    · exact hother x (.inr hx)

theorem own_stable {W W' : World} {L : List Rs} (h : Own W L) (hk : ∀ k, k ∈ L.flatMap Rs.ids → W'.heap[k]? = W.heap[k]?) : Own W' L :=
  ⟨h.nodup, fun r hr => Rs.stable (h.all r hr) fun k hkr => hk k (List.mem_flatMap.2 ⟨r, hr, hkr⟩)⟩

theorem own_lt {W : World} {L : List Rs} (h : Own W L) : ∀ k ∈ L.flatMap Rs.ids, k < W.heap.size := by
  intro k hk
  obtain ⟨r, hr, hkr⟩ := List.mem_flatMap.1 hk
  exact Rs.lt (h.all r hr) k hkr

theorem own_new {W : World} {L : List Rs} (h : Own W L) (C : List Value) (t : TypeId) : Own (W.alloc (.cells C.toArray t)) (.blk W.heap.size C t :: L) := by
  have hlt := own_lt h
  refine ⟨?_, ?_⟩
  · simp only [List.flatMap_cons, Rs.ids, List.cons_append, List.nil_append, List.nodup_cons]
    exact ⟨fun hm => by have := hlt _ hm; omega, h.nodup⟩
  · intro r hr
    rcases List.mem_cons.1 hr with rfl | hr
    · exact Go.heap_alloc_new W _
    · exact Rs.stable (h.all r hr) fun k hk => Go.heap_alloc_old W _ (Rs.lt (h.all r hr) k hk)

section
variable {P : Program} {W0 : World} {gs : List Nat} {n : Nat} {E E' : List (Nat × Value)} {L L' : List Rs} {K : Act → World → Prop}
  {ops : Array Oper} {Q : Exit → Act → World → Prop} {rest : List Oper} {a : Act} {W : World}

theorem only_alloc (h : Only gs W0 W) (o : Obj) : Only gs W0 (W.alloc o) :=
  ⟨h.os, h.tape, h.output, by have := h.size; show _ ≤ (W.heap.push o).size; simp; omega,
    fun k hk hn => (Go.heap_alloc_old W o (Nat.lt_of_lt_of_le hk h.size)).trans (h.block k hk hn)⟩

theorem St.alloc (h : St W0 gs n E L a W) (C : List Value) (t : TypeId) : St W0 gs n E (.blk W.heap.size C t :: L) a (W.alloc (.cells C.toArray t)) :=
  h.world (only_alloc h.only _) (own_new h.own C t) (by
    intro k hk
    simp only [List.flatMap_cons, Rs.ids, List.cons_append, List.nil_append, List.mem_cons] at hk
    rcases hk with rfl | hk
    · exact .inr h.only.size
    · exact h.fresh k hk) fun D hD hd => ⟨Go.heap_alloc_old W _ hD, by
      simp only [List.flatMap_cons, Rs.ids, List.cons_append, List.nil_append, List.mem_cons, not_or]
      exact ⟨by omega, hd⟩⟩

/-- An operation, whatever follows it. -/
def VO (P : Program) (W0 : World) (gs : List Nat) (n : Nat) (Q : Exit → Act → World → Prop) (o : Oper) (K : Act → World → Prop) (E : List (Nat × Value)) (L : List Rs) : Prop :=
  ∀ a W, St W0 gs n E L a W → o.wp P a W K Q

theorem VL.eff {op : Op} {d : Option Tmp} {t : TypeId} {pos : String} {after : Array Edge} (h : VO P W0 gs n Q ⟨d, op, t, pos, after, none⟩ (wpList P ops Q rest) E L) :
    VK W0 gs n (wpList P ops Q (⟨d, op, t, pos, after, none⟩ :: rest)) E L := by
  intro a W s
  refine wpList_plain rfl fun K hK => Oper.wp_mono hK ?_
  exact h a W s

theorem O.quiet {op : Op} {v : Value} {d : Nat} {t : TypeId} {pos : String} {after : Array Edge} {g : Option (Nat × Bool)} (hd : d < n) (hq : Quiet P W0 gs E L op v) (h : VK W0 gs n K ((d, v) :: E) L) :
    VO P W0 gs n Q ⟨some d, op, t, pos, after, g⟩ K E L := by
  intro a W s
  unfold Oper.wp
  rw [hq a W _ t pos after g (fun x u hx => s.eval hx) s.only s.own, Oper.upon_value]
  exact h _ _ (s.put hd v)

theorem run_newVar {t : TypeId} {v : Value} {C : List Value} (hc : v.cells.toList = C) (W : World) : (newVar t v).run P W = .ok ⟨W.heap.size, 0, none⟩ (W.alloc (.cells C.toArray t)) := by
  have e : C.toArray = v.cells := by rw [← hc]
  rw [e]
  rfl

theorem O.alloc {e : TypeId} {zs : List Value} {d : Nat} {t : TypeId} {pos : String} {after : Array Edge} {g : Option (Nat × Bool)} (hz : tyZero P e = some zs) (hd : d < n)
    (h : ∀ g, VK W0 gs n K ((d, .pointer (some ⟨g, 0, none⟩)) :: E) (.blk g zs e :: L)) : VO P W0 gs n Q ⟨some d, .alloc e, t, pos, after, g⟩ K E L := by
  intro a W s
  unfold tyZero at hz
  cases hi : P.info? e with
  | none => simp [hi] at hz
  | some i =>
    cases hzv : i.zero with
    | none => simp [hi, hzv] at hz
    | some z =>
      have hzc : z.cells.toList = zs := by simpa [hi, hzv] using hz
      have hr : (execOp a.eval ⟨some d, .alloc e, t, pos, after, g⟩).run P W = .ok (.value (.pointer (some ⟨W.heap.size, 0, none⟩))) (W.alloc (.cells zs.toArray e)) := by
        simp [execOp, Instr.alloc, zeroValue, typeInfo, hi, hzv, run_newVar hzc]
      unfold Oper.wp
      rw [hr, Oper.upon_value]
      exact h _ _ _ ((s.alloc zs e).put hd _)

theorem O.box {e : TypeId} {x : Operand} {v : Value} {C : List Value} {d : Nat} {t : TypeId} {pos : String} {after : Array Edge} {g : Option (Nat × Bool)} (hx : ev E x = some v) (hc : v.cells.toList = C) (hd : d < n)
    (h : ∀ g, VK W0 gs n K ((d, .pointer (some ⟨g, 0, none⟩)) :: E) (.blk g C e :: L)) : VO P W0 gs n Q ⟨some d, .box e x, t, pos, after, g⟩ K E L := by
  intro a W s
  have hr : (execOp a.eval ⟨some d, .box e x, t, pos, after, g⟩).run P W = .ok (.value (.pointer (some ⟨W.heap.size, 0, none⟩))) (W.alloc (.cells C.toArray e)) := by
    simp [execOp, Instr.box, s.eval hx, run_newVar hc]
  unfold Oper.wp
  rw [hr, Oper.upon_value]
  exact h _ _ _ ((s.alloc C e).put hd _)

theorem only_setRow {g : Nat} (h : Only gs W0 W) (hg : g ∈ gs ∨ W0.heap.size ≤ g) (cs : Array Value) : Only gs W0 (W.setRow g cs) := by
  refine ⟨h.os, h.tape, h.output, by simp; exact h.size, fun k hk hn => (setRow_other W g k cs ?_).trans (h.block k hk hn)⟩
  rintro rfl
  rcases hg with hg | hg
  · exact hn hg
  · omega

theorem St.setRow (h : St W0 gs n E L a W) {g : Nat} {C C' : List Value} {t : TypeId} (hu : Upd L (.blk g C t) (.blk g C' t) L') : St W0 gs n E L' a (W.setRow g C'.toArray) := by
  have hb : W.heap[g]? = some (.cells C.toArray t (0, 0)) := h.own.all _ hu.mem
  have hin : g ∈ L.flatMap Rs.ids := List.mem_flatMap.2 ⟨_, hu.mem, by simp [Rs.ids]⟩
  have hids : L'.flatMap Rs.ids = L.flatMap Rs.ids := by
    obtain ⟨A, B, rfl, rfl⟩ := hu.split
    simp [Rs.ids]
  refine h.world (only_setRow h.only (h.fresh g hin) _) (own_upd h.own hu (setRow_heap W g _ _ t _ hb) (.inl rfl) fun k hk _ => setRow_other W g k _ (by simpa [Rs.ids] using hk)) ?_ fun D _ hd => ⟨setRow_other W g D _ (fun e => hd (by rw [e]; exact hin)), by rw [hids]; exact hd⟩
  rw [hids]
  exact h.fresh

theorem run_storeVar {t t' : TypeId} {b : Bool} {g o : Nat} {v : Value} {C C' xs : List Value} (ht : tySz P t = some (b, xs.length)) (hv : v.cells.toList = xs) (h1 : xs.all one = true)
    (hb : W.heap[g]? = some (.cells C.toArray t' (0, 0))) (hp : Put C o xs C') : (storeVar t ⟨g, o, none⟩ v).run P W = .ok () (W.setRow g C'.toArray) := by
  obtain ⟨hp1, hp2⟩ := hp.spec
  have hs : v.cells.size = xs.length := by rw [← hv]; simp
  have := run_storeCells_at P g o t' xs 0 C.toArray W hb (by simpa using hp1) (fun u hu => one_oneCell (List.all_eq_true.1 h1 u hu))
  simp only [Nat.add_zero] at this
  simp [storeVar, run_sizeOf' ht, hs, hv, this, hp2]

theorem O.store {e t' : TypeId} {b : Bool} {g o : Nat} {x y : Operand} {v : Value} {C C' xs : List Value} {t : TypeId} {pos : String} {after : Array Edge} {gd : Option (Nat × Bool)}
    (ht : tySz P e = some (b, xs.length)) (hx : ev E x = some (.pointer (some ⟨g, o, none⟩))) (hy : ev E y = some v) (hv : v.cells.toList = xs) (h1 : xs.all one = true)
    (hu : Upd L (.blk g C t') (.blk g C' t') L') (hp : Put C o xs C') (h : VK W0 gs n K E L') : VO P W0 gs n Q ⟨none, .store e x y, t, pos, after, gd⟩ K E L := by
  intro a W s
  have hb : W.heap[g]? = some (.cells C.toArray t' (0, 0)) := s.own.all _ hu.mem
  have hr : (execOp a.eval ⟨none, .store e x y, t, pos, after, gd⟩).run P W = .ok .skip (W.setRow g C'.toArray) := by
    simp [execOp, s.eval hx, s.eval hy, Instr.storeAt, Instr.sureAddr, run_storeVar ht hv h1 hb hp]
  unfold Oper.wp
  rw [hr, Oper.upon_skip]
  exact h _ _ (s.setRow hu)

/-! literals of structs, arrays and slices -/

def laysOf (P : Program) (t : TypeId) : Option (List Value × List (Nat × Nat)) :=
  match tyZero P t, tyLay P t with
  | some z, some l => some (z, l)
  | _, _ => none

inductive Puts (E : List (Nat × Value)) (lay : List (Nat × Nat)) : List Value → List (Nat × Operand) → List Value → Prop
  | nil {C : List Value} : Puts E lay C [] C
  | cons {C C' C'' xs : List Value} {i o s : Nat} {x : Operand} {v : Value} {ps : List (Nat × Operand)} : lay[i]? = some (o, s) → ev E x = some v → v.cells.toList = xs → xs.length = s → Put C o xs C' →
      Puts E lay C' ps C'' → Puts E lay C ((i, x) :: ps) C''

theorem foldl_set (off : Nat) : ∀ (xs : List Value) (j : Nat) (cs : Array Value), off + j + xs.length ≤ cs.size →
    ((xs.zipIdx j).foldl (fun cs (c, j) => cs.setIfInBounds (off + j) c) cs).toList = cs.toList.take (off + j) ++ xs ++ cs.toList.drop (off + j + xs.length)
  | [], j, cs, h => by simp
  | x :: xs, j, cs, h => by
    have hj : off + j < cs.size := by simp at h; omega
    rw [List.zipIdx_cons, List.foldl_cons, foldl_set off xs (j + 1) _ (by simp at h ⊢; omega)]
    apply List.ext_getElem?
    intro k
    simp only [Array.toList_setIfInBounds, List.getElem?_append, List.length_take, List.length_set, Array.length_toList, List.length_append, List.length_cons, List.getElem?_take, List.getElem?_drop, List.getElem?_set]
    by_cases h1 : k < off + j
    · simp [h1, show k < off + (j + 1) by omega, show min (off + (j + 1)) cs.size = off + (j + 1) by omega, show min (off + j) cs.size = off + j by omega, show off + j ≠ k by omega, show k < off + (j + 1) + xs.length by omega, show k < off + j + (xs.length + 1) by omega]
    · by_cases h2 : k = off + j
      · subst h2
        simp [show min (off + (j + 1)) cs.size = off + (j + 1) by omega, show min (off + j) cs.size = off + j by omega, show off + j < off + (j + 1) by omega, show off + j < off + (j + 1) + xs.length by omega, show off + j < off + j + (xs.length + 1) by omega, hj]
      · simp only [show min (off + (j + 1)) cs.size = off + (j + 1) by omega, show min (off + j) cs.size = off + j by omega]
        by_cases h3 : k < off + (j + 1) + xs.length
        · simp [h3, show ¬ k < off + (j + 1) by omega, h1, show k < off + j + (xs.length + 1) by omega, show k - (off + j) = (k - (off + (j + 1))) + 1 by omega]
        · simp [h3, show ¬ k < off + j + (xs.length + 1) by omega, show off + (j + 1) + xs.length + (k - (off + (j + 1) + xs.length)) = off + j + (xs.length + 1) + (k - (off + j + (xs.length + 1))) by omega,
            show off + j ≠ off + j + (xs.length + 1) + (k - (off + j + (xs.length + 1))) by omega]

theorem fill_puts {lay : List (Nat × Nat)} {place : Nat → Option (Nat × Nat)} (hpl : ∀ i, place i = lay[i]? ∨ ∃ o s, lay[i]? = none ∧ place i = some (o, s)) {ρ : Operand → Value} (hρ : ∀ x v, ev E x = some v → ρ x = v) :
    ∀ {C : List Value} {ps : List (Nat × Operand)} {C' : List Value}, Puts E lay C ps C' → Instr.fill place C.toArray (ps.map fun p => (p.1, ρ p.2)) = some C'.toArray := by
  intro C ps C' h
  induction h with
  | nil => rfl
  | @cons C C' C'' xs i o s x v ps hl hx hv hs hp _ ih =>
    obtain ⟨hp1, hp2⟩ := hp.spec
    have hpi : place i = some (o, s) := by
      rcases hpl i with h | ⟨o', s', h, _⟩
      · rw [h, hl]
      · rw [hl] at h; cases h
    have hsz : v.cells.size = s := by rw [← hs, ← hv]; simp
    have hf := foldl_set o xs 0 C.toArray (by simpa using hp1)
    have hz : v.cells.zipIdx.foldl (fun cs (c, j) => cs.setIfInBounds (o + j) c) C.toArray = C'.toArray := by
      apply Array.ext'
      rw [← Array.foldl_toList, Array.toList_zipIdx, hv, hf, hp2]
      simp
    rw [List.map_cons, Instr.fill]
    simp only [hρ x v hx, hpi, hsz]
    rw [if_neg (by simp; omega), hz]
    exact ih

def fldM (f : Field) : Sem (Nat × Nat) := do pure (f.offset, ← sizeOf f.type)

theorem run_fldM : ∀ (fl : List Field) (l : List (Nat × Nat)) (W : World), (fl.mapM fun f => (P.info? f.type).map fun i => (f.offset, i.size)) = some l → (fl.mapM fldM).run P W = .ok l W
  | [], l, W, h => by
    simp at h
    subst h
    rfl
  | f :: fl, l, W, h => by
    rw [List.mapM_cons] at h ⊢
    cases hf : P.info? f.type with
    | none => simp [hf] at h
    | some fi =>
      cases hr : fl.mapM fun f => (P.info? f.type).map fun i => (f.offset, i.size) with
      | none => simp [hf, hr] at h
      | some lr =>
        simp [hf, hr] at h
        subst h
        have hsz : (fldM f).run P W = .ok (f.offset, fi.size) W := by simp [fldM, sizeOf, typeInfo, hf]
        simp only [Sem.run_bind, hsz, Result.andThen_ok, Sem.run_pure, run_fldM fl lr W hr]

theorem Q.build {t : TypeId} {zs xs : List Value} {lay : List (Nat × Nat)} {ps : List (Nat × Operand)} (hl : laysOf P t = some (zs, lay)) (hp : Puts E lay zs ps xs) :
    Quiet P W0 gs E L (.build t ps.toArray) (.agg xs.toArray) := by
  intro a W dst ty pos after g he _ _
  unfold laysOf at hl
  split at hl
  case h_2 => cases hl
  rename_i z l hz hlay
  simp only [Option.some.injEq, Prod.mk.injEq] at hl
  obtain ⟨rfl, rfl⟩ := hl
  unfold tyZero at hz
  cases hi : P.info? t with
  | none => simp [hi] at hz
  | some i =>
    cases hzv : i.zero with
    | none => simp [hi, hzv] at hz
    | some zv =>
      have hzc : zv.cells = z.toArray := by
        have : zv.cells.toList = z := by simpa [hi, hzv] using hz
        rw [← this]
      have hzr : ∀ W : World, (zeroValue t).run P W = .ok zv W := fun W => by simp [zeroValue, typeInfo, hi, hzv]
      unfold tyLay at hlay
      split at hlay
      · rename_i fs hu
        have hm : ∀ W : World, (fs.mapM fldM).run P W = .ok l.toArray W := by
          intro W
          rw [Array.mapM_eq_mapM_toList, Sem.run_map, run_fldM fs.toList l W hlay]
          rfl
        have hf := fill_puts (place := (l.toArray[·]?)) (fun i => .inl (by simp)) (ρ := a.eval) he hp
        have hb : (Instr.build t (ps.toArray.map fun (i, x) => (i, a.eval x))).run P W = .ok (.agg xs.toArray) W := by
          have e1 : (ps.toArray.map fun (i, x) => (i, a.eval x)).toList = ps.map fun p => (p.1, a.eval p.2) := by simp
          have e2 : (Instr.build t (ps.toArray.map fun (i, x) => (i, a.eval x))) = (do
              let zero := (← zeroValue t).cells
              match ← underlying t with
              | .struct fields =>
                let places ← fields.mapM fldM
                let some cells := Instr.fill (places[·]?) zero (ps.map fun p => (p.1, a.eval p.2)) | stuck "build: no such field, or a part of the wrong size"
                pure (.agg cells)
              | .array _ elem =>
                let size ← sizeOf elem
                let some cells := Instr.fill (fun i => some (i * size, size)) zero (ps.map fun p => (p.1, a.eval p.2)) | stuck "build: a part of the wrong size"
                pure (.agg cells)
              | _ => stuck "build: struct or array type expected") := by rw [← e1]; rfl
          rw [e2]
          simp only [Sem.run_bind, hzr, Result.andThen_ok, run_underlying hu, hm, hzc, hf, Sem.run_pure]
        simp only [execOp, Sem.run_bind, hb, Result.andThen_ok, Sem.run_pure]
      · rename_i m e hu
        cases hie : P.info? e with
        | none => simp [hie] at hlay
        | some ie =>
          have hlay' : (List.range m).map (fun j => (j * ie.size, ie.size)) = l := by simpa [hie] using hlay
          have hf := fill_puts (place := fun i => some (i * ie.size, ie.size)) (fun i => by
            rw [← hlay']
            by_cases h : i < m
            · exact .inl (by simp [h])
            · exact .inr ⟨_, _, by simp [h], rfl⟩) (ρ := a.eval) he hp
          simp only [execOp, Instr.build, Sem.run_bind, hzr, Result.andThen_ok, run_underlying hu, sizeOf, typeInfo, run_program, hie]
          simp only [Sem.run_pure, Result.andThen_ok, List.map_toArray, hzc]
          simp [hf]
      · cases hlay

/-! calls -/

/-- What a function does: from what it is given of memory ('Lin', written or handed on) and what it may read ('RO') to a result and what there is then ('Lout'); all else stays. -/
def Does (P : Program) (k : FuncId) (args : List Value) (Lin : List Rs) (RO : World → Prop) {X : Type} (ψ : X → Prop) (rv : X → Value) (Lout : X → List Rs) : Prop :=
  ∀ W, Own W Lin → RO W → Calls P k args.toArray W fun e W' => ∃ x, ψ x ∧ e = .returned (rv x) ∧ Only (Lin.flatMap Rs.ids) W W' ∧ Own W' (Lout x) ∧
    ∀ j ∈ (Lout x).flatMap Rs.ids, j ∈ Lin.flatMap Rs.ids ∨ W.heap.size ≤ j

def okFunc (P : Program) (k : FuncId) : Bool :=
  match P.funcs[k]? with
  | some fn => fn.body.isSome && fn.name != "runtime.NumGoroutine"
  | none => false

theorem run_callFunc {k : FuncId} (hk : okFunc P k = true) (args : Array Value) (W : World) : (callFunc k args).run P W = .ok (.enter k args) W := by
  unfold okFunc at hk
  split at hk
  · rename_i fn hf
    simp only [Bool.and_eq_true, bne_iff_ne, ne_eq] at hk
    cases hb : fn.body with
    | none => simp [hb] at hk
    | some c => simp [callFunc, hf, hb, hk.2]
  · cases hk

/-- A call has ended: what it was handed is gone, what it hands back is there. -/
theorem St.called (s : St W0 gs n E L a W) {Lin Lr Lo : List Rs} {W' : World} (hp : L.Perm (Lin ++ Lr)) (ho : Only (Lin.flatMap Rs.ids) W W') (hw : Own W' Lo) (hfr : ∀ j ∈ Lo.flatMap Rs.ids, j ∈ Lin.flatMap Rs.ids ∨ W.heap.size ≤ j) :
    St W0 gs n E (Lo ++ Lr) a W' := by
  have hown := s.own.perm hp
  have hnd := hown.nodup
  rw [List.flatMap_append, List.nodup_append] at hnd
  have hmemL : ∀ j, j ∈ Lin.flatMap Rs.ids ∨ j ∈ Lr.flatMap Rs.ids → j ∈ gs ∨ W0.heap.size ≤ j := by
    intro j hj
    refine s.fresh j ?_
    have := (hp.flatMap_right Rs.ids).mem_iff (a := j)
    rw [this, List.flatMap_append, List.mem_append]
    exact hj
  have hLr : ∀ j ∈ Lr.flatMap Rs.ids, j < W.heap.size := own_lt (hown.sub (List.sublist_append_right _ _))
  have hnot : ∀ j, j < W0.heap.size → j ∉ gs → j ∉ Lin.flatMap Rs.ids := by
    intro j hj hn hm
    rcases hmemL j (.inl hm) with h1 | h1
    · exact hn h1
    · omega
  have ho' : Only gs W0 W' := ⟨ho.os.trans s.only.os, ho.tape.trans s.only.tape, ho.output.trans s.only.output, Nat.le_trans s.only.size ho.size,
    fun j hj hn => (ho.block j (Nat.lt_of_lt_of_le hj s.only.size) (hnot j hj hn)).trans (s.only.block j hj hn)⟩
  refine s.world (L' := Lo ++ Lr) ho' ⟨?_, ?_⟩ ?_ fun D hD hn => ?_
  · rw [List.flatMap_append, List.nodup_append]
    refine ⟨hw.nodup, hnd.2.1, ?_⟩
    intro j hj j' hj' e
    subst e
    rcases hfr j hj with h1 | h1
    · exact hnd.2.2 j h1 j hj' rfl
    · have := hLr j hj'
      omega
  · intro r hr
    rcases List.mem_append.1 hr with hr | hr
    · exact hw.all r hr
    · refine Rs.stable (hown.all r (List.mem_append_right _ hr)) fun j hj => ?_
      have hjL : j ∈ Lr.flatMap Rs.ids := List.mem_flatMap.2 ⟨r, hr, hj⟩
      exact ho.block j (hLr j hjL) (fun hm => hnd.2.2 j hm j hjL rfl)
  · intro j hj
    rw [List.flatMap_append, List.mem_append] at hj
    rcases hj with hj | hj
    · rcases hfr j hj with h1 | h1
      · exact hmemL j (.inl h1)
      · have := s.only.size
        exact .inr (by omega)
    · exact hmemL j (.inr hj)
  · have hnL : D ∉ Lin.flatMap Rs.ids ∧ D ∉ Lr.flatMap Rs.ids := by
      have := (hp.flatMap_right Rs.ids).mem_iff (a := D)
      rw [this, List.flatMap_append, List.mem_append, not_or] at hn
      exact hn
    refine ⟨ho.block D hD hnL.1, ?_⟩
    rw [List.flatMap_append, List.mem_append]
    rintro (hj | hj)
    · rcases hfr D hj with h1 | h1
      · exact hnL.1 h1
      · omega
    · exact hnL.2 hj
theorem O.call {f : Operand} {xs : List Operand} {tys : Array TypeId} {k : FuncId} {first capt vs : List Value} {Lin Lr : List Rs} {RO : World → Prop} {X : Type} {ψ : X → Prop} {rv : X → Value} {Lout : X → List Rs}
    {d : Nat} {t : TypeId} {pos : String} {after : Array Edge} {gd : Option (Nat × Bool)}
    (hc : Does P k (first ++ vs ++ capt) Lin RO ψ rv Lout) (hk : okFunc P k = true) (hf : ev E f = some (.func (.func k) first.toArray capt.toArray)) (hxs : evs E xs = some vs) (hd : d < n)
    (hp : L.Perm (Lin ++ Lr)) (hro : ∀ W, Only gs W0 W → Own W L → RO W) (h : ∀ x, ψ x → VK W0 gs n K ((d, rv x) :: E) (Lout x ++ Lr)) :
    VO P W0 gs n Q ⟨some d, .call ⟨.value f, xs.toArray, tys⟩, t, pos, after, gd⟩ K E L := by
  intro a W s
  have hr : (execOp a.eval ⟨some d, .call ⟨.value f, xs.toArray, tys⟩, t, pos, after, gd⟩).run P W = .ok (.enter k (first ++ vs ++ capt).toArray) W := by
    simp [execOp, resolve, s.eval hf, Deferred.ofValue, invoke, s.evals hxs, run_callFunc hk]
  unfold Oper.wp
  rw [hr, Oper.upon_enter]
  refine (hc W ((s.own.perm hp).sub (List.sublist_append_left _ _)) (hro W s.only s.own)).mono ?_
  rintro e W' ⟨x, hx, rfl, ho, hw, hfr⟩
  exact h x hx _ _ ((s.called hp ho hw hfr).put hd _)
end

/-! entries and ends -/

def numb : Nat → List Value → List (Nat × Value)
  | _, [] => []
  | i, v :: vs => (i, v) :: numb (i + 1) vs

theorem look_numb : ∀ (vs : List Value) (i j : Nat) (v : Value), look (numb i vs) j = some v → i ≤ j ∧ vs[j - i]? = some v
  | [], i, j, v, h => by cases h
  | u :: vs, i, j, v, h => by
    by_cases e : i = j
    · subst e
      simp only [numb] at h
      rw [look_cons_eq] at h
      simpa using h
    · simp only [numb] at h
      rw [look_cons_ne e] at h
      obtain ⟨h1, h2⟩ := look_numb vs (i + 1) j v h
      refine ⟨by omega, ?_⟩
      rw [show j - i = (j - (i + 1)) + 1 by omega]
      simpa using h2

section
variable {P : Program}

/-- What a body must come to. -/
def DoesR (W0 : World) (Lin : List Rs) {X : Type} (ψ : X → Prop) (rv : X → Value) (Lout : X → List Rs) (e : Ending) (W' : World) : Prop :=
  ∃ x, ψ x ∧ e = .returned (rv x) ∧ Only (Lin.flatMap Rs.ids) W0 W' ∧ Own W' (Lout x) ∧ ∀ j ∈ (Lout x).flatMap Rs.ids, j ∈ Lin.flatMap Rs.ids ∨ W0.heap.size ≤ j

/-- What a body must come to: it ends, and runs the marks of its ranges over functions. -/
def bodyPostS (P : Program) (fn : Func) (R : Ending → World → Prop) : Exit → Act → World → Prop
  | .panic _, _, _ => False
  | e, a, w => bodyPostM Fence.wide 0 P fn R e a w
theorem calls_of_wpS {k : FuncId} {fn : Func} {c : Code} {args : Array Value} {w : World} {R : Ending → World → Prop} (hf : P.funcs[k]? = some fn) (hb : fn.body = some c)
    (h : c.wp P (bodyPostS P fn R) { tmps := args ++ Array.replicate (fn.ntmps - args.size) undef, defers := [] } w) : Calls P k args w R :=
  callsIn_wide.1 (callsIn_of_wp_marks (n := 0) hf hb trivial (wpIn_wide.2 (wp_mono h fun e a w hq => by
    cases e with
    | panic c => exact hq.elim
    | _ => exact hq)))

theorem Does.enter {k : FuncId} {fn : Func} {c : Code} {args : List Value} {m : Nat} {Lin : List Rs} {RO : World → Prop} {X : Type} {ψ : X → Prop} {rv : X → Value} {Lout : X → List Rs}
    (hf : P.funcs[k]? = some fn) (hb : fn.body = some c) (hm : fn.ntmps = m) (hl : args.length ≤ m)
    (h : ∀ W0, RO W0 → VK W0 (Lin.flatMap Rs.ids) m (c.wp P (bodyPostS P fn (DoesR W0 Lin ψ rv Lout))) (numb 0 args) Lin) : Does P k args Lin RO ψ rv Lout := by
  intro W hw hro
  refine calls_of_wpS hf hb ?_
  refine h W hro _ _ ⟨Marks.nil, ?_, ?_, Only.refl _ _, hw, fun j hj => .inl hj⟩
  · simp [hm]; omega
  · intro i v hi
    obtain ⟨_, h2⟩ := look_numb args 0 i v hi
    simp only [Nat.sub_zero] at h2
    have hlt : i < args.length := (List.getElem?_eq_some_iff.1 h2).1
    rw [Array.getElem?_append_left (by simpa using hlt)]
    simpa using h2

theorem Does.mono {k : FuncId} {args : List Value} {Lin : List Rs} {RO RO' : World → Prop} {X X' : Type} {ψ : X → Prop} {rv : X → Value} {Lout : X → List Rs} {ψ' : X' → Prop} {rv' : X' → Value} {Lout' : X' → List Rs}
    (h : Does P k args Lin RO ψ rv Lout) (hro : ∀ W, RO' W → RO W) (hx : ∀ x, ψ x → ∃ x', ψ' x' ∧ rv x = rv' x' ∧ (Lout' x').Sublist (Lout x)) : Does P k args Lin RO' ψ' rv' Lout' := by
  intro W hw hr
  refine (h W hw (hro W hr)).mono ?_
  rintro e W' ⟨x, hp, rfl, ho, hown, hfr⟩
  obtain ⟨x', hp', e', hs⟩ := hx x hp
  exact ⟨x', hp', by rw [e'], ho, hown.sub hs, fun j hj => hfr j ((flatMap_sublist hs).subset hj)⟩

def resM (tm : Array Value) : ResultVar → Sem Value
  | .tmp t => pure (tm.getD t undef)
  | .cell x t => do loadVar t (← asAddr (tm.getD x undef))

theorem results_eq (fn : Func) (tm : Array Value) : results fn tm = (do let vs ← fn.results.mapM (resM tm); pure (if h : vs.size = 1 then vs[0] else .tuple vs)) := by
  unfold results
  refine congrArg (fun f => (fn.results.mapM f >>= fun vs => (pure (if h : vs.size = 1 then vs[0] else .tuple vs) : Sem Value))) (funext fun r => ?_)
  cases r <;> rfl

inductive ResV (P : Program) (gs : List Nat) (W0 : World) (E : List (Nat × Value)) (L : List Rs) : List ResultVar → List Value → Prop
  | nil : ResV P gs W0 E L [] []
  | tmp {t : Nat} {v : Value} {rs : List ResultVar} {vs : List Value} : look E t = some v → ResV P gs W0 E L rs vs → ResV P gs W0 E L (.tmp t :: rs) (v :: vs)
  | cell {t : Nat} {ty ty' : TypeId} {s g : Nat} {C : List Value} {rs : List ResultVar} {vs : List Value} : tySz P ty = some (true, s) → look E t = some (.pointer (some ⟨g, 0, none⟩)) → Rs.blk g C ty' ∈ L → C.length = s →
      ResV P gs W0 E L rs vs → ResV P gs W0 E L (.cell t ty :: rs) (.agg C.toArray :: vs)
  | cell1 {t : Nat} {ty ty' : TypeId} {s g : Nat} {v : Value} {C : List Value} {rs : List ResultVar} {vs : List Value} : tySz P ty = some (false, s) → look E t = some (.pointer (some ⟨g, 0, none⟩)) → Rs.blk g (v :: C) ty' ∈ L →
      ResV P gs W0 E L rs vs → ResV P gs W0 E L (.cell t ty :: rs) (v :: vs)

def pack : List Value → Value
  | [v] => v
  | vs => .tuple vs.toArray

theorem ResV.run {gs : List Nat} {W0 : World} {n : Nat} {E : List (Nat × Value)} {L : List Rs} {a : Act} {W : World} (s : St W0 gs n E L a W) {rs : List ResultVar} {vs : List Value} (h : ResV P gs W0 E L rs vs) :
    (rs.mapM (resM a.tmps)).run P W = .ok vs W := by
  induction h with
  | nil => rfl
  | @tmp t v rs vs hl _ ih =>
    rw [List.mapM_cons]
    have e : (resM a.tmps (.tmp t)).run P W = .ok v W := by simp [resM, s.env _ _ hl]
    simp only [Sem.run_bind, e, Result.andThen_ok, ih, Sem.run_pure]
  | @cell t ty ty' s' g C rs vs ht hl hm hlen _ ih =>
    subst hlen
    rw [List.mapM_cons]
    have hv := s.env _ _ hl
    have hlies := lies_agg (W := W) (b := g) (o := 0) ht fun j u hu => by rw [Nat.zero_add, own_cell s.own hm]; exact hu
    unfold Lies at hlies
    have e : (resM a.tmps (.cell t ty)).run P W = .ok (.agg C.toArray) W := by simp [resM, hv, asAddr, hlies]
    simp only [Sem.run_bind, e, Result.andThen_ok, ih, Sem.run_pure]
  | @cell1 t ty ty' s' g v C rs vs ht hl hm _ ih =>
    rw [List.mapM_cons]
    have hv := s.env _ _ hl
    have hlies := lies_one (W := W) (a := ⟨g, 0, none⟩) ht (by rw [own_cell s.own hm]; rfl)
    unfold Lies at hlies
    have e : (resM a.tmps (.cell t ty)).run P W = .ok v W := by simp [resM, hv, asAddr, hlies]
    simp only [Sem.run_bind, e, Result.andThen_ok, ih, Sem.run_pure]

theorem run_results {gs : List Nat} {W0 : World} {n : Nat} {E : List (Nat × Value)} {L : List Rs} {a : Act} {W : World} {fn : Func} {rs : List ResultVar} {vs : List Value} (s : St W0 gs n E L a W)
    (hr : fn.results = rs.toArray) (h : ResV P gs W0 E L rs vs) : (results fn a.tmps).run P W = .ok (pack vs) W := by
  rw [results_eq, hr, Sem.run_bind]
  have h1 := h.run s
  have h2 : (rs.toArray.mapM (resM a.tmps)).run P W = .ok vs.toArray W := by
    rw [List.mapM_toArray, Sem.run_map, h1]
    rfl
  rw [h2]
  simp only [Result.andThen_ok, Sem.run_pure]
  congr 1
  match vs with
  | [] => rfl
  | [v] => rfl
  | u :: v :: vs => simp [pack]

/-- A mark is run: its block is shut. -/
theorem St.shut {W0 : World} {gs : List Nat} {n : Nat} {E : List (Nat × Value)} {L : List Rs} {a : Act} {W : World} {d : Deferred} {ds : List Deferred} (s : St W0 gs n E L a W) (hd : a.defers = d :: ds) :
    ∃ D, d.target = .collected D ∧ (Instr.takeDeferred D).run P W = .ok [] (W.putObj D (.deferred none)) ∧ St W0 gs n E L { a with defers := ds } (W.putObj D (.deferred none)) := by
  have hm := s.defers
  rw [hd] at hm
  obtain ⟨D, rfl, h1, h3, h4⟩ := hm.all d (.head _)
  have hlt := (Array.getElem?_eq_some_iff.1 h4).1
  have hoth : ∀ k, k ≠ D → (W.putObj D (.deferred none)).heap[k]? = W.heap[k]? := fun k hk => World.putObj_heap_other hk
  refine ⟨D, rfl, run_takeDeferred h4, ⟨?_, ?_⟩, s.size, s.env, ⟨s.only.os, s.only.tape, s.only.output, by rw [World.putObj_size]; exact s.only.size, fun k hk hn => ?_⟩, own_stable s.own fun k hk => hoth k ?_, s.fresh⟩
  · exact (List.nodup_cons.1 hm.nodup).2
  · intro d' hd'
    obtain ⟨D', rfl, h1', h3', h4'⟩ := hm.all d' (.tail _ hd')
    refine ⟨D', rfl, h1', h3', ?_⟩
    rw [hoth D' ?_]
    · exact h4'
    · rintro rfl
      exact (List.nodup_cons.1 hm.nodup).1 hd'
  · rw [hoth k (by omega)]
    exact s.only.block k hk hn
  · rintro rfl
    exact h3 hk
theorem VE.leave {W0 : World} {n : Nat} {E : List (Nat × Value)} {L : List Rs} {fn : Func} {Lin : List Rs} {X : Type} {ψ : X → Prop} {rv : X → Value} {Lout : X → List Rs} {rs : List ResultVar} {vs : List Value}
    (hr : fn.results = rs.toArray) (hv : ResV P (Lin.flatMap Rs.ids) W0 E L rs vs) (x : X) (hx : ψ x) (he : pack vs = rv x) (hL : (Lout x).Sublist L) :
    ∀ (ds : List Deferred) (a : Act) (W : World), a.defers = ds → St W0 (Lin.flatMap Rs.ids) n E L a W → LeavesInM Fence.wide 0 P fn a.tmps (DoesR W0 Lin ψ rv Lout) a.defers .returning W := by
  intro ds
  induction ds with
  | nil =>
    intro a W hd s
    rw [hd]
    exact ⟨pack vs, run_results s hr hv, x, hx, by rw [he], s.only, s.own.sub hL, fun j hj => s.fresh j ((flatMap_sublist hL).subset hj)⟩
  | cons d ds ih =>
    intro a W hd s
    obtain ⟨D, h1, h2, h3⟩ := s.shut (P := P) hd
    rw [hd]
    exact ⟨by simp, .inl ⟨D, _, h1, h2, ih _ _ rfl h3⟩⟩
theorem VE.ret {W0 : World} {n : Nat} {E : List (Nat × Value)} {L : List Rs} {fn : Func} {Lin : List Rs} {X : Type} {ψ : X → Prop} {rv : X → Value} {Lout : X → List Rs} {rs : List ResultVar} {vs : List Value}
    (hr : fn.results = rs.toArray) (hv : ResV P (Lin.flatMap Rs.ids) W0 E L rs vs) (x : X) (hx : ψ x) (he : pack vs = rv x) (hL : (Lout x).Sublist L) :
    VK W0 (Lin.flatMap Rs.ids) n (fun a W => bodyPostS P fn (DoesR W0 Lin ψ rv Lout) .ret a W) E L := fun a W s => VE.leave hr hv x hx he hL a.defers a W rfl s

theorem VE.end {W0 : World} {n : Nat} {E : List (Nat × Value)} {L : List Rs} {fn : Func} {Lin : List Rs} {X : Type} {ψ : X → Prop} {rv : X → Value} {Lout : X → List Rs} {rs : List ResultVar} {vs : List Value}
    (hr : fn.results = rs.toArray) (hv : ResV P (Lin.flatMap Rs.ids) W0 E L rs vs) (x : X) (hx : ψ x) (he : pack vs = rv x) (hL : (Lout x).Sublist L) :
    VK W0 (Lin.flatMap Rs.ids) n (fun a W => bodyPostS P fn (DoesR W0 Lin ψ rv Lout) .normal a W) E L := fun a W s => VE.leave hr hv x hx he hL a.defers a W rfl s
end
end Go.Sx
