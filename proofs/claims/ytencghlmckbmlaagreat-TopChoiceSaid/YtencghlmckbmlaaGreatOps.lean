/- The operations that leave the world as it is, each as one rule of the calculus. Conditions: those of the rules. -/
import Derived.Test.YtencghlmckbmlaaGreatSx
namespace Go.Sx
open Go Go.RowKit

/-! facts on types, as closed terms -/
def isAggD : TypeDesc → Bool
  | .struct _ | .array _ _ => true
  | _ => false

/-- (is it a struct or an array, its cells) -/
def tySz (P : Program) (t : TypeId) : Option (Bool × Nat) :=
  match P.underlying t, P.info? t with
  | some d, some i => some (isAggD d, i.size)
  | _, _ => none

def tyZero (P : Program) (t : TypeId) : Option (List Value) := (P.info? t).bind fun i => i.zero.map fun z => z.cells.toList
def tyFieldOf (P : Program) (s f : Nat) : Option Field :=
  match P.underlying s with
  | some (.struct fs) => fs[f]?
  | _ => none
/-- a field's offset, if it is not empty -/
def tyField (P : Program) (s f : Nat) : Option Nat :=
  match tyFieldOf P s f with
  | some x => match P.info? x.type with
    | some i => if i.size = 0 then none else some x.offset
    | none => none
  | none => none
/-- a slice's element, its cells, its bytes -/
def tySlice (P : Program) (t : TypeId) : Option (TypeId × Nat × Nat) :=
  match P.underlying t with
  | some (.slice e) => (P.info? e).map fun i => (e, i.size, i.bytes)
  | _ => none
/-- an array's length, element, the element's cells -/
def tyArr (P : Program) (t : TypeId) : Option (Nat × TypeId × Nat) :=
  match P.underlying t with
  | some (.array n e) => (P.info? e).map fun i => (n, e, i.size)
  | _ => none
def tyInt (P : Program) (t : TypeId) : Option IntKind :=
  match P.underlying t with
  | some (.int k) => some k
  | _ => none
def tyLay (P : Program) (t : TypeId) : Option (List (Nat × Nat)) :=
  match P.underlying t with
  | some (.struct fs) => fs.toList.mapM fun f => (P.info? f.type).map fun i => (f.offset, i.size)
  | some (.array n e) => (P.info? e).map fun i => (List.range n).map fun j => (j * i.size, i.size)
  | _ => none

theorem tySz_spec {P : Program} {t : TypeId} {b : Bool} {s : Nat} (h : tySz P t = some (b, s)) :
    ∃ d i, P.underlying t = some d ∧ P.info? t = some i ∧ isAggD d = b ∧ i.size = s := by
  unfold tySz at h
  split at h
  · rename_i d i hd hi
    simp only [Option.some.injEq, Prod.mk.injEq] at h
    exact ⟨d, i, hd, hi, h.1, h.2⟩
  · cases h

theorem run_isAgg {P : Program} {t : TypeId} {b : Bool} {s : Nat} (h : tySz P t = some (b, s)) (W : World) : (isAgg t).run P W = .ok b W := by
  obtain ⟨d, i, hd, hi, rfl, rfl⟩ := tySz_spec h
  unfold isAgg
  rw [Sem.run_bind, run_underlying hd W]
  cases d <;> rfl

theorem run_sizeOf' {P : Program} {t : TypeId} {b : Bool} {s : Nat} (h : tySz P t = some (b, s)) (W : World) : (sizeOf t).run P W = .ok s W := by
  obtain ⟨d, i, hd, hi, rfl, rfl⟩ := tySz_spec h
  simp [sizeOf, typeInfo, hi]

/-- A piece of a list: 's' cells from 'off' on. -/
inductive Seg : List Value → Nat → Nat → List Value → Prop
  | nil {C : List Value} : Seg C 0 0 []
  | here {c : Value} {C xs : List Value} {s : Nat} : Seg C 0 s xs → Seg (c :: C) 0 (s + 1) (c :: xs)
  | skip {c : Value} {C xs : List Value} {o s : Nat} : Seg C o s xs → Seg (c :: C) (o + 1) s xs

theorem Seg.spec {C xs : List Value} {o s : Nat} (h : Seg C o s xs) : xs.length = s ∧ ∀ j u, xs[j]? = some u → C[o + j]? = some u := by
  induction h with
  | nil => exact ⟨rfl, fun j u h => by simp at h⟩
  | @here c C xs s _ ih =>
    refine ⟨by simp [ih.1], fun j u h => ?_⟩
    cases j with
    | zero => simpa using h
    | succ j =>
      have := ih.2 j u (by simpa using h)
      simpa [Nat.add_comm] using this
  | @skip c C xs o s _ ih =>
    refine ⟨ih.1, fun j u h => ?_⟩
    have := ih.2 j u h
    rw [show o + 1 + j = (o + j) + 1 by omega]
    simpa using this

theorem Seg.all {C : List Value} : Seg C 0 C.length C := by
  induction C with
  | nil => exact .nil
  | cons c C ih => exact .here ih

/-- What a piece of a list is replaced by. -/
inductive Put : List Value → Nat → List Value → List Value → Prop
  | nil {C : List Value} : Put C 0 [] C
  | here {c x : Value} {C C' xs : List Value} : Put C 0 xs C' → Put (c :: C) 0 (x :: xs) (x :: C')
  | skip {c : Value} {C C' xs : List Value} {o : Nat} : Put C o xs C' → Put (c :: C) (o + 1) xs (c :: C')

theorem Put.spec {C C' xs : List Value} {o : Nat} (h : Put C o xs C') : o + xs.length ≤ C.length ∧ C' = C.take o ++ xs ++ C.drop (o + xs.length) := by
  induction h with
  | nil => simp
  | @here c x C C' xs _ ih =>
    obtain ⟨h1, h2⟩ := ih
    refine ⟨by simp at h1 ⊢; omega, ?_⟩
    rw [h2]
    simp
  | @skip c C C' xs o _ ih =>
    obtain ⟨h1, h2⟩ := ih
    refine ⟨by simp at h1 ⊢; omega, ?_⟩
    rw [h2, show o + 1 + xs.length = (o + xs.length) + 1 by omega]
    simp

/-- A value of one cell, told by its head. -/
def one (v : Value) : Bool := match v with | .agg _ | .tuple _ => false | _ => true
theorem one_cells {v : Value} (h : one v = true) : v.cells = #[v] := by cases v <;> first | rfl | cases h
theorem one_oneCell {v : Value} (h : one v = true) : v.oneCell' = true := by cases v <;> first | rfl | cases h

/-! memory: the places of the own blocks -/

theorem own_cell {W : World} {L : List Rs} {g : Nat} {C : List Value} {t : TypeId} (h : Own W L) (hm : Rs.blk g C t ∈ L) (j : Nat) : W.cell? ⟨g, j, none⟩ = C[j]? := by
  have hb : W.heap[g]? = some (.cells C.toArray t (0, 0)) := h.all _ hm
  rw [cell_of_row W g j _ t _ hb]
  simp

/-- 'v' is what lies at an address, as a variable of type 't'. -/
def Lies (P : Program) (W : World) (t : TypeId) (a : Addr) (v : Value) : Prop := (loadVar t a).run P W = .ok v W

theorem lies_one {P : Program} {W : World} {t : TypeId} {a : Addr} {v : Value} {s : Nat} (ht : tySz P t = some (false, s)) (hc : W.cell? a = some v) : Lies P W t a v := by
  unfold Lies loadVar
  simp [run_isAgg ht, hc]

theorem lies_agg {P : Program} {W : World} {t : TypeId} {b o : Nat} {xs : List Value} (ht : tySz P t = some (true, xs.length)) (hc : ∀ j u, xs[j]? = some u → W.cell? ⟨b, o + j, none⟩ = some u) :
    Lies P W t ⟨b, o, none⟩ (.agg xs.toArray) := by
  have hl : (loadCells ⟨b, o, none⟩ xs.length).run P W = .ok xs.toArray W :=
    run_loadCells_list (P := P) W ⟨b, o, none⟩ xs (fun j v hv => by rw [Addr.add_lit]; exact hc j v hv)
  unfold Lies loadVar
  simp [run_isAgg ht, run_sizeOf' ht, hl]

section
variable {P : Program} {W0 : World} {gs : List Nat} {E : List (Nat × Value)} {L : List Rs}

theorem Q.move {x : Operand} {v : Value} (hx : ev E x = some v) : Quiet P W0 gs E L (.move x) v := by
  intro a W dst t pos after g he _ _
  simp [execOp, he x v hx]

theorem Q.assign {x : Operand} {v : Value} (hx : ev E x = some v) : Quiet P W0 gs E L (.assign x) v := by
  intro a W dst t pos after g he _ _
  simp [execOp, he x v hx]

theorem Q.pick {c x y : Operand} {b : Bool} {u v : Value} (hc : ev E c = some (.bool b)) (hx : b = true → ev E x = some u) (hy : b = false → ev E y = some v) :
    Quiet P W0 gs E L (.pick c x y) (if b then u else v) := by
  intro a W dst t pos after g he _ _
  simp only [execOp, he c _ hc, asBool]
  cases b
  · simp [he y v (hy rfl)]
  · simp [he x u (hx rfl)]

theorem Q.pick_true {c x y : Operand} {u : Value} (hc : ev E c = some (.bool true)) (hx : ev E x = some u) : Quiet P W0 gs E L (.pick c x y) u := by
  intro a W dst t pos after g he _ _
  simp [execOp, he c _ hc, asBool, he x u hx]
theorem Q.pick_false {c x y : Operand} {u : Value} (hc : ev E c = some (.bool false)) (hy : ev E y = some u) : Quiet P W0 gs E L (.pick c x y) u := by
  intro a W dst t pos after g he _ _
  simp [execOp, he c _ hc, asBool, he y u hy]

theorem Q.nilCheck {x : Operand} {p : Addr} (hx : ev E x = some (.pointer (some p))) : Quiet P W0 gs E L (.nilCheck x) (.pointer (some p)) := by
  intro a W dst t pos after g he _ _
  simp [execOp, he x _ hx]

theorem Q.fieldAddr {s f off b o : Nat} {x : Operand} (hf : tyField P s f = some off) (hx : ev E x = some (.pointer (some ⟨b, o, none⟩))) :
    Quiet P W0 gs E L (.fieldAddr s x f) (.pointer (some ⟨b, o + off, none⟩)) := by
  intro a W dst t pos after g he _ _
  unfold tyField at hf
  cases hF : tyFieldOf P s f with
  | none => simp [hF] at hf
  | some fl =>
    simp only [hF] at hf
    cases hi : P.info? fl.type with
    | none => simp [hi] at hf
    | some i =>
      simp only [hi] at hf
      split at hf
      · cases hf
      · rename_i hz
        simp only [Option.some.injEq] at hf
        unfold tyFieldOf at hF
        split at hF
        · rename_i fs hu
          simp [execOp, he x _ hx, Instr.fieldAt, run_underlying hu, hF, Instr.sureAddr, fieldPlace, sizeOf, typeInfo, hi, hz, Addr.add_lit, hf]
        · cases hF

theorem Q.load {t : TypeId} {x : Operand} {p : Addr} {v : Value} (hx : ev E x = some (.pointer (some p))) (hl : ∀ W, Only gs W0 W → Own W L → Lies P W t p v) :
    Quiet P W0 gs E L (.load t x) v := by
  intro a W dst ty pos after g he ho hw
  have := hl W ho hw
  unfold Lies at this
  simp [execOp, he x _ hx, Instr.loadAt, Instr.sureAddr, this]

theorem Q.load1 {t t' : TypeId} {s g o : Nat} {x : Operand} {C : List Value} {v : Value} (ht : tySz P t = some (false, s)) (hx : ev E x = some (.pointer (some ⟨g, o, none⟩))) (hm : Rs.blk g C t' ∈ L)
    (hc : C[o]? = some v) : Quiet P W0 gs E L (.load t x) v :=
  Q.load hx fun _ _ hw => lies_one ht (by rw [own_cell hw hm]; exact hc)

theorem Q.loadA {t t' : TypeId} {s g o : Nat} {x : Operand} {C xs : List Value} (ht : tySz P t = some (true, s)) (hx : ev E x = some (.pointer (some ⟨g, o, none⟩))) (hm : Rs.blk g C t' ∈ L)
    (hc : Seg C o s xs) : Quiet P W0 gs E L (.load t x) (.agg xs.toArray) :=
  Q.load hx fun W _ hw => by
    obtain ⟨hs, hj⟩ := hc.spec
    subst hs
    exact lies_agg ht fun j u hu => by rw [own_cell hw hm]; exact hj j u hu

theorem Q.loadW {t t' : TypeId} {g : Nat} {x : Operand} {C : List Value} (ht : tySz P t = some (true, C.length)) (hx : ev E x = some (.pointer (some ⟨g, 0, none⟩))) (hm : Rs.blk g C t' ∈ L) :
    Quiet P W0 gs E L (.load t x) (.agg C.toArray) :=
  Q.loadA ht hx hm Seg.all

/-- A cell of the memory that was there. -/
theorem only_cell {W : World} (h : Only gs W0 W) {p : Addr} {v : Value} (hc : W0.cell? p = some v) (hg : p.block ∉ gs) : W.cell? p = some v :=
  (World.cell?_of_block (h.block p.block (World.block_lt_of_cell? W0 p hc) hg)).trans hc

theorem Q.load0 {t : TypeId} {s : Nat} {x : Operand} {p : Addr} {v : Value} (ht : tySz P t = some (false, s)) (hx : ev E x = some (.pointer (some p))) (hc : W0.cell? p = some v) (hg : p.block ∉ gs) :
    Quiet P W0 gs E L (.load t x) v :=
  Q.load hx fun _ ho _ => lies_one ht (only_cell ho hc hg)

theorem Q.load0A {t : TypeId} {b o : Nat} {x : Operand} {xs : List Value} (ht : tySz P t = some (true, xs.length)) (hx : ev E x = some (.pointer (some ⟨b, o, none⟩)))
    (hc : ∀ j u, xs[j]? = some u → W0.cell? ⟨b, o + j, none⟩ = some u) (hg : b ∉ gs) :
    Quiet P W0 gs E L (.load t x) (.agg xs.toArray) :=
  Q.load hx fun W ho _ => lies_agg ht fun j u hu => only_cell ho (hc j u hu) hg

theorem Q.extract {x : Operand} {vs : List Value} {i : Nat} {v : Value} (hx : ev E x = some (.tuple vs.toArray)) (hv : vs[i]? = some v) : Quiet P W0 gs E L (.extract x i) v := by
  intro a W dst t pos after g he _ _
  simp [execOp, he x _ hx, Instr.extract, hv]

theorem Q.not {x : Operand} {t : TypeId} {b : Bool} (hx : ev E x = some (.bool b)) : Quiet P W0 gs E L (.unOp .not t x) (.bool (!b)) := by
  intro a W dst ty pos after g he _ _
  simp [execOp, he x _ hx, Op.unary]

theorem Q.makeFunc {fn : Fn} {xs ys : List Operand} {us vs : List Value} (hx : evs E xs = some us) (hy : evs E ys = some vs) :
    Quiet P W0 gs E L (.makeFunc fn xs.toArray ys.toArray) (.func fn us.toArray vs.toArray) := by
  intro a W dst t pos after g he _ _
  have key : ∀ (xs : List Operand) (vs : List Value), evs E xs = some vs → xs.map a.eval = vs := by
    intro xs
    induction xs with
    | nil => intro vs h; simpa [evs] using h
    | cons x xs ih =>
      intro vs h
      simp only [evs] at h
      split at h
      · rename_i v us hv hu
        simp only [Option.some.injEq] at h
        simp [he x v hv, ih us hu, h]
      · cases h
  simp [execOp, Instr.makeFunc, key xs us hx, key ys vs hy]

/-! integers -/

theorem eqGuard_int {op : BinOp} {t : TypeId} {x y : Operand} {k : IntKind} {p : Int} {v : Value} {W : World} : (eqGuard op t x y (.int k p) v).run P W = .ok () W := by
  rw [eqGuard_at_int]; rfl

theorem Q.bin {op : BinOp} {t t' : TypeId} {x y : Operand} {u v r : Value} (hx : ev E x = some u) (hy : ev E y = some v)
    (hg : ∀ W : World, (eqGuard op t x y u v).run P W = .ok () W) (hr : ∀ W : World, (binOp op t u v).run P W = .ok r W) : Quiet P W0 gs E L (.binOp op t x y t') r := by
  intro a W dst ty pos after g he _ _
  simp [execOp, he x _ hx, he y _ hy, hg, hr]

theorem Q.ibin {op : BinOp} {t t' : TypeId} {x y : Operand} {k k' : IntKind} {p q : Int} {r : Value} (hx : ev E x = some (.int k p)) (hy : ev E y = some (.int k' q))
    (hr : ∀ W : World, (binOp op t (.int k p) (.int k' q)).run P W = .ok r W) : Quiet P W0 gs E L (.binOp op t x y t') r :=
  Q.bin hx hy (fun _ => eqGuard_int) hr

theorem Q.add {t t' : TypeId} {x y : Operand} {k : IntKind} {p q : Int} (hx : ev E x = some (.int k p)) (hy : ev E y = some (.int k q)) : Quiet P W0 gs E L (.binOp .add t x y t') (.int k (k.wrap (p + q))) :=
  Q.ibin hx hy fun W => by simp [binOp, Op.intArith]
theorem Q.sub {t t' : TypeId} {x y : Operand} {k : IntKind} {p q : Int} (hx : ev E x = some (.int k p)) (hy : ev E y = some (.int k q)) : Quiet P W0 gs E L (.binOp .sub t x y t') (.int k (k.wrap (p - q))) :=
  Q.ibin hx hy fun W => by simp [binOp, Op.intArith]
theorem Q.mul {t t' : TypeId} {x y : Operand} {k : IntKind} {p q : Int} (hx : ev E x = some (.int k p)) (hy : ev E y = some (.int k q)) : Quiet P W0 gs E L (.binOp .mul t x y t') (.int k (k.wrap (p * q))) :=
  Q.ibin hx hy fun W => by simp [binOp, Op.intArith]

/-- the numbers of a kind, as literals -/
def klo : IntKind → Int
  | .i8 => -128 | .i16 => -32768 | .i32 => -2147483648 | .i64 => -9223372036854775808 | _ => 0
def khi : IntKind → Int
  | .i8 => 127 | .i16 => 32767 | .i32 => 2147483647 | .i64 => 9223372036854775807 | .u8 => 255 | .u16 => 65535 | .u32 => 4294967295 | .u64 => 18446744073709551615

theorem wrap_fit {k : IntKind} {z : Int} (h1 : klo k ≤ z) (h2 : z ≤ khi k) : k.wrap z = z := by
  cases k
  · exact IntWalk.i8_in z ⟨h1, h2⟩
  · exact IntWalk.i16_in z ⟨h1, h2⟩
  · exact IntWalk.i32_in z ⟨h1, h2⟩
  · exact IntWalk.i64_in z ⟨h1, h2⟩
  · exact IntWalk.u8_in z ⟨h1, h2⟩
  · exact IntWalk.u16_in z ⟨h1, h2⟩
  · exact IntWalk.u32_in z ⟨h1, h2⟩
  · exact IntWalk.u64_in z ⟨h1, h2⟩

theorem Q.addI {t t' : TypeId} {x y : Operand} {p q : Int} (hx : ev E x = some (.int .i64 p)) (hy : ev E y = some (.int .i64 q)) (h1 : -9223372036854775808 ≤ p + q) (h2 : p + q ≤ 9223372036854775807) :
    Quiet P W0 gs E L (.binOp .add t x y t') (.int .i64 (p + q)) := by
  have := Q.add (P := P) (W0 := W0) (gs := gs) (L := L) (t := t) (t' := t') hx hy
  rwa [wrap_fit h1 h2] at this
theorem Q.subI {t t' : TypeId} {x y : Operand} {p q : Int} (hx : ev E x = some (.int .i64 p)) (hy : ev E y = some (.int .i64 q)) (h1 : -9223372036854775808 ≤ p - q) (h2 : p - q ≤ 9223372036854775807) :
    Quiet P W0 gs E L (.binOp .sub t x y t') (.int .i64 (p - q)) := by
  have := Q.sub (P := P) (W0 := W0) (gs := gs) (L := L) (t := t) (t' := t') hx hy
  rwa [wrap_fit h1 h2] at this
theorem Q.mulI {t t' : TypeId} {x y : Operand} {p q : Int} (hx : ev E x = some (.int .i64 p)) (hy : ev E y = some (.int .i64 q)) (h1 : -9223372036854775808 ≤ p * q) (h2 : p * q ≤ 9223372036854775807) :
    Quiet P W0 gs E L (.binOp .mul t x y t') (.int .i64 (p * q)) := by
  have := Q.mul (P := P) (W0 := W0) (gs := gs) (L := L) (t := t) (t' := t') hx hy
  rwa [wrap_fit h1 h2] at this

theorem Q.quo {t t' : TypeId} {x y : Operand} {k : IntKind} {p q : Int} (hx : ev E x = some (.int k p)) (hy : ev E y = some (.int k q)) (hq : 0 < q) (h0 : 0 ≤ p) (h1 : p ≤ khi k) :
    Quiet P W0 gs E L (.binOp .quo t x y t') (.int k (p / q)) :=
  Q.ibin hx hy fun W => by
    have hz : q ≠ 0 := by omega
    have e : p.tdiv q = p / q := Int.tdiv_eq_ediv_of_nonneg h0
    have hd := Int.ediv_nonneg h0 (Int.le_of_lt hq)
    have hl : p / q ≤ p := Int.ediv_le_self _ h0
    have hw : k.wrap (p / q) = p / q := wrap_fit (by have : klo k ≤ 0 := by cases k <;> decide
                                                     omega) (by omega)
    simp [binOp, Op.intDiv, hz, e, hw]
theorem Q.rem {t t' : TypeId} {x y : Operand} {k : IntKind} {p q : Int} (hx : ev E x = some (.int k p)) (hy : ev E y = some (.int k q)) (hq : 0 < q) (h0 : 0 ≤ p) :
    Quiet P W0 gs E L (.binOp .rem t x y t') (.int k (p % q)) :=
  Q.ibin hx hy fun W => by
    have hz : q ≠ 0 := by omega
    have e : p.tmod q = p % q := Int.tmod_eq_emod_of_nonneg h0
    simp [binOp, Op.intDiv, hz, e]
theorem Q.remT {t t' : TypeId} {x y : Operand} {k : IntKind} {p q : Int} (hx : ev E x = some (.int k p)) (hy : ev E y = some (.int k q)) (hq : 0 < q) :
    Quiet P W0 gs E L (.binOp .rem t x y t') (.int k (p.tmod q)) :=
  Q.ibin hx hy fun W => by
    have hz : q ≠ 0 := by omega
    simp [binOp, Op.intDiv, hz]

theorem Q.eq {t t' : TypeId} {x y : Operand} {k : IntKind} {p q : Int} (hx : ev E x = some (.int k p)) (hy : ev E y = some (.int k q)) : Quiet P W0 gs E L (.binOp .eql t x y t') (.bool (p == q)) :=
  Q.ibin hx hy fun W => by simp [binOp, Op.intCmp]
theorem Q.ne {t t' : TypeId} {x y : Operand} {k : IntKind} {p q : Int} (hx : ev E x = some (.int k p)) (hy : ev E y = some (.int k q)) : Quiet P W0 gs E L (.binOp .neq t x y t') (.bool (p != q)) :=
  Q.ibin hx hy fun W => by simp [binOp, Op.intCmp]
theorem Q.lt {t t' : TypeId} {x y : Operand} {k : IntKind} {p q : Int} (hx : ev E x = some (.int k p)) (hy : ev E y = some (.int k q)) : Quiet P W0 gs E L (.binOp .lss t x y t') (.bool (decide (p < q))) :=
  Q.ibin hx hy fun W => by simp [binOp, Op.intCmp]
theorem Q.le {t t' : TypeId} {x y : Operand} {k : IntKind} {p q : Int} (hx : ev E x = some (.int k p)) (hy : ev E y = some (.int k q)) : Quiet P W0 gs E L (.binOp .leq t x y t') (.bool (decide (p ≤ q))) :=
  Q.ibin hx hy fun W => by simp [binOp, Op.intCmp]
theorem Q.gt {t t' : TypeId} {x y : Operand} {k : IntKind} {p q : Int} (hx : ev E x = some (.int k p)) (hy : ev E y = some (.int k q)) : Quiet P W0 gs E L (.binOp .gtr t x y t') (.bool (decide (q < p))) :=
  Q.ibin hx hy fun W => by simp [binOp, Op.intCmp]
theorem Q.ge {t t' : TypeId} {x y : Operand} {k : IntKind} {p q : Int} (hx : ev E x = some (.int k p)) (hy : ev E y = some (.int k q)) : Quiet P W0 gs E L (.binOp .geq t x y t') (.bool (decide (q ≤ p))) :=
  Q.ibin hx hy fun W => by simp [binOp, Op.intCmp]

theorem ofInt_toNat {m : Nat} {p : Int} (h0 : 0 ≤ p) (h1 : p < 2 ^ m) : (BitVec.ofInt m p).toNat = p.toNat := by
  obtain ⟨a, rfl⟩ := Int.eq_ofNat_of_zero_le h0
  rw [BitVec.toNat_ofInt]
  have : ((a : Int) % (2 ^ m : Nat)) = a := by
    apply Int.emod_eq_of_lt (by omega)
    exact_mod_cast h1
  rw [this]

theorem hi_lt {k : IntKind} {p : Int} (h : p ≤ khi k) : p < 2 ^ k.bits := by
  cases k <;> simp [khi, IntKind.bits] at * <;> omega

theorem hi_nat {k : IntKind} {p : Int} (h0 : 0 ≤ p) (h : p ≤ khi k) : p.toNat < 2 ^ (if k.signed then k.bits - 1 else k.bits) := by
  cases k <;> simp [khi, IntKind.bits, IntKind.signed] at * <;> omega

theorem fit_nat {k : IntKind} {m : Nat} (h : m < 2 ^ (if k.signed then k.bits - 1 else k.bits)) : k.wrap (m : Int) = m := by
  apply wrap_fit
  · have : klo k ≤ 0 := by cases k <;> decide
    omega
  · cases k <;> simp [khi, IntKind.bits, IntKind.signed] at * <;> omega

theorem Q.and {t t' : TypeId} {x y : Operand} {k : IntKind} {p q : Int} (hx : ev E x = some (.int k p)) (hy : ev E y = some (.int k q)) (h0 : 0 ≤ p) (h1 : p ≤ khi k) (h2 : 0 ≤ q) (h3 : q ≤ khi k) :
    Quiet P W0 gs E L (.binOp .and t x y t') (.int k ((p.toNat &&& q.toNat : Nat) : Int)) :=
  Q.ibin hx hy fun W => by
    have e : k.wrap ((BitVec.ofInt k.bits p &&& BitVec.ofInt k.bits q).toNat : Int) = ((p.toNat &&& q.toNat : Nat) : Int) := by
      rw [BitVec.toNat_and, ofInt_toNat h0 (hi_lt h1), ofInt_toNat h2 (hi_lt h3)]
      exact fit_nat (Nat.and_lt_two_pow _ (hi_nat h2 h3))
    simp only [binOp, Op.intBits, ne_eq, not_true_eq_false, if_false]
    exact congrArg (fun z => Result.ok (Value.int k z) W) e
theorem Q.or {t t' : TypeId} {x y : Operand} {k : IntKind} {p q : Int} (hx : ev E x = some (.int k p)) (hy : ev E y = some (.int k q)) (h0 : 0 ≤ p) (h1 : p ≤ khi k) (h2 : 0 ≤ q) (h3 : q ≤ khi k) :
    Quiet P W0 gs E L (.binOp .or t x y t') (.int k ((p.toNat ||| q.toNat : Nat) : Int)) :=
  Q.ibin hx hy fun W => by
    have e : k.wrap ((BitVec.ofInt k.bits p ||| BitVec.ofInt k.bits q).toNat : Int) = ((p.toNat ||| q.toNat : Nat) : Int) := by
      rw [BitVec.toNat_or, ofInt_toNat h0 (hi_lt h1), ofInt_toNat h2 (hi_lt h3)]
      exact fit_nat (Nat.or_lt_two_pow (hi_nat h0 h1) (hi_nat h2 h3))
    simp only [binOp, Op.intBits, ne_eq, not_true_eq_false, if_false]
    exact congrArg (fun z => Result.ok (Value.int k z) W) e
theorem Q.xor {t t' : TypeId} {x y : Operand} {k : IntKind} {p q : Int} (hx : ev E x = some (.int k p)) (hy : ev E y = some (.int k q)) (h0 : 0 ≤ p) (h1 : p ≤ khi k) (h2 : 0 ≤ q) (h3 : q ≤ khi k) :
    Quiet P W0 gs E L (.binOp .xor t x y t') (.int k ((p.toNat ^^^ q.toNat : Nat) : Int)) :=
  Q.ibin hx hy fun W => by
    have e : k.wrap ((BitVec.ofInt k.bits p ^^^ BitVec.ofInt k.bits q).toNat : Int) = ((p.toNat ^^^ q.toNat : Nat) : Int) := by
      rw [BitVec.toNat_xor, ofInt_toNat h0 (hi_lt h1), ofInt_toNat h2 (hi_lt h3)]
      exact fit_nat (Nat.xor_lt_two_pow (hi_nat h0 h1) (hi_nat h2 h3))
    simp only [binOp, Op.intBits, ne_eq, not_true_eq_false, if_false]
    exact congrArg (fun z => Result.ok (Value.int k z) W) e

theorem Q.xorNot {t : TypeId} {x : Operand} {k : IntKind} {p : Int} (hx : ev E x = some (.int k p)) (hk : k.signed = false) (h0 : 0 ≤ p) (h1 : p ≤ khi k) :
    Quiet P W0 gs E L (.unOp .xor t x) (.int k (khi k - p)) := by
  intro a W dst ty pos after g he _ _
  have hm : k.max = khi k := by cases k <;> first | (cases hk; done) | rfl
  have e : k.wrap ((BitVec.ofInt k.bits (khi k) ^^^ BitVec.ofInt k.bits p).toNat : Int) = khi k - p := by
    have hb : BitVec.ofInt k.bits (khi k) = BitVec.allOnes k.bits := by cases k <;> first | (cases hk; done) | rfl
    rw [hb, BitVec.allOnes_xor, BitVec.toNat_not, ofInt_toNat h0 (hi_lt h1)]
    have hlt := hi_lt h1
    have : ((2 ^ k.bits - 1 - p.toNat : Nat) : Int) = khi k - p := by
      cases k <;> first | (cases hk; done) | (simp [khi, IntKind.bits] at *; omega)
    rw [this]
    exact wrap_fit (by have : klo k = 0 := by cases k <;> first | (cases hk; done) | rfl
                       omega) (by omega)
  simp only [execOp, he x _ hx, Op.unary, hk, Bool.false_eq_true, if_false, hm, Op.intBits]
  show Result.ok (Next.value (Value.int k (k.wrap ((BitVec.ofInt k.bits (khi k) ^^^ BitVec.ofInt k.bits p).toNat : Int)))) W = _
  rw [e]

theorem Q.shl {t t' : TypeId} {x y : Operand} {k k' : IntKind} {p q : Int} (hx : ev E x = some (.int k p)) (hy : ev E y = some (.int k' q)) (h0 : 0 ≤ q) :
    Quiet P W0 gs E L (.binOp .shl t x y t') (.int k (k.wrap (p * 2 ^ min q.toNat k.bits))) :=
  Q.ibin hx hy fun W => by simp [binOp, shift_shl_any k k' p q h0]
theorem Q.shr {t t' : TypeId} {x y : Operand} {k k' : IntKind} {p q : Int} (hx : ev E x = some (.int k p)) (hy : ev E y = some (.int k' q)) (h0 : 0 ≤ q) :
    Quiet P W0 gs E L (.binOp .shr t x y t') (.int k (p / 2 ^ min q.toNat k.bits)) :=
  Q.ibin hx hy fun W => by simp [binOp, shift_shr_any k k' p q h0]

theorem Q.beq {t t' : TypeId} {x y : Operand} {p q : Bool} (ht : P.underlying t = some .bool) (hx : ev E x = some (.bool p)) (hy : ev E y = some (.bool q)) : Quiet P W0 gs E L (.binOp .eql t x y t') (.bool (p == q)) :=
  Q.bin hx hy (fun _ => by rw [eqGuard_at_bool]; rfl) fun W => by simp [binOp, Op.equal, Op.maxDepth, run_equalIn_bool' W 9999 t p q ht]
theorem Q.bne {t t' : TypeId} {x y : Operand} {p q : Bool} (ht : P.underlying t = some .bool) (hx : ev E x = some (.bool p)) (hy : ev E y = some (.bool q)) : Quiet P W0 gs E L (.binOp .neq t x y t') (.bool (!(p == q))) :=
  Q.bin hx hy (fun _ => by rw [eqGuard_at_bool]; rfl) fun W => by simp [binOp, Op.equal, Op.maxDepth, run_equalIn_bool' W 9999 t p q ht]

theorem Q.conv {s d : TypeId} {x : Operand} {k k' : IntKind} {p : Int} (hs : tyInt P s = some k) (hd : tyInt P d = some k') (hx : ev E x = some (.int k p)) :
    Quiet P W0 gs E L (.convert s d x) (.int k' (k'.wrap p)) := by
  intro a W dst ty pos after g he _ _
  have h1 : P.underlying s = some (.int k) := by unfold tyInt at hs; split at hs <;> simp_all
  have h2 : P.underlying d = some (.int k') := by unfold tyInt at hd; split at hd <;> simp_all
  simp [execOp, he x _ hx, convert, run_underlying h1, run_underlying h2, Conv.intToInt]
theorem Q.convF {s d : TypeId} {x : Operand} {k k' : IntKind} {p : Int} (hs : tyInt P s = some k) (hd : tyInt P d = some k') (hx : ev E x = some (.int k p)) (h1 : klo k' ≤ p) (h2 : p ≤ khi k') :
    Quiet P W0 gs E L (.convert s d x) (.int k' p) := by
  have := Q.conv (P := P) (W0 := W0) (gs := gs) (L := L) hs hd hx
  rwa [wrap_fit h1 h2] at this

/-! slices and arrays -/

theorem Q.len {t : TypeId} {x : Operand} {p : Option Addr} {m c : Nat} {e : TypeId × Nat × Nat} (ht : tySlice P t = some e) (hx : ev E x = some (.slice p m c)) :
    Quiet P W0 gs E L (.call ⟨.builtin .len, #[x], #[t]⟩) (.int .i64 m) := by
  intro a W dst ty pos after g he _ _
  have h1 : ∃ e, P.underlying t = some (.slice e) := by
    unfold tySlice at ht
    split at ht
    · exact ⟨_, by assumption⟩
    · cases ht
  obtain ⟨e', h1⟩ := h1
  simp [execOp, resolve, invoke, builtin, he x _ hx, Builtin.len_, run_underlying h1, goInt]

theorem Q.lenArr {t : TypeId} {x : Operand} {v : Value} {m : Nat} {e : TypeId × Nat} (ht : tyArr P t = some (m, e)) (hx : ev E x = some v) :
    Quiet P W0 gs E L (.call ⟨.builtin .len, #[x], #[t]⟩) (.int .i64 m) := by
  intro a W dst ty pos after g he _ _
  have h1 : ∃ e, P.underlying t = some (.array m e) := by
    unfold tyArr at ht
    split at ht
    · rename_i n e' hu
      cases hi : P.info? e' with
      | none => simp [hi] at ht
      | some i => simp [hi] at ht; exact ⟨e', by rw [hu, ht.1]⟩
    · cases ht
  obtain ⟨e', h1⟩ := h1
  simp [execOp, resolve, invoke, builtin, he x _ hx, Builtin.len_, run_underlying h1, goInt]

theorem Q.min2 {ts : Array TypeId} {x y : Operand} {k : IntKind} {p q : Int} (hx : ev E x = some (.int k p)) (hy : ev E y = some (.int k q)) :
    Quiet P W0 gs E L (.call ⟨.builtin .min, #[x, y], ts⟩) (.int k (if q < p then q else p)) := by
  intro a W dst ty pos after g he _ _
  simp [execOp, resolve, invoke, builtin, he x _ hx, he y _ hy, Builtin.min_, Builtin.min2]
theorem Q.max2 {ts : Array TypeId} {x y : Operand} {k : IntKind} {p q : Int} (hx : ev E x = some (.int k p)) (hy : ev E y = some (.int k q)) :
    Quiet P W0 gs E L (.call ⟨.builtin .max, #[x, y], ts⟩) (.int k (if p < q then q else p)) := by
  intro a W dst ty pos after g he _ _
  simp [execOp, resolve, invoke, builtin, he x _ hx, he y _ hy, Builtin.max_, Builtin.max2]

theorem Q.indexAddr {t : TypeId} {x y : Operand} {b o m c s j : Nat} {e : TypeId} {by_ : Nat} {k : IntKind} {i : Int} (ht : tySlice P t = some (e, s, by_)) (hx : ev E x = some (.slice (some ⟨b, o, none⟩) m c))
    (hy : ev E y = some (.int k i)) (h0 : i = j) (h1 : j < m) :
    Quiet P W0 gs E L (.indexAddr t x y) (.pointer (some ⟨b, o + j * s, none⟩)) := by
  intro a W dst ty pos after g he _ _
  subst h0
  unfold tySlice at ht
  split at ht
  · rename_i e' hu
    cases hi : P.info? e' with
    | none => simp [hi] at ht
    | some inf =>
      simp [hi] at ht
      obtain ⟨rfl, rfl, rfl⟩ := ht
      simp [execOp, he x _ hx, he y _ hy, Instr.indexAt, asIntOf, run_underlying hu, sizeOf, typeInfo, hi, Addr.add_lit, h1]
  · cases ht

theorem Q.indexAddrA {t : TypeId} {x y : Operand} {b o m s j : Nat} {e : TypeId} {k : IntKind} {i : Int} (ht : tyArr P t = some (m, e, s)) (hx : ev E x = some (.pointer (some ⟨b, o, none⟩)))
    (hy : ev E y = some (.int k i)) (h0 : i = j) (h1 : j < m) :
    Quiet P W0 gs E L (.indexAddr t x y) (.pointer (some ⟨b, o + j * s, none⟩)) := by
  intro a W dst ty pos after g he _ _
  subst h0
  unfold tyArr at ht
  split at ht
  · rename_i n e' hu
    cases hi : P.info? e' with
    | none => simp [hi] at ht
    | some inf =>
      simp [hi] at ht
      obtain ⟨rfl, rfl, rfl⟩ := ht
      simp [execOp, he x _ hx, he y _ hy, Instr.indexAt, asIntOf, run_underlying hu, sizeOf, typeInfo, hi, Addr.add_lit, h1, Instr.sureAddr]
  · cases ht

/-- 'x[lo:hi]' of a slice that is not nil. -/
theorem run_bound {W : World} {k : IntKind} {i : Int} {y : Nat} {c : BoundsCode} (h0 : 0 ≤ i) (h1 : i ≤ y) : (Instr.sliceBound (.int k i) y c).run P W = .ok i.toNat W := by
  simp [Instr.sliceBound, asIntOf, h0, h1]

def bnd (E : List (Nat × Value)) (x : Option Operand) (d : Nat) : Option Nat :=
  match x with
  | none => some d
  | some x => match ev E x with
    | some (.int _ i) => if 0 ≤ i then some i.toNat else none
    | _ => none

end
end Go.Sx
