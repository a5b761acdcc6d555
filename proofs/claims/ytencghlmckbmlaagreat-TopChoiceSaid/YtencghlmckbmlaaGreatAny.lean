/- Statements whose order is open; equality of structs; slices that a statement makes; copying: as rules of the calculus. Conditions: those of the rules. -/
import Derived.Test.YtencghlmckbmlaaGreatMem
namespace Go.Sx
open Go Go.RowKit

section
variable {P : Program} {W0 : World} {gs : List Nat} {n : Nat} {E E' : List (Nat × Value)} {L L' Ls : List Rs} {K : Act → World → Prop}
  {ops : Array Oper} {Q : Exit → Act → World → Prop} {rest : List Oper} {a : Act} {W : World}

/-- What stays through a statement whose order is open: some of what is owned, and some cells. -/
def Stay (W0 : World) (gs : List Nat) (Ls : List Rs) (Cs : List (Addr × Value)) (W : World) : Prop :=
  (Only gs W0 W ∧ Own W Ls) ∧ ∀ p ∈ Cs, W.cell? p.1 = some p.2

def Cells (L : List Rs) (Cs : List (Addr × Value)) : Prop := ∀ W, Own W L → ∀ p ∈ Cs, W.cell? p.1 = some p.2

theorem Cells.nil : Cells L [] := fun _ _ p hp => by cases hp
theorem Cells.cons {g o : Nat} {C : List Value} {t : TypeId} {v : Value} {Cs : List (Addr × Value)} (hm : Rs.blk g C t ∈ L) (hv : C[o]? = some v) (h : Cells L Cs) : Cells L ((⟨g, o, none⟩, v) :: Cs) := by
  intro W hw p hp
  rcases List.mem_cons.1 hp with rfl | hp
  · exact (own_cell hw hm o).trans hv
  · exact h W hw p hp

def QuietC (P : Program) (W0 : World) (gs : List Nat) (E : List (Nat × Value)) (Ls : List Rs) (Cs : List (Addr × Value)) (op : Op) (v : Value) : Prop :=
  ∀ (a : Act) (W : World) (dst : Option Tmp) (t : TypeId) (pos : String) (after : Array Edge) (g : Option (Nat × Bool)),
    (∀ x u, ev E x = some u → a.eval x = u) → Stay W0 gs Ls Cs W → (execOp a.eval ⟨dst, op, t, pos, after, g⟩).run P W = .ok (.value v) W

theorem Quiet.c {Cs : List (Addr × Value)} {op : Op} {v : Value} (h : Quiet P W0 gs E Ls op v) : QuietC P W0 gs E Ls Cs op v :=
  fun a W dst t pos after g he hs => h a W dst t pos after g he hs.1.1 hs.1.2

theorem QC.load {Cs : List (Addr × Value)} {t : TypeId} {s : Nat} {x : Operand} {p : Addr} {v : Value} (ht : tySz P t = some (false, s)) (hx : ev E x = some (.pointer (some p))) (hc : (p, v) ∈ Cs) :
    QuietC P W0 gs E Ls Cs (.load t x) v := by
  intro a W dst ty pos after g he hs
  have h : Lies P W t p v := lies_one ht (hs.2 _ hc)
  unfold Lies at h
  simp [execOp, he x _ hx, Instr.loadAt, Instr.sureAddr, h]

/-- How a panic of the body is judged does not hang on the slots. -/
def Still (Q : Exit → Act → World → Prop) : Prop := ∀ c (a : Act) w d v, Q (.panic c) (a.put d v) w → Q (.panic c) a w
theorem Still.then {N : Act → World → Prop} (h : Still Q) : Still (Exit.then N Q) := fun c a w d v hq => h c a w d v hq
theorem Still.block {id : Nat} (h : Still Q) : Still (Exit.inBlock id Q) := fun c a w d v hq => h c a w d v hq
theorem Still.body {fn : Func} {R : Ending → World → Prop} : Still (bodyPostS P fn R) := fun c a w d v hq => hq.elim

abbrev Any (P : Program) (ops : Array Oper) (Q : Exit → Act → World → Prop) (S : World → Prop) (f : Nat) (listed : Array Bool) : Act → World → Prop := fun a W => wpAnyH P .any ops Q S f listed a W

theorem VA.start {id : Nat} {Cs : List (Addr × Value)} (hm : P.follows .mixedOrders = true)
    (h : VK W0 gs n (Any P ops Q (Stay W0 gs Ls Cs) ops.size (Array.replicate ops.size false)) E L) : VK W0 gs n ((Code.region id ops true).wp P Q) E L := by
  intro a W s
  exact wp_region_held hm (h a _ ⟨s.defers.move fun _ _ hd => ⟨rfl, hd⟩, s.size, s.env, ⟨s.only.os, s.only.tape, s.only.output, s.only.size, s.only.block⟩, own_stable s.own (fun _ _ => rfl), s.fresh⟩)

theorem stay_of {Cs : List (Addr × Value)} (s : St W0 gs n E L a W) (hs : Ls.Sublist L) (hc : Cells L Cs) : Stay W0 gs Ls Cs W := ⟨⟨s.only, s.own.sub hs⟩, hc W s.own⟩

theorem VA.take (i : Nat) {Cs : List (Addr × Value)} {op : Op} {v : Value} {d : Nat} {t : TypeId} {pos : String} {after : Array Edge} {f : Nat} {listed : Array Bool}
    (hi : ops[i]? = some ⟨some d, op, t, pos, after, none⟩) (hns : Region.noSelect ops = true) (hf : Region.free .any ops listed i = true) (hr : (Region.ready .any ops listed).contains i = true)
    (hS : Still Q) (hs : Ls.Sublist L) (hc : Cells L Cs) (hd : d < n) (hq : QuietC P W0 gs E Ls Cs op v)
    (h : VK W0 gs n (Any P ops Q (Stay W0 gs Ls Cs) f (listed.setIfInBounds i true)) ((d, v) :: E) L) : VK W0 gs n (Any P ops Q (Stay W0 gs Ls Cs) (f + 1) listed) E L := by
  intro a W s
  exact wpAnyH_take hi hns hf hr (fun c a w hq => hS c a w _ _ hq) (.inl ⟨rfl, fun w hw => hq a w _ t pos after none (fun x u hx => s.eval hx) hw⟩) (stay_of s hs hc) (h _ _ (s.put hd v))

theorem yielded_of {j dj : Nat} {u : Value} (s : St W0 gs n E L a W) (hj : (ops[j]?).bind (·.dst) = some dj) (hv : look E dj = some u) : yielded ops a.tmps j = (match u with | .bool b => some b | _ => none) := by
  unfold yielded
  rw [hj]
  simp only [Option.bind_some, s.env _ _ hv]
  cases u <;> rfl

theorem VA.takeY (i : Nat) {Cs : List (Addr × Value)} {op : Op} {v : Value} {d j dj : Nat} {want : Bool} {t : TypeId} {pos : String} {after : Array Edge} {f : Nat} {listed : Array Bool}
    (hi : ops[i]? = some ⟨some d, op, t, pos, after, some (j, want)⟩) (hj : (ops[j]?).bind (·.dst) = some dj) (hv : look E dj = some (.bool want))
    (hns : Region.noSelect ops = true) (hf : Region.free .any ops listed i = true) (hr : (Region.ready .any ops listed).contains i = true)
    (hS : Still Q) (hs : Ls.Sublist L) (hc : Cells L Cs) (hd : d < n) (hq : QuietC P W0 gs E Ls Cs op v)
    (h : VK W0 gs n (Any P ops Q (Stay W0 gs Ls Cs) f (listed.setIfInBounds i true)) ((d, v) :: E) L) : VK W0 gs n (Any P ops Q (Stay W0 gs Ls Cs) (f + 1) listed) E L := by
  intro a W s
  have hy := yielded_of s hj hv
  exact wpAnyH_take hi hns hf hr (fun c a w hq => hS c a w _ _ hq) (.inl ⟨by simp [Region.wanted, hy], fun w hw => hq a w _ t pos after _ (fun x u hx => s.eval hx) hw⟩) (stay_of s hs hc) (h _ _ (s.put hd v))

theorem VA.takeN (i : Nat) {Cs : List (Addr × Value)} {op : Op} {u : Value} {d j dj : Nat} {want : Bool} {t : TypeId} {pos : String} {after : Array Edge} {f : Nat} {listed : Array Bool}
    (hi : ops[i]? = some ⟨some d, op, t, pos, after, some (j, want)⟩) (hj : (ops[j]?).bind (·.dst) = some dj) (hv : look E dj = some u) (hu : u = .bool (!want) ∨ u = undef)
    (hns : Region.noSelect ops = true) (hf : Region.free .any ops listed i = true) (hr : (Region.ready .any ops listed).contains i = true)
    (hS : Still Q) (hs : Ls.Sublist L) (hc : Cells L Cs) (hd : d < n)
    (h : VK W0 gs n (Any P ops Q (Stay W0 gs Ls Cs) f (listed.setIfInBounds i true)) ((d, undef) :: E) L) : VK W0 gs n (Any P ops Q (Stay W0 gs Ls Cs) (f + 1) listed) E L := by
  intro a W s
  have hy := yielded_of s hj hv
  refine wpAnyH_take hi hns hf hr (fun c a w hq => hS c a w _ _ hq) (.inr ⟨?_, rfl⟩) (stay_of s hs hc) (h _ _ (s.put hd undef))
  rcases hu with rfl | rfl
  · cases want <;> simp [Region.wanted, hy]
  · simp [Region.wanted, hy, undef]

/-- One of those that may come up. -/
def VA1 (P : Program) (W0 : World) (gs : List Nat) (n : Nat) (ops : Array Oper) (Q : Exit → Act → World → Prop) (S : World → Prop) (f : Nat) (listed : Array Bool) (E : List (Nat × Value)) (L : List Rs) (i : Nat) : Prop :=
  VK W0 gs n (fun a W => wpOp P ops Q i (fun a' w' => S w' ∧ wpAnyH P .any ops Q S f (listed.setIfInBounds i true) a' w') a W) E L

theorem VA.all {Cs : List (Addr × Value)} {f : Nat} {listed : Array Bool} {rs : List Nat} (hr : Region.ready .any ops listed = rs) (hne : rs ≠ [])
    (h : ∀ i ∈ rs, VA1 P W0 gs n ops Q (Stay W0 gs Ls Cs) f listed E L i) : VK W0 gs n (Any P ops Q (Stay W0 gs Ls Cs) (f + 1) listed) E L :=
  fun a W s => wpAnyH_all hr hne fun i hi => h i hi a W s

theorem VA.eff {Cs : List (Addr × Value)} {i : Nat} {op : Op} {d : Option Tmp} {t : TypeId} {pos : String} {after : Array Edge} {f : Nat} {listed : Array Bool}
    (hi : ops[i]? = some ⟨d, op, t, pos, after, none⟩)
    (h : VO P W0 gs n Q ⟨d, op, t, pos, after, none⟩ (fun a' w' => Stay W0 gs Ls Cs w' ∧ wpAnyH P .any ops Q (Stay W0 gs Ls Cs) f (listed.setIfInBounds i true) a' w') E L) :
    VA1 P W0 gs n ops Q (Stay W0 gs Ls Cs) f listed E L i := by
  intro a W s
  unfold wpOp
  rw [hi]
  exact .inl (h a W s)

theorem VA.effY {Cs : List (Addr × Value)} {i : Nat} {op : Op} {d : Option Tmp} {j dj : Nat} {want : Bool} {t : TypeId} {pos : String} {after : Array Edge} {f : Nat} {listed : Array Bool}
    (hi : ops[i]? = some ⟨d, op, t, pos, after, some (j, want)⟩) (hj : (ops[j]?).bind (·.dst) = some dj) (hv : look E dj = some (.bool want))
    (h : VO P W0 gs n Q ⟨d, op, t, pos, after, some (j, want)⟩ (fun a' w' => Stay W0 gs Ls Cs w' ∧ wpAnyH P .any ops Q (Stay W0 gs Ls Cs) f (listed.setIfInBounds i true) a' w') E L) :
    VA1 P W0 gs n ops Q (Stay W0 gs Ls Cs) f listed E L i := by
  intro a W s
  unfold wpOp
  rw [hi]
  have hy := yielded_of s hj hv
  have hw : Region.wanted ⟨d, op, t, pos, after, some (j, want)⟩ (yielded ops a.tmps) = true := by simp [Region.wanted, hy]
  simp only [hw, if_true]
  exact .inl (h a W s)

theorem VA.next {Cs : List (Addr × Value)} {f : Nat} {listed : Array Bool} (hs : Ls.Sublist L) (hc : Cells L Cs) (h : VK W0 gs n (Any P ops Q (Stay W0 gs Ls Cs) f listed) E L) :
    VK W0 gs n (fun a' w' => Stay W0 gs Ls Cs w' ∧ wpAnyH P .any ops Q (Stay W0 gs Ls Cs) f listed a' w') E L :=
  fun a W s => ⟨stay_of s hs hc, h a W s⟩

theorem VA.done {Cs : List (Addr × Value)} {f : Nat} {listed : Array Bool} (hr : Region.ready .any ops listed = []) (h : VK W0 gs n (fun a W => Q .normal a W) E L) :
    VK W0 gs n (Any P ops Q (Stay W0 gs Ls Cs) f listed) E L := fun a W s => wpAnyH_done hr (h a W s) f

/-! equality of structs and arrays of plain cells -/

def vEq : Value → Value → Bool
  | .bool a, .bool b => a == b
  | .int _ a, .int _ b => a == b
  | .string a, .string b => a == b
  | _, _ => false

def vsEq : List Value → List Value → Bool
  | [], [] => true
  | x :: xs, y :: ys => vEq x y && vsEq xs ys
  | _, _ => false

/-- the kinds of the cells of a plain type -/
inductive Kd where
  | bool | int (k : IntKind) | string
  deriving DecidableEq

def Kd.fits : Kd → Value → Bool
  | .bool, .bool _ => true
  | .int k, .int k' _ => k == k'
  | .string, .string _ => true
  | _, _ => false

def fitsAll : List Kd → List Value → Bool
  | [], [] => true
  | k :: ks, v :: vs => k.fits v && fitsAll ks vs
  | _, _ => false

theorem fits_int {k : IntKind} : ∀ {xs : List Value}, fitsAll [.int k] xs = true → ∃ a, xs = [.int k a]
  | [v], h => by
    cases v <;> simp [fitsAll, Kd.fits] at h
    subst h
    exact ⟨_, rfl⟩
  | [], h => by cases h
  | v :: u :: vs, h => by simp [fitsAll] at h

theorem vsEq_append : ∀ {xs xs' ys ys' : List Value}, xs.length = ys.length → vsEq (xs ++ xs') (ys ++ ys') = (vsEq xs ys && vsEq xs' ys')
  | [], _, [], _, _ => by simp [vsEq]
  | x :: xs, xs', y :: ys, ys', h => by
    have h' : xs.length = ys.length := by simpa using h
    simp [vsEq, vsEq_append h', Bool.and_assoc]
  | [], _, _ :: _, _, h => by simp at h
  | _ :: _, _, [], _, h => by simp at h

theorem fitsAll_length : ∀ {ks : List Kd} {vs : List Value}, fitsAll ks vs = true → vs.length = ks.length
  | [], [], _ => rfl
  | k :: ks, v :: vs, h => by
    simp only [fitsAll, Bool.and_eq_true] at h
    simp [fitsAll_length h.2]
  | [], _ :: _, h => by cases h
  | _ :: _, [], h => by cases h

theorem fitsAll_append : ∀ {ks ks' : List Kd} {vs : List Value}, fitsAll (ks ++ ks') vs = true → fitsAll ks (vs.take ks.length) = true ∧ fitsAll ks' (vs.drop ks.length) = true
  | [], _, vs, h => by simpa [fitsAll] using h
  | k :: ks, ks', v :: vs, h => by
    simp only [List.cons_append, fitsAll, Bool.and_eq_true] at h
    have := fitsAll_append h.2
    simp [fitsAll, h.1, this.1, this.2]
  | k :: ks, ks', [], h => by cases h

def mkV (b : Bool) (xs : List Value) : Value := if b then .agg xs.toArray else xs.headD undef

def chk (P : Program) (t : TypeId) (o : Option (List Kd)) : Option (List Kd) :=
  match o, tySz P t with
  | some ks, some (_, s) => if ks.length = s then some ks else none
  | _, _ => none

def flatFs (F : TypeId → Option (List Kd)) : Nat → List Field → Option (List Kd)
  | _, [] => some []
  | o, f :: fs => if f.name = "_" ∨ f.offset ≠ o then none else
    match F f.type with
    | some ks => (flatFs F (o + ks.length) fs).map (ks ++ ·)
    | none => none

/-- the kinds of the cells of a type, if it is made of bools, integers and strings alone -/
def flat (P : Program) : Nat → TypeId → Option (List Kd)
  | 0, _ => none
  | d + 1, t =>
    match P.underlying t with
    | some .bool => chk P t (some [.bool])
    | some (.int k) => chk P t (some [.int k])
    | some .string => chk P t (some [.string])
    | some (.struct fs) => if P.stoodInHeld t then none else chk P t (flatFs (flat P d) 0 fs.toList)
    | some (.array n e) => chk P t ((flat P d e).map fun ks => (List.replicate n ks).flatten)
    | _ => none

theorem chk_spec {t : TypeId} {o : Option (List Kd)} {ks : List Kd} (h : chk P t o = some ks) : o = some ks ∧ ∃ b, tySz P t = some (b, ks.length) := by
  unfold chk at h
  split at h
  · rename_i ks' b s ht
    split at h
    · rename_i hl
      simp only [Option.some.injEq] at h
      subst h
      exact ⟨rfl, b, by rw [hl]; exact ht⟩
    · cases h
  · cases h

theorem run_part' {e : TypeId} {b : Bool} {m off : Nat} {cs : List Value} (ht : tySz P e = some (b, m)) (hm : off + m ≤ cs.length) (h1 : b = false → m = 1) (W : World) :
    (part e cs.toArray off).run P W = .ok (mkV b ((cs.drop off).take m)) W := by
  unfold part
  cases b with
  | true =>
    simp only [Sem.run_bind, run_isAgg ht, run_sizeOf' ht, Result.andThen_ok, if_true, Sem.run_pure, mkV]
    have e : cs.toArray.extract off (off + m) = ((cs.drop off).take m).toArray := by
      rw [List.extract_toArray, List.extract_eq_take_drop]
      simp
    rw [e]
  | false =>
    have := h1 rfl
    subst this
    have hlt : off < cs.length := by omega
    have hc : cs.toArray[off]? = some cs[off] := by simp [hlt]
    have hd : (cs.drop off).take 1 = [cs[off]] := by
      rw [List.drop_eq_getElem_cons hlt]
      rfl
    simp only [Sem.run_bind, run_isAgg ht, Result.andThen_ok, Bool.false_eq_true, if_false, hc, Sem.run_pure, mkV, hd, List.headD]


theorem flatFs_spec {F : TypeId → Option (List Kd)} {dd : Nat}
    (ih : ∀ t ks, F t = some ks → ∃ b, tySz P t = some (b, ks.length) ∧ (b = false → ks.length = 1) ∧ ∀ (W : World) (xs ys : List Value), fitsAll ks xs = true → fitsAll ks ys = true → (Op.equalIn dd t (mkV b xs) (mkV b ys)).run P W = .ok (vsEq xs ys) W) :
    ∀ (fs : List Field) (o : Nat) (ks : List Kd), flatFs F o fs = some ks → ∀ (W : World) (xs ys : List Value), o ≤ xs.length → o ≤ ys.length → fitsAll ks (xs.drop o) = true → fitsAll ks (ys.drop o) = true →
      (Op.eqFields dd xs.toArray ys.toArray fs).run P W = .ok (vsEq (xs.drop o) (ys.drop o)) W
  | [], o, ks, h, W, xs, ys, hx, hy, fx, fy => by
    simp only [flatFs, Option.some.injEq] at h
    subst h
    have h1 := fitsAll_length fx
    have h2 := fitsAll_length fy
    have e1 : xs.drop o = [] := List.eq_nil_of_length_eq_zero h1
    have e2 : ys.drop o = [] := List.eq_nil_of_length_eq_zero h2
    simp [Op.eqFields, e1, e2, vsEq]
  | f :: fs, o, ks, h, W, xs, ys, hx, hy, fx, fy => by
    simp only [flatFs] at h
    split at h
    · cases h
    · rename_i hno
      have hn : f.name ≠ "_" := fun e => hno (.inl e)
      have ho : f.offset = o := Classical.byContradiction fun e => hno (.inr e)
      cases hF : F f.type with
      | none => simp [hF] at h
      | some k1 =>
        cases hr : flatFs F (o + k1.length) fs with
        | none => simp [hF, hr] at h
        | some k2 =>
          have hk : k1 ++ k2 = ks := by simpa [hF, hr] using h
          subst hk
          obtain ⟨b, hb, h1, heq⟩ := ih _ _ hF
          have lx := fitsAll_length fx
          have ly := fitsAll_length fy
          simp only [List.length_drop, List.length_append] at lx ly
          obtain ⟨fx1, fx2⟩ := fitsAll_append fx
          obtain ⟨fy1, fy2⟩ := fitsAll_append fy
          rw [List.drop_drop] at fx2 fy2
          have hrec := flatFs_spec ih fs (o + k1.length) k2 hr W xs ys (by omega) (by omega) fx2 fy2
          have px := run_part' (P := P) (cs := xs) (off := f.offset) hb (by omega) h1 W
          have py := run_part' (P := P) (cs := ys) (off := f.offset) hb (by omega) h1 W
          rw [ho] at px py
          have hv : vsEq (xs.drop o) (ys.drop o) = (vsEq ((xs.drop o).take k1.length) ((ys.drop o).take k1.length) && vsEq (xs.drop (o + k1.length)) (ys.drop (o + k1.length))) := by
            rw [← List.drop_drop, ← List.drop_drop, ← vsEq_append (by simp; omega), List.take_append_drop, List.take_append_drop]
          simp only [Op.eqFields, hn, ne_eq, not_false_eq_true, if_true, ho, Sem.run_bind, px, py, Result.andThen_ok, heq W _ _ fx1 fy1, hv]
          cases vsEq ((xs.drop o).take k1.length) ((ys.drop o).take k1.length)
          · simp
          · simpa using hrec

theorem flatArr_spec {e : TypeId} {dd : Nat} {b : Bool} {k1 : List Kd} (hb : tySz P e = some (b, k1.length)) (h1 : b = false → k1.length = 1)
    (heq : ∀ (W : World) (xs ys : List Value), fitsAll k1 xs = true → fitsAll k1 ys = true → (Op.equalIn dd e (mkV b xs) (mkV b ys)).run P W = .ok (vsEq xs ys) W) :
    ∀ (m i : Nat) (W : World) (xs ys : List Value), i * k1.length ≤ xs.length → i * k1.length ≤ ys.length → fitsAll (List.replicate m k1).flatten (xs.drop (i * k1.length)) = true →
      fitsAll (List.replicate m k1).flatten (ys.drop (i * k1.length)) = true →
      (Op.eqItems dd e k1.length xs.toArray ys.toArray (List.range' i m)).run P W = .ok (vsEq (xs.drop (i * k1.length)) (ys.drop (i * k1.length))) W
  | 0, i, W, xs, ys, hx, hy, fx, fy => by
    have e1 : xs.drop (i * k1.length) = [] := List.eq_nil_of_length_eq_zero (fitsAll_length fx)
    have e2 : ys.drop (i * k1.length) = [] := List.eq_nil_of_length_eq_zero (fitsAll_length fy)
    simp [Op.eqItems, e1, e2, vsEq]
  | m + 1, i, W, xs, ys, hx, hy, fx, fy => by
    simp only [List.replicate_succ, List.flatten_cons] at fx fy
    have lx := fitsAll_length fx
    have ly := fitsAll_length fy
    simp only [List.length_drop, List.length_append] at lx ly
    obtain ⟨fx1, fx2⟩ := fitsAll_append fx
    obtain ⟨fy1, fy2⟩ := fitsAll_append fy
    rw [List.drop_drop] at fx2 fy2
    have hi : i * k1.length + k1.length = (i + 1) * k1.length := by rw [Nat.add_mul, Nat.one_mul]
    rw [hi] at fx2 fy2
    have hrec := flatArr_spec hb h1 heq m (i + 1) W xs ys (by omega) (by omega) fx2 fy2
    have px := run_part' (P := P) (cs := xs) (off := i * k1.length) hb (by omega) h1 W
    have py := run_part' (P := P) (cs := ys) (off := i * k1.length) hb (by omega) h1 W
    have hv : vsEq (xs.drop (i * k1.length)) (ys.drop (i * k1.length)) = (vsEq ((xs.drop (i * k1.length)).take k1.length) ((ys.drop (i * k1.length)).take k1.length) && vsEq (xs.drop ((i + 1) * k1.length)) (ys.drop ((i + 1) * k1.length))) := by
      rw [← hi, ← List.drop_drop, ← List.drop_drop, ← vsEq_append (by simp; omega), List.take_append_drop, List.take_append_drop]
    rw [List.range'_succ]
    simp only [Op.eqItems, Sem.run_bind, px, py, Result.andThen_ok, heq W _ _ fx1 fy1, hv]
    cases vsEq ((xs.drop (i * k1.length)).take k1.length) ((ys.drop (i * k1.length)).take k1.length)
    · simp
    · simpa using hrec

theorem flat_spec : ∀ (d : Nat) (t : TypeId) (ks : List Kd), flat P d t = some ks → ∀ D, ∃ b, tySz P t = some (b, ks.length) ∧ (b = false → ks.length = 1) ∧
    ∀ (W : World) (xs ys : List Value), fitsAll ks xs = true → fitsAll ks ys = true → (Op.equalIn (D + d) t (mkV b xs) (mkV b ys)).run P W = .ok (vsEq xs ys) W
  | 0, _, _, h, _ => by cases h
  | d + 1, t, ks, h, D => by
    unfold flat at h
    have scalar : ∀ {dsc : TypeDesc} {k : Kd} {s : Bool}, P.underlying t = some dsc → isAggD dsc = false → chk P t (some [k]) = some ks → tySz P t = some (false, ks.length) ∧ ks = [k] := by
      intro dsc k s hu ha hc
      obtain ⟨h1, b, h2⟩ := chk_spec hc
      simp only [Option.some.injEq] at h1
      subst h1
      obtain ⟨d', i, hd, hi, hb, hs⟩ := tySz_spec h2
      rw [hu] at hd
      simp only [Option.some.injEq] at hd
      subst hd
      rw [ha] at hb
      subst hb
      exact ⟨h2, rfl⟩
    split at h
    · rename_i hu
      obtain ⟨h2, rfl⟩ := scalar (s := true) hu rfl h
      refine ⟨false, h2, fun _ => rfl, fun W xs ys fx fy => ?_⟩
      match xs, ys, fx, fy with
      | [.bool a], [.bool b], _, _ => simpa [mkV, vsEq, vEq, ← Nat.add_assoc] using run_equalIn_bool' W (D + d) t a b hu
    · rename_i k hu
      obtain ⟨h2, rfl⟩ := scalar (s := true) hu rfl h
      refine ⟨false, h2, fun _ => rfl, fun W xs ys fx fy => ?_⟩
      obtain ⟨a, rfl⟩ := fits_int fx
      obtain ⟨b, rfl⟩ := fits_int fy
      simpa [mkV, vsEq, vEq, ← Nat.add_assoc] using run_equalIn_int W (D + d) t k k a b hu
    · rename_i hu
      obtain ⟨h2, rfl⟩ := scalar (s := true) hu rfl h
      refine ⟨false, h2, fun _ => rfl, fun W xs ys fx fy => ?_⟩
      match xs, ys, fx, fy with
      | [.string a], [.string b], _, _ =>
        have := run_equalIn_string W (D + d) t a b hu
        rw [← beq_toListBytes] at this
        simpa [mkV, vsEq, vEq, ← Nat.add_assoc] using this
    · rename_i fs hu
      split at h
      · cases h
      · rename_i hst
        obtain ⟨h1, b, h2⟩ := chk_spec h
        obtain ⟨d', i, hd, hi, hb, hs⟩ := tySz_spec h2
        rw [hu] at hd
        simp only [Option.some.injEq] at hd
        subst hd
        subst hb
        refine ⟨true, h2, (fun h => by cases h), fun W xs ys fx fy => ?_⟩
        have hfo : P.fieldsOf t = fs := by simp [Program.fieldsOf, hu]
        have hu' : P.underlying t = some (.struct (P.fieldsOf t)) := by rw [hfo]; exact hu
        have := flatFs_spec (P := P) (F := flat P d) (dd := D + d) (fun t ks h => flat_spec d t ks h D) fs.toList 0 ks h1 W xs ys (Nat.zero_le _) (Nat.zero_le _) (by simpa using fx) (by simpa using fy)
        rw [show mkV true xs = .agg xs.toArray from rfl, show mkV true ys = .agg ys.toArray from rfl, ← Nat.add_assoc, run_equalIn_agg W (D + d) t _ _ hu' (by simpa using hst), hfo, this]
        simp
    · rename_i m e hu
      obtain ⟨h1, b, h2⟩ := chk_spec h
      obtain ⟨d', i, hd, hi, hb, hs⟩ := tySz_spec h2
      rw [hu] at hd
      simp only [Option.some.injEq] at hd
      subst hd
      subst hb
      cases he : flat P d e with
      | none => simp [he] at h1
      | some k1 =>
        have hk : (List.replicate m k1).flatten = ks := by simpa [he] using h1
        subst hk
        obtain ⟨b, hbe, h1e, heq⟩ := flat_spec d e k1 he D
        refine ⟨true, h2, (fun h => by cases h), fun W xs ys fx fy => ?_⟩
        obtain ⟨de, ie, hde, hie, hbe', hse⟩ := tySz_spec hbe
        have hc : P.cellsOf e = k1.length := by simp [Program.cellsOf, hie, hse]
        have := flatArr_spec hbe h1e heq m 0 W xs ys (by simp) (by simp) (by simpa using fx) (by simpa using fy)
        rw [show mkV true xs = .agg xs.toArray from rfl, show mkV true ys = .agg ys.toArray from rfl, ← Nat.add_assoc, run_equalIn_array W (D + d) _ _ hu hie, hc, List.range_eq_range', this]
        simp
    · cases h

theorem flat_run {t : TypeId} {ks : List Kd} {d : Nat} (hd : d ≤ 9999) (hf : flat P d t = some ks) (ha : tySz P t = some (true, ks.length)) {xs ys : List Value} (fx : fitsAll ks xs = true) (fy : fitsAll ks ys = true) (W : World) :
    (Op.equalIn 10000 t (.agg xs.toArray) (.agg ys.toArray)).run P W = .ok (vsEq xs ys) W := by
  obtain ⟨b, hb, _, h⟩ := flat_spec d t ks hf (10000 - d)
  rw [ha] at hb
  simp only [Option.some.injEq, Prod.mk.injEq] at hb
  obtain ⟨rfl, _⟩ := hb
  have := h W xs ys fx fy
  rwa [show 10000 - d + d = 10000 by omega] at this

theorem Q.eqS {t t' : TypeId} {x y : Operand} {ks : List Kd} {d : Nat} {xs ys : List Value} (hf : flat P d t = some ks) (hd : d ≤ 9999) (ha : tySz P t = some (true, ks.length)) (hg : P.eqGuardType P.depth t = false)
    (hx : ev E x = some (.agg xs.toArray)) (hy : ev E y = some (.agg ys.toArray)) (fx : fitsAll ks xs = true) (fy : fitsAll ks ys = true) : Quiet P W0 gs E L (.binOp .eql t x y t') (.bool (vsEq xs ys)) :=
  Q.bin hx hy (fun W => run_eqGuard_agg W _ t x y _ _ hg) fun W => by rw [run_eql_struct, flat_run hd hf ha fx fy]; rfl
theorem Q.neS {t t' : TypeId} {x y : Operand} {ks : List Kd} {d : Nat} {xs ys : List Value} (hf : flat P d t = some ks) (hd : d ≤ 9999) (ha : tySz P t = some (true, ks.length)) (hg : P.eqGuardType P.depth t = false)
    (hx : ev E x = some (.agg xs.toArray)) (hy : ev E y = some (.agg ys.toArray)) (fx : fitsAll ks xs = true) (fy : fitsAll ks ys = true) : Quiet P W0 gs E L (.binOp .neq t x y t') (.bool (!(vsEq xs ys))) :=
  Q.bin hx hy (fun W => run_eqGuard_agg W _ t x y _ _ hg) fun W => by rw [run_neq_struct, flat_run hd hf ha fx fy]; rfl

end
end Go.Sx
