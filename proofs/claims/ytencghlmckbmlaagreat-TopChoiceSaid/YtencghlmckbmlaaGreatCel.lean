/- Rows of records as lists of cells; further rules: comparing with nil, library functions without a body, an append of zeros, clearing. Conditions: those of the rules. -/
import Derived.Test.YtencghlmckbmlaaGreatRange
import Derived.Lib.Overlaps
import Derived.Lib.AppendZerosOnto
import Derived.Lib.Bytealg
import Derived.Laws.Cover3
import Derived.Laws.BytesString
namespace Go.Sx
open Go Go.RowKit

/-! rows of records -/
section
variable {α : Type} {f : α → List Value} {s : Nat}
theorem fm_length (hf : ∀ x, (f x).length = s) : ∀ l : List α, (l.flatMap f).length = l.length * s
  | [] => by simp
  | x :: l => by rw [List.flatMap_cons, List.length_append, hf, fm_length hf l, List.length_cons, Nat.succ_mul]; omega
theorem fm_split (l : List α) (k : Nat) (h : k < l.length) : l.flatMap f = (l.take k).flatMap f ++ (f l[k] ++ (l.drop (k + 1)).flatMap f) := by
  have e : l = l.take k ++ l[k] :: l.drop (k + 1) := by rw [List.getElem_cons_drop, List.take_append_drop]
  conv => lhs; rw [e]
  rw [List.flatMap_append, List.flatMap_cons]
theorem fm_take_len (hf : ∀ x, (f x).length = s) (l : List α) (k : Nat) (h : k ≤ l.length) : ((l.take k).flatMap f).length = k * s := by
  rw [fm_length hf, List.length_take, Nat.min_eq_left h]
theorem seg_mid {A B C : List Value} : Seg (A ++ (B ++ C)) A.length B.length B := by
  induction A with
  | nil =>
    induction B with
    | nil => exact .nil
    | cons b B ih => exact .here ih
  | cons a A ih => exact .skip ih
theorem fm_seg (hf : ∀ x, (f x).length = s) (l : List α) (k : Nat) (h : k < l.length) : Seg (l.flatMap f) (k * s) s (f l[k]) := by
  rw [fm_split l k h, ← fm_take_len hf l k (Nat.le_of_lt h)]
  have := seg_mid (A := (l.take k).flatMap f) (B := f l[k]) (C := (l.drop (k + 1)).flatMap f)
  rwa [hf] at this
theorem Seg.of : ∀ (C : List Value) (q : Nat) (A : List Value), C ≠ [] → (∀ m u, C[m]? = some u → A[q + m]? = some u) → Seg A q C.length C
  | [], _, _, h, _ => absurd rfl h
  | c :: C, 0, [], _, hA => by have := hA 0 c rfl; simp at this
  | [c], 0, a :: A, _, hA => by
    have h0 := hA 0 c rfl
    simp at h0
    subst h0
    exact .here .nil
  | c :: d :: C, 0, a :: A, _, hA => by
    have h0 := hA 0 c rfl
    simp at h0
    subst h0
    refine .here (Seg.of (d :: C) 0 A (by simp) fun m u hm => ?_)
    have := hA (m + 1) u (by simpa using hm)
    simpa using this
  | c :: C, q + 1, [], _, hA => by have := hA 0 c rfl; simp at this
  | c :: C, q + 1, a :: A, h, hA => by
    refine .skip (Seg.of (c :: C) q A h fun m u hm => ?_)
    have := hA m u hm
    rw [show q + 1 + m = (q + m) + 1 by omega] at this
    simpa using this
theorem Seg.trans {A B C : List Value} {i j s k : Nat} (h : Seg A i s B) (h2 : Seg B j k C) (hk : 0 < k) : Seg A (i + j) k C := by
  obtain ⟨_, f1⟩ := h.spec
  obtain ⟨e2, f2⟩ := h2.spec
  rw [← e2]
  refine Seg.of C (i + j) A (fun e => by subst e; simp at e2; omega) fun m u hm => ?_
  have h4 := f1 (j + m) u (f2 m u hm)
  rwa [← Nat.add_assoc] at h4
theorem fm_sub (hf : ∀ x, (f x).length = s) (l : List α) (k : Nat) (h : k < l.length) {o q : Nat} {ys : List Value} (hs : Seg (f l[k]) o q ys) (hq : 0 < q := by decide) : Seg (l.flatMap f) (k * s + o) q ys := (fm_seg hf l k h).trans hs hq
theorem fm_get (hf : ∀ x, (f x).length = s) (l : List α) (k : Nat) (h : k < l.length) (j : Nat) (v : Value) (hj : (f l[k])[j]? = some v) : (l.flatMap f)[k * s + j]? = some v :=
  (fm_seg hf l k h).spec.2 j v hj
theorem Put.front {D xs : List Value} : xs.length ≤ D.length → Put D 0 xs (xs ++ D.drop xs.length) := by
  induction xs generalizing D with
  | nil => intro _; simpa using Put.nil
  | cons x xs ih =>
    intro h
    cases D with
    | nil => simp at h
    | cons d D =>
      simp only [List.length_cons, List.cons_append, List.drop_succ_cons] at h ⊢
      exact .here (ih (by omega))
theorem put_mid {A C C' ys : List Value} {o : Nat} (h : Put C o ys C') : Put (A ++ C) (A.length + o) ys (A ++ C') := by
  induction A with
  | nil => simpa using h
  | cons a A ih =>
    have e : (a :: A).length + o = (A.length + o) + 1 := by simp; omega
    rw [e]
    exact .skip ih
theorem Put.appR {C C' xs : List Value} {o : Nat} (h : Put C o xs C') (D : List Value) : Put (C ++ D) o xs (C' ++ D) := h.app
theorem put_over {A B ys : List Value} (h : A.length = ys.length) : Put (A ++ B) 0 ys (ys ++ B) := by
  have := Put.front (D := A ++ B) (xs := ys) (by rw [List.length_append]; omega)
  rwa [← h, List.drop_left] at this
theorem fm_put (hf : ∀ x, (f x).length = s) (l : List α) (k : Nat) (h : k < l.length) (y : α) : Put (l.flatMap f) (k * s) (f y) ((l.set k y).flatMap f) := by
  have e1 := fm_split (f := f) l k h
  have hk : k < (l.set k y).length := by simpa using h
  have e2 := fm_split (f := f) (l.set k y) k hk
  have e3 : (l.set k y).take k = l.take k := by rw [List.take_set_of_le (Nat.le_refl _)]
  have e4 : (l.set k y).drop (k + 1) = l.drop (k + 1) := by rw [List.drop_set_of_lt (by omega)]
  have e5 : (l.set k y)[k] = y := by simp
  rw [e3, e4, e5] at e2
  rw [e1, e2]
  have := put_mid (A := (l.take k).flatMap f) (put_over (A := f l[k]) (B := (l.drop (k + 1)).flatMap f) (ys := f y) (by rw [hf, hf]))
  rwa [Nat.add_zero, fm_take_len hf l k (Nat.le_of_lt h)] at this
theorem fm_putsub (hf : ∀ x, (f x).length = s) (l : List α) (k : Nat) (h : k < l.length) (y : α) {o : Nat} {ys : List Value} (hp : Put (f l[k]) o ys (f y)) : Put (l.flatMap f) (k * s + o) ys ((l.set k y).flatMap f) := by
  have e1 := fm_split (f := f) l k h
  have hk : k < (l.set k y).length := by simpa using h
  have e2 := fm_split (f := f) (l.set k y) k hk
  have e3 : (l.set k y).take k = l.take k := by rw [List.take_set_of_le (Nat.le_refl _)]
  have e4 : (l.set k y).drop (k + 1) = l.drop (k + 1) := by rw [List.drop_set_of_lt (by omega)]
  have e5 : (l.set k y)[k] = y := by simp
  rw [e3, e4, e5] at e2
  rw [e1, e2]
  have := put_mid (A := (l.take k).flatMap f) (Put.appR hp ((l.drop (k + 1)).flatMap f))
  rwa [fm_take_len hf l k (Nat.le_of_lt h)] at this
theorem fm_snoc (l : List α) (x : α) : (l ++ [x]).flatMap f = l.flatMap f ++ f x := by simp
theorem fm_one (hf : ∀ x, (f x).all one = true) : ∀ l : List α, (l.flatMap f).all one = true
  | [] => rfl
  | x :: l => by rw [List.flatMap_cons, List.all_append, hf, fm_one hf l]; rfl
end

section
variable {P : Program} {W0 : World} {gs : List Nat} {n : Nat} {E E' : List (Nat × Value)} {L L' : List Rs} {K : Act → World → Prop}
  {ops : Array Oper} {Q : Exit → Act → World → Prop} {rest : List Oper} {a : Act} {W : World}

theorem Rd.sg {b o i k : Nat} {xs ys : List Value} (h : Rd W (some ⟨b, o, none⟩) xs) (hs : Seg xs i k ys) (j : Nat) (u : Value) (hj : ys[j]? = some u) : W.cell? ⟨b, o + i + j, none⟩ = some u := by
  have := Rd.at h (hs.spec.2 j u hj)
  rwa [← Nat.add_assoc] at this
theorem Rd.sg2 {b o i m k : Nat} {xs ys : List Value} (h : Rd W (some ⟨b, o, none⟩) xs) (hs : Seg xs (i + m) k ys) (j : Nat) (u : Value) (hj : ys[j]? = some u) : W.cell? ⟨b, o + i + m + j, none⟩ = some u := by
  have := Rd.sg h hs j u hj
  rwa [← Nat.add_assoc] at this
theorem Rd.cell {b o i m : Nat} {xs : List Value} {v : Value} (h : Rd W (some ⟨b, o, none⟩) xs) (hv : xs[i + m]? = some v) : W.cell? ⟨b, o + i + m, none⟩ = some v := by
  have := Rd.at h hv
  rwa [← Nat.add_assoc] at this
theorem Rd.pos {p : Option Addr} {xs : List Value} (h : Rd W p xs) (h0 : 0 < xs.length) : ∃ b o, p = some ⟨b, o, none⟩ := by
  obtain ⟨b, o, hp, _⟩ := h 0 _ (List.getElem?_eq_getElem h0)
  exact ⟨b, o, hp⟩

theorem Rd.ofSeg {b o i k : Nat} {xs ys : List Value} (h : Rd W (some ⟨b, o, none⟩) xs) (hs : Seg xs i k ys) : Rd W (some ⟨b, o + i, none⟩) ys := fun j u hj => ⟨b, o + i, rfl, Rd.sg h hs j u hj⟩
/-- What is owned is handed in, or new. -/
theorem VK.freshR {r : Rs} (hm : r ∈ L) (h : (∀ k ∈ r.ids, k ∈ gs ∨ W0.heap.size ≤ k) → VK W0 gs n K E L) : VK W0 gs n K E L := fun a W st =>
  h (fun k hk => st.fresh k (List.mem_flatMap.2 ⟨r, hm, hk⟩)) a W st
theorem Rd.lt {b o : Nat} {xs : List Value} (h : Rd W (some ⟨b, o, none⟩) xs) (h0 : 0 < xs.length) : b < W.heap.size := by
  have := Rd.at (j := 0) h (List.getElem?_eq_getElem h0)
  unfold World.cell? at this
  by_cases hb : b < W.heap.size
  · exact hb
  · rw [Array.getElem?_eq_none (by show W.heap.size ≤ b; omega)] at this
    cases this
theorem VK.picks {Lin L2 : List Rs} (h : Picks L Lin L2) (k : VK W0 gs n K E Lin) : VK W0 gs n K E L := VK.perm h.perm (VK.sub (List.sublist_append_left _ _) k)
theorem zR : ∀ {R : List Rs}, Picks R R []
  | [] => .nil
  | _ :: _ => .cons .here zR

theorem VA.tk (i : Nat) {Ls : List Rs} {Cs : List (Addr × Value)} {op : Op} {v : Value} {d : Nat} {t : TypeId} {pos : String} {after : Array Edge} {f : Nat} {listed : Array Bool}
    (hi : ops[i]? = some ⟨some d, op, t, pos, after, none⟩) (hS : Still Q) (hs : Ls.Sublist L) (hc : Cells L Cs) (hq : QuietC P W0 gs E Ls Cs op v)
    (h : VK W0 gs n (Any P ops Q (Stay W0 gs Ls Cs) f (listed.setIfInBounds i true)) ((d, v) :: E) L) (hns : Region.noSelect ops = true := by kernel_rfl) (hf : Region.free .any ops listed i = true := by kernel_rfl) (hr : (Region.ready .any ops listed).contains i = true := by kernel_rfl) (hd : d < n := by decide) :
    VK W0 gs n (Any P ops Q (Stay W0 gs Ls Cs) (f + 1) listed) E L := VA.take i hi hns hf hr hS hs hc hd hq h
theorem VA.tkY (i : Nat) {Ls : List Rs} {Cs : List (Addr × Value)} {op : Op} {v : Value} {d j dj : Nat} {want : Bool} {t : TypeId} {pos : String} {after : Array Edge} {f : Nat} {listed : Array Bool}
    (hi : ops[i]? = some ⟨some d, op, t, pos, after, some (j, want)⟩) (hS : Still Q) (hs : Ls.Sublist L) (hc : Cells L Cs) (hq : QuietC P W0 gs E Ls Cs op v)
    (h : VK W0 gs n (Any P ops Q (Stay W0 gs Ls Cs) f (listed.setIfInBounds i true)) ((d, v) :: E) L) (hj : (ops[j]?).bind (·.dst) = some dj := by rfl) (hv : look E dj = some (.bool want) := by rfl)
    (hns : Region.noSelect ops = true := by kernel_rfl) (hf : Region.free .any ops listed i = true := by kernel_rfl) (hr : (Region.ready .any ops listed).contains i = true := by kernel_rfl) (hd : d < n := by decide) :
    VK W0 gs n (Any P ops Q (Stay W0 gs Ls Cs) (f + 1) listed) E L := VA.takeY i hi hj hv hns hf hr hS hs hc hd hq h
theorem VA.tkN (i : Nat) {Ls : List Rs} {Cs : List (Addr × Value)} {op : Op} {u : Value} {d j dj : Nat} {want : Bool} {t : TypeId} {pos : String} {after : Array Edge} {f : Nat} {listed : Array Bool}
    (hu : u = .bool (!want) ∨ u = undef) (hS : Still Q) (hs : Ls.Sublist L) (hc : Cells L Cs)
    (h : VK W0 gs n (Any P ops Q (Stay W0 gs Ls Cs) f (listed.setIfInBounds i true)) ((d, undef) :: E) L) (hi : ops[i]? = some ⟨some d, op, t, pos, after, some (j, want)⟩ := by rfl) (hj : (ops[j]?).bind (·.dst) = some dj := by rfl) (hv : look E dj = some u := by rfl)
    (hns : Region.noSelect ops = true := by kernel_rfl) (hf : Region.free .any ops listed i = true := by kernel_rfl) (hr : (Region.ready .any ops listed).contains i = true := by kernel_rfl) (hd : d < n := by decide) :
    VK W0 gs n (Any P ops Q (Stay W0 gs Ls Cs) (f + 1) listed) E L := VA.takeN i hi hj hv hu hns hf hr hS hs hc hd h
theorem Quiet.to {op : Op} {v v' : Value} (h : Quiet P W0 gs E L op v) (e : v = v') : Quiet P W0 gs E L op v' := e ▸ h
/-- Compared with nil. -/
theorem Q.eqNil {t t' : TypeId} {x y : Operand} {p : Option Addr} {m c : Nat} {b : Bool} {e : TypeId × Nat × Nat} (ht : tySlice P t = some e) (hx : ev E x = some (.slice p m c)) (hy : ev E y = some (.slice none 0 0)) (hb : p.isNone = b) :
    Quiet P W0 gs E L (.binOp .eql t x y t') (.bool b) := by
  obtain ⟨e', s', b'⟩ := e
  obtain ⟨i, hu, _⟩ := tySlice_spec ht
  subst hb
  exact Q.bin hx hy (fun _ => by rw [eqGuard_at_slice]; rfl) fun W => by simp [binOp, run_equal_slice_nil W t e' p m c hu]

/-- A call of a function for which the model stands in. -/
theorem Q.ext {f : Operand} {xs : List Operand} {tys : Array TypeId} {k : FuncId} {vs : List Value} {v : Value} (hf : ev E f = some (.func (.func k) #[] #[])) (hxs : evs E xs = some vs)
    (h : ∀ W, Only gs W0 W → Own W L → (callFunc k vs.toArray).run P W = .ok (.value v) W) : Quiet P W0 gs E L (.call ⟨.value f, xs.toArray, tys⟩) v := by
  intro a W dst ty pos after g he ho hw
  have key : ∀ (xs : List Operand) (vs : List Value), evs E xs = some vs → xs.map a.eval = vs := by
    intro xs
    induction xs with
    | nil => intro vs h; simpa [evs] using h
    | cons x xs ih =>
      intro vs h
      simp only [evs] at h
      split at h
      · rename_i v us hv hu
        simp only [Option.some.injEq] at h
        simp [he x v hv, ih us hu, h]
      · cases h
  simp [execOp, resolve, he f _ hf, Deferred.ofValue, invoke, key xs vs hxs, h W ho hw]

theorem run_loadBytes : ∀ (l : List UInt8) (b o : Nat) (acc : ByteArray), Rd W (some ⟨b, o, none⟩) (bs l) → (Extern.Bytes.loadBytes ⟨b, o, none⟩ l.length acc).run P W = .ok ⟨(acc.data.toList ++ l).toArray⟩ W
  | [], b, o, acc, _ => by
    simp [Extern.Bytes.loadBytes]
  | c :: l, b, o, acc, h => by
    have h0 : W.cell? ⟨b, o, none⟩ = some (.int .u8 (c.toNat : Int)) := by
      have := Rd.at (j := 0) (v := .int .u8 (c.toNat : Int)) h rfl
      simpa using this
    have h1 : Rd W (some ⟨b, o + 1, none⟩) (bs l) := by
      have := Rd.drop h 1
      simpa [bs] using this
    have ih := run_loadBytes l b (o + 1) (acc.push c) h1
    rw [List.length_cons, Extern.Bytes.loadBytes]
    have e2 : (load (⟨b, o, none⟩ : Addr)).run P W = .ok (.int .u8 (c.toNat : Int)) W := by rw [run_load, h0]
    have e3 : ((c.toNat : Int)).toNat.toUInt8 = c := by simp
    simp only [Sem.run_bind, e2, Result.andThen_ok, e3]
    rw [show (⟨b, o, none⟩ : Addr).add 1 = ⟨b, o + 1, none⟩ from rfl, ih]
    congr 2
    simp [ByteArray.push]
/-- Two strings of bytes are compared. -/
theorem run_compare (l l' : List UInt8) (b o b' o' c c' : Nat) (h : Rd W (some ⟨b, o, none⟩) (bs l)) (h' : Rd W (some ⟨b', o', none⟩) (bs l')) :
    (Extern.BytealgCompare.compare #[.slice (some ⟨b, o, none⟩) l.length c, .slice (some ⟨b', o', none⟩) l'.length c']).run P W = .ok (.int .i64 (Lib.compareBytes l l')) W := by
  change Sem.run P (do pure (goInt (Extern.BytealgCompare.cmp (← Extern.Bytes.bytesOf (.slice (some ⟨b, o, none⟩) l.length c)) (← Extern.Bytes.bytesOf (.slice (some ⟨b', o', none⟩) l'.length c'))))) W = _
  simp only [Extern.Bytes.bytesOf, Sem.run_bind, Sem.run_pure, run_loadBytes l b o .empty h, run_loadBytes l' b' o' .empty h', Result.andThen_ok]
  rw [Lib.cmp_eq]
  rfl
def nodeC (i : Nat) : List Value := [.int .u8 2, .int .u8 0, .int .u8 0, .int .u8 0, .int .u8 1, .int .u8 (i : Int)]
def cmpN (a b : Nat) : Int := if a < b then -1 else if b < a then 1 else 0
def nodeB (i : Nat) : List UInt8 := [2, 0, 0, 0, 1, UInt8.ofNat i]
theorem nodeB_bs (i : Nat) (h : i ≤ 255) : bs (nodeB i) = nodeC i := by
  simp [bs, nodeB, nodeC]
  omega
theorem compare_node (a b : Nat) (ha : a ≤ 255) (hb : b ≤ 255) : Lib.compareBytes (nodeB a) (nodeB b) = cmpN a b := by
  have h1 : (UInt8.ofNat a < UInt8.ofNat b) ↔ a < b := by
    rw [UInt8.lt_iff_toNat_lt]
    simp
    omega
  have h2 : (UInt8.ofNat b < UInt8.ofNat a) ↔ b < a := by
    rw [UInt8.lt_iff_toNat_lt]
    simp
    omega
  have hs : ∀ (x : UInt8) (l l' : List UInt8), Lib.compareBytes (x :: l) (x :: l') = Lib.compareBytes l l' := fun x l l' => by
    rw [Lib.compareBytes]
    simp
  unfold nodeB
  rw [hs, hs, hs, hs, hs, Lib.compareBytes, Lib.compareBytes]
  simp only [h1, h2]
  unfold cmpN
  rfl

/-- 'x[l:]', nil or not. -/
theorem Q.slcP {t e : TypeId} {x : Operand} {lo hi : Option Operand} {p : Option Addr} {m c l h s by_ : Nat} (ht : tySlice P t = some (e, s, by_)) (hx : ev E x = some (.slice p m c)) (hl : Bd E lo 0 l) (hh : Bd E hi m h)
    (h1 : l ≤ h) (h2 : h ≤ c) : Quiet P W0 gs E L (.slice t x lo hi none) (.slice (if c = l then p else p.map (·.add (l * s))) (h - l) (c - l)) := by
  intro a W dst ty pos after g he _ _
  obtain ⟨i, hu, hi', rfl, _⟩ := tySlice_spec ht
  have hb := run_sliceBounds (P := P) (W := W) (isS := true) he hl hh h1 h2
  simp only [execOp, he x _ hx, Instr.sliceAt, Sem.run_bind, run_underlying hu, Result.andThen_ok, Instr.slice, Option.map_none, hb, sizeOf, typeInfo, run_program, hi', Sem.run_pure]

/-- A row is opened where it stands. -/
theorem VK.openAt {g m c s : Nat} {e : TypeId} {xs : List Value} {F : Rs → List Rs} (hF : At L (.row (.slice (some ⟨g, 0, none⟩) m c) e s m xs) F)
    (h : ∀ D : List Value, m * s + D.length = c * s → xs.length = m * s → m ≤ c → c ≤ maxLen → VK W0 gs n K E (F (.blk g (xs ++ D) e))) : VK W0 gs n K E L := fun a W st => by
  have hm : Rs.row (.slice (some ⟨g, 0, none⟩) m c) e s m xs ∈ L := (hF.upd (.row (.slice (some ⟨g, 0, none⟩) m c) e s m xs)).mem
  have hr : W.ownsRow 0 e s (.slice (some ⟨g, 0, none⟩) m c) m xs := st.own.all _ hm
  rcases hr.2 with ⟨hv, _⟩ | ⟨g', cap, cur, hv, _, hg, h1, h2, h3, h4⟩
  · cases hv
  · simp only [Value.slice.injEq, Option.some.injEq, Addr.mk.injEq] at hv
    obtain ⟨⟨rfl, _, _⟩, _, rfl⟩ := hv
    have hcur : cur.toList = xs ++ cur.toList.drop (m * s) := by
      rw [← h4]
      exact (List.take_append_drop _ _).symm
    have hu := hF.upd (.blk g (xs ++ cur.toList.drop (m * s)) e)
    have hids : (F (.blk g (xs ++ cur.toList.drop (m * s)) e)).flatMap Rs.ids = L.flatMap Rs.ids := by
      obtain ⟨A, B, hA, hB⟩ := hu.split
      rw [hB, hA]
      simp [Rs.ids, Value.ownBlock]
    have hle : m * s ≤ c * s := Nat.mul_le_mul_right _ h1
    refine h (cur.toList.drop (m * s)) (by rw [List.length_drop]; simp only [Array.length_toList]; omega) hr.1 h1 h2 a W (st.world st.only (own_upd st.own hu ?_ (.inl ?_) fun _ _ _ => rfl) (by rw [hids]; exact st.fresh) fun _ _ hd => ⟨rfl, by rw [hids]; exact hd⟩)
    · show W.heap[g]? = _
      rw [hg, ← hcur, Array.toArray_toList]
    · simp [Rs.ids, Value.ownBlock]
theorem seg_front {A B : List Value} {s : Nat} (h : A.length = s) : Seg (A ++ B) 0 s A := by
  have := seg_mid (A := []) (B := A) (C := B)
  rw [h] at this
  simpa using this
theorem put_back {A B ys : List Value} {s : Nat} (h : A.length = s) (hl : ys.length ≤ B.length) : Put (A ++ B) s ys (A ++ (ys ++ B.drop ys.length)) := by
  have := put_mid (A := A) (Put.front hl)
  rwa [Nat.add_zero, h] at this
theorem take_two {A B D : List Value} {s : Nat} (h1 : A.length = s) (h2 : B.length = s) : (A ++ (B ++ D)).take (2 * s) = A ++ B := by
  rw [← List.append_assoc, List.take_append_of_le_length (by rw [List.length_append]; omega), List.take_of_length_le (by rw [List.length_append]; omega)]

theorem beqN (a b : Nat) : ((a : Int) == (b : Int)) = decide (a = b) := by
  by_cases h : a = b
  · subst h; simp
  · have h2 : (a : Int) ≠ b := by omega
    simp [h, h2]
theorem node_eq (a b : Nat) : vsEq (nodeC a) (nodeC b) = decide (a = b) := by
  simp [vsEq, vEq, nodeC, beqN]
theorem zeroCells_one (z : Array Value) (n : Nat) (h : z.toList.all one = true) (h0 : 0 < z.size) : (Builtin.zeroCells z n).toList.all one = true := by
  rw [List.all_eq_true] at h ⊢
  intro v hv
  simp only [Builtin.zeroCells, Array.toList_map, List.mem_map] at hv
  obtain ⟨i, _, rfl⟩ := hv
  have hlt : i % z.size < z.size := Nat.mod_lt _ h0
  refine h _ ?_
  rw [getElem!_pos z (i % z.size) hlt]
  exact Array.getElem_mem_toList hlt
/-- The last record of a row is cleared. -/
theorem put_last {α : Type} {f : α → List Value} {s : Nat} (hf : ∀ x, (f x).length = s) (l : List α) (i : Nat) (hi : i < l.length) (hl : i + 1 = l.length) (D zs : List Value) (hz : zs.length = s) :
    Put (l.flatMap f ++ D) (i * s) zs ((l.take i).flatMap f ++ (zs ++ D)) := by
  have e1 := fm_split (f := f) l i hi
  have e2 : l.drop (i + 1) = [] := List.drop_of_length_le (by omega)
  rw [e2] at e1
  rw [e1]
  simp only [List.flatMap_nil, List.append_nil, List.append_assoc]
  have := put_mid (A := (l.take i).flatMap f) (put_over (A := f l[i]) (B := D) (ys := zs) (by rw [hf, hz]))
  rwa [Nat.add_zero, fm_take_len hf l i (by omega)] at this
/-- Two slices in two own blocks do not overlap. -/
theorem own_overlaps {t e : TypeId} {s by_ : Nat} {g g' o o' m c m' c' : Nat} {C C' : List Value} {tc tc' : TypeId} {tR : TypeId} (ht : tySlice P t = some (e, s, by_)) (hw : Own W L) (hm : Rs.blk g C tc ∈ L) (hm' : Rs.blk g' C' tc' ∈ L) (hne : g ≠ g') (hC : 0 < C'.length) :
    (Extern.SlicesOverlaps.overlaps #[t, t] #[tR] #[.slice (some ⟨g, o, none⟩) m c, .slice (some ⟨g', o', none⟩) m' c']).run P W = .ok (.bool false) W := by
  obtain ⟨i, hu, hi, rfl, _⟩ := tySlice_spec ht
  have h1 : W.heap[g]? = some (.cells C.toArray tc (0, 0)) := hw.all _ hm
  have h2 : W.heap[g']? = some (.cells C'.toArray tc' (0, 0)) := hw.all _ hm'
  refine Lib.run_overlaps_apart W t tR e hu i.size (fun w => by simp [sizeOf, typeInfo, hi]) ⟨g, o, none⟩ ⟨g', o', none⟩ m c m' c' hne tc tc' C.length C'.length ?_ ?_ (by omega) ?_ ?_
  · simp [World.shape?, h1]
  · simp [World.shape?, h2]
  · simp [World.frozen?, h1]
  · simp [World.frozen?, h1]

/-- 'append(x[:0], make([]T, 2)...)' that does not fit. -/
theorem O.appendMake {t ti e : TypeId} {s by_ : Nat} {z : Value} {x y : Operand} {p : Option Addr} {c m : Nat} {d : Nat} {t' : TypeId} {pos : String} {after : Array Edge} {gd : Option (Nat × Bool)}
    (ht : tySlice P t = some (e, s, by_)) (hti : tyInt P ti = some .i64) (hz : (P.info? e).bind (·.zero) = some z) (hzs : z.cells.size = s) (hs : 0 < s)
    (hx : ev E x = some (.slice p 0 c)) (hy : ev E y = some (.int .i64 (m : Int))) (hm : c < m) (hm2 : m ≤ 1000) (hby : by_ ≤ 1000000) (hd : d < n)
    (h : ∀ g C c', m ≤ c' → c' ≤ maxLen → C.length = c' * s → VK W0 gs n K ((d, .slice (some ⟨g, 0, none⟩) m c') :: E) (.blk g C e :: L)) :
    VO P W0 gs n Q ⟨some d, .call ⟨.builtin .append, #[x, y], #[t, ti]⟩, t', pos, after, gd⟩ K E L := by
  intro a W st
  obtain ⟨i, hut, hi', rfl, rfl⟩ := tySlice_spec ht
  have hzi : i.zero = some z := by simpa [hi'] using hz
  have hui : P.underlying ti = some (.int .i64) := by
    unfold tyInt at hti
    split at hti
    · simp only [Option.some.injEq] at hti
      subst hti
      assumption
    · cases hti
  have hcap : Builtin.nextslicecap (0 + m) c * i.bytes ≤ 281474976710656 := growslice_fits (by omega) (by
    have : (0 + m) * i.bytes ≤ 1000 * 1000000 := Nat.mul_le_mul (by omega) hby
    omega)
  have hmb : m * i.bytes ≤ 281474976710656 := by
    have : m * i.bytes ≤ 1000 * 1000000 := Nat.mul_le_mul hm2 hby
    omega
  have hr := Lib.run_append_grow_zeros (P := P) W t ti t' e i z .i64 .i64 hut hui hi' hzi p 0 c [] (by
    cases p with
    | none => simp [Builtin.firstCells]
    | some p =>
      have := run_loadCells_list (P := P) W.drew p [] (fun j v hv => by simp at hv)
      simpa [Builtin.firstCells] using this) m (by omega) hs (by omega) (by omega) hmb hcap
  simp only [Nat.zero_add] at hr
  have hge := grownCap_ge W m c e
  have hle := grownCap_le_maxLen W m c e (by unfold maxLen; omega)
  generalize hcc : grownCap W m c e = c' at *
  generalize hC : (([] : List Value).toArray ++ Builtin.zeroCells z.cells m ++ Builtin.zeroCells z.cells (c' - m)) = C at *
  have hlen : C.toList.length = c' * i.size := by
    rw [← hC]
    simp only [Array.length_toList, Array.size_append, size_zeroCells, hzs, List.size_toArray, List.length_nil, Nat.zero_add]
    rw [← Nat.add_mul]
    congr 1
    omega
  have hexec : (execOp a.eval ⟨some d, .call ⟨.builtin .append, #[x, y], #[t, ti]⟩, t', pos, after, gd⟩).run P W = .ok (.value (.slice (some ⟨W.heap.size, 0, none⟩) m c')) (W.drew.alloc (.cells C e)) := by
    simp [execOp, resolve, invoke, builtin, st.eval hx, st.eval hy, hr]
  unfold Oper.wp
  rw [hexec, Oper.upon_value]
  have sd : St W0 gs n E L a W.drew := ⟨st.defers.move fun _ _ hd => ⟨rfl, hd⟩, st.size, st.env, ⟨st.only.os, st.only.tape, st.only.output, st.only.size, st.only.block⟩, ⟨st.own.nodup, fun r hr => Rs.stable (st.own.all r hr) fun _ _ => rfl⟩, st.fresh⟩
  have sa := sd.alloc C.toList e
  rw [Array.toArray_toList] at sa
  exact h W.heap.size C.toList c' (by omega) hle hlen _ _ (sa.put hd _)

/-- 'clear' of a piece of an own block. -/
theorem O.clear {t e : TypeId} {s by_ : Nat} {z : Value} {x : Operand} {g o m c : Nat} {C C' : List Value} {t' tb : TypeId} {pos : String} {after : Array Edge} {gd : Option (Nat × Bool)}
    (ht : tySlice P t = some (e, s, by_)) (hz : (P.info? e).bind (·.zero) = some z) (hx : ev E x = some (.slice (some ⟨g, o, none⟩) m c)) (hm : 0 < m)
    (hu : Upd L (.blk g C tb) (.blk g C' tb) L') (hp : Put C o (Builtin.zeroCells z.cells m).toList C') (h1 : (Builtin.zeroCells z.cells m).toList.all one = true) (h : VK W0 gs n K E L') :
    VO P W0 gs n Q ⟨none, .call ⟨.builtin .clear, #[x], #[t]⟩, t', pos, after, gd⟩ K E L := by
  intro a W st
  obtain ⟨i, hut, hi', rfl, _⟩ := tySlice_spec ht
  have hzi : i.zero = some z := by simpa [hi'] using hz
  have hb : W.heap[g]? = some (.cells C.toArray tb (0, 0)) := st.own.all _ hu.mem
  obtain ⟨hle, hC⟩ := hp.spec
  have hsc : (storeCells ⟨g, o, none⟩ (Builtin.zeroCells z.cells m).toList).run P W = .ok () (W.setRow g C'.toArray) := by
    have := run_storeCells_at P g o tb (Builtin.zeroCells z.cells m).toList 0 C.toArray W hb (by simpa using hle) (fun u hu => one_oneCell (List.all_eq_true.1 h1 u hu))
    simp only [Nat.add_zero] at this
    rw [this, hC]
  obtain ⟨m, rfl⟩ : ∃ k, m = k + 1 := ⟨m - 1, by omega⟩
  have hexec : (execOp a.eval ⟨none, .call ⟨.builtin .clear, #[x], #[t]⟩, t', pos, after, gd⟩).run P W = .ok (.value (.tuple #[])) (W.setRow g C'.toArray) := by
    simp [execOp, resolve, invoke, builtin, st.eval hx, Builtin.clear_, run_underlying hut, zeroValue, typeInfo, hi', hzi, hsc]
  unfold Oper.wp
  rw [hexec, Oper.upon_value]
  exact h _ _ (st.setRow hu)
end

/-! texts -/
def strOf (l : List UInt8) : ByteArray := (l.map fun c => (c.toNat : Int)).foldl (fun r n => r.push (UInt8.ofNat n.toNat)) ByteArray.empty
def flatV : Value → Bool
  | .int _ _ => true
  | .bool _ => true
  | _ => false
theorem vsEq_refl : ∀ xs : List Value, xs.all flatV = true → vsEq xs xs = true
  | [], _ => by simp [vsEq]
  | x :: xs, h => by
    simp only [List.all_cons, Bool.and_eq_true] at h
    have ih := vsEq_refl xs h.2
    cases x with
    | int k n => simp [vsEq, vEq, ih]
    | bool b => simp [vsEq, vEq, ih]
    | _ => cases h.1

section
variable {P : Program} {W0 : World} {gs : List Nat} {n : Nat} {E E' : List (Nat × Value)} {L L' : List Rs} {K : Act → World → Prop}
  {ops : Array Oper} {Q : Exit → Act → World → Prop} {a : Act} {W : World}

theorem Q.convStr {ts td e : TypeId} {x : Operand} {b o m c s by_ : Nat} {l : List UInt8} (ht : tySlice P ts = some (e, s, by_)) (he : tyInt P e = some .u8) (hd : P.underlying td = some .string) (hx : ev E x = some (.slice (some ⟨b, o, none⟩) m c)) (hl : l.length = m)
    (hrd : ∀ W, Only gs W0 W → Own W L → Rd W (some ⟨b, o, none⟩) (bs l)) : Quiet P W0 gs E L (.convert ts td x) (.string (strOf l)) := by
  intro a W dst ty pos after g hev ho hw
  obtain ⟨i, hu, _⟩ := tySlice_spec ht
  have hue : P.underlying e = some (.int .u8) := by
    unfold tyInt at he
    split at he
    · simp only [Option.some.injEq] at he
      subst he
      assumption
    · cases he
  have hr := hrd W ho hw
  have hcells : (loadCells ⟨b, o, none⟩ m).run P W = .ok ((l.map fun c => (c.toNat : Int)).map (Value.int .u8)).toArray W := by
    have := run_loadCells_list (P := P) W ⟨b, o, none⟩ (bs l) (fun j u hj => by
      rw [Addr.add_lit]
      exact Rd.at hr hj)
    rw [bs_length, hl] at this
    rw [this]
    simp [bs, Function.comp_def]
  simp [execOp, hev x _ hx, run_convert_bytes_string W ts td e _ _ _ hu hue hd, run_bytesToString W _ _ _ _ hcells, strOf]
theorem Q.eqStr {t t' : TypeId} {x y : Operand} {s : ByteArray} (hx : ev E x = some (.string s)) (hy : ev E y = some (.string s)) : Quiet P W0 gs E L (.binOp .eql t x y t') (.bool true) :=
  Q.bin hx hy (fun _ => by rw [eqGuard_at_string]; rfl) fun W => by simp [binOp, Op.stringOp]
end
def IXF {α : Type} (l : List α) (pr : α → Bool) (x : Int) : Prop := (x = -1 ∧ ∀ k (h : k < l.length), pr l[k] = false) ∨ ∃ (i : Nat) (h : i < l.length), x = i ∧ pr l[i] = true ∧ ∀ k (hk : k < l.length), k < i → pr l[k] = false
def IXB {α : Type} (l : List α) (pr : α → Bool) (k : Nat) : Prop := k ≤ l.length ∧ ∀ j (h : j < l.length), j < k → pr l[j] = false
theorem IXB.zero {α : Type} {l : List α} {pr : α → Bool} : IXB l pr 0 := ⟨Nat.zero_le _, fun j _ h => by omega⟩
theorem IXB.next {α : Type} {l : List α} {pr : α → Bool} {k : Nat} (h : IXB l pr k) (hk : k < l.length) (hp : pr l[k] = false) : IXB l pr (k + 1) :=
  ⟨hk, fun j hj hlt => by
    by_cases e : j = k
    · subst e; exact hp
    · exact h.2 j hj (by omega)⟩
theorem IXB.none {α : Type} {l : List α} {pr : α → Bool} {k : Nat} (h : IXB l pr k) (hk : ¬ k < l.length) : IXF l pr (-1) := .inl ⟨rfl, fun j hj => h.2 j hj (by omega)⟩
theorem IXB.some {α : Type} {l : List α} {pr : α → Bool} {k : Nat} (h : IXB l pr k) (hk : k < l.length) (hp : pr l[k] = true) : IXF l pr (k : Int) := .inr ⟨k, hk, rfl, hp, fun j hj hlt => h.2 j hj hlt⟩
theorem IXF.no {α : Type} {l : List α} {pr : α → Bool} {x : Int} (h : IXF l pr x) (hn : ∀ q ∈ l, pr q = false) : x = -1 := by
  rcases h with ⟨h, _⟩ | ⟨i, hi, _, hp, _⟩
  · exact h
  · rw [hn _ (List.getElem_mem hi)] at hp
    cases hp
/-- a piece of a body, by the way to it -/
def codeAt : Code → List Nat → Code
  | c, [] => c
  | .seq x y, b :: p => codeAt (match b with | 0 => x | _ => y) p
  | .cond _ x y, b :: p => codeAt (match b with | 0 => x | _ => y) p
  | .block _ x, _ :: p => codeAt x p
  | .loop x, _ :: p => codeAt x p
  | c, _ :: _ => c
def bodyAt (f : Func) (p : List Nat) : Code := match f.body with | some c => codeAt c p | none => .ret
theorem Picks.skip {L Lin L2 : List Rs} {x : Rs} (h : Picks L Lin L2) : Picks (x :: L) Lin (x :: L2) := by
  induction h with
  | nil => exact .nil
  | cons h1 _ ih => exact .cons (.there h1) ih
theorem zM2 {L Lin L2 : List Rs} (h : Picks L Lin L2 := by repeat (first | exact Picks.nil | exact zR | apply Picks.cons | exact Pick.here | apply Pick.there | apply Picks.skip)) : Picks L Lin L2 := h
section
variable {P : Program} {W0 : World} {gs : List Nat} {n : Nat} {E : List (Nat × Value)} {L : List Rs} {K : Act → World → Prop} {Q : Exit → Act → World → Prop}
/-- A piece has come to its end. -/
theorem VK.fin {X : Type} {φ : X → Prop} {Ef : X → List (Nat × Value)} {Lf : X → List Rs} {L2 : List Rs} (hn0 : ∀ z : X, φ z → VK W0 gs n K (Ef z) (Lf z)) (z : X) (hz : φ z)
    (he : Env E (Ef z) := by repeat (first | exact Env.nil | apply Env.cons rfl)) (hp : Picks L (Lf z) L2 := by repeat (first | exact Picks.nil | exact zR | apply Picks.cons | exact Pick.here | apply Pick.there | apply Picks.skip)) : VK W0 gs n K E L :=
  VK.picks hp (VK.keep he (hn0 z hz))
/-- A call that is handed what is owned of the mesh; what comes back stands behind what stays. -/
theorem O.callF {f : Operand} {xs : List Operand} {tys : Array TypeId} {k : FuncId} {vs : List Value} {Lin Lr : List Rs} {RO : World → Prop} {X : Type} {ψ : X → Prop} {rv : X → Value} {Lout : X → List Rs}
    {d : Nat} {t : TypeId} {pos : String} {after : Array Edge} {gd : Option (Nat × Bool)}
    (hk : okFunc P k = true) (hf : ev E f = some (.func (.func k) #[] #[])) (hxs : evs E xs = some vs) (hd : d < n) (hc : Does P k vs Lin RO ψ rv Lout) (hp : Picks L Lin Lr)
    (hro : ∀ W, Only gs W0 W → Own W L → RO W) (h : ∀ x, ψ x → VK W0 gs n K ((d, rv x) :: E) (Lr ++ Lout x)) :
    VO P W0 gs n Q ⟨some d, .call ⟨.value f, xs.toArray, tys⟩, t, pos, after, gd⟩ K E L :=
  O.call (first := []) (capt := []) (vs := vs) (Lin := Lin) (Lr := Lr) (by simpa using hc) hk hf hxs hd hp.perm hro fun x hx => VK.perm List.perm_append_comm (h x hx)
end
/-- What is owned was given or is new. -/
theorem VK.fresh {W0 : World} {gs : List Nat} {n : Nat} {E : List (Nat × Value)} {L : List Rs} {K : Act → World → Prop} (h : (∀ j ∈ L.flatMap Rs.ids, j ∈ gs ∨ W0.heap.size ≤ j) → VK W0 gs n K E L) : VK W0 gs n K E L := fun a W s => h s.fresh a W s
theorem own_only {W0 W : World} {L : List Rs} (h : Own W0 L) (ho : Only [] W0 W) : Own W L := own_stable h fun k hk => ho.block k (own_lt h k hk) (by simp)
/-- Rows of records, cell by cell. -/
theorem put_cells {A B cells : List Value} (h : B = cells) (hl : A.length = cells.length) : Put A 0 cells B := by
  subst h
  have := put_over (A := A) (B := []) (ys := B) hl
  simpa using this
/-- The ways meet; what is owned is sorted. -/
theorem VE.meetP {W0 : World} {gs : List Nat} {n : Nat} {E : List (Nat × Value)} {L L2 : List Rs} {X : Type} {φ : X → Prop} {Ef : X → List (Nat × Value)} {Lf : X → List Rs} (x' : X) (hx : φ x') (he : Env E (Ef x')) (hp : Picks L (Lf x') L2) :
    VK W0 gs n (fun a W => ∃ x', φ x' ∧ St W0 gs n (Ef x') (Lf x') a W) E L :=
  VK.perm hp.perm (VK.sub (List.sublist_append_left _ _) (VE.meet x' hx he (List.Sublist.refl _)))
section
variable {P : Program} {Q : Exit → Act → World → Prop} {N N2 : Act → World → Prop} {i j : Nat}
theorem ze {fn : Func} {R : Ending → World → Prop} : Still (bodyPostS P fn R) := Still.body
theorem zt (h : Still Q) : Still (Exit.then N Q) := h.then
theorem zb (h : Still Q) : Still (Exit.inBlock i Q) := h.block
theorem ztt (h : Still Q) : Still (Exit.then N (Exit.then N2 Q)) := h.then.then
theorem zttb (h : Still Q) : Still (Exit.then N (Exit.then N2 (Exit.inBlock i Q))) := h.block.then.then
theorem zttbb (h : Still Q) : Still (Exit.then N (Exit.then N2 (Exit.inBlock i (Exit.inBlock j Q)))) := h.block.block.then.then
end
section
variable {W0 : World} {gs : List Nat} {n : Nat} {E : List (Nat × Value)} {L : List Rs} {K : Act → World → Prop}
theorem Rd.frz {W : World} {ids : List Nat} {H : World → Prop} (hw : Own W L) (hm : Rs.frz ids H ∈ L) : H W := (hw.all _ hm).2 W fun _ _ => rfl
/-- What is written no more is kept as one entry. -/
theorem VK.freeze {A B : List Rs} (H : World → Prop) (hp : Picks L A B) (hH : ∀ W, Own W A → H W) (h : ∀ ids, VK W0 gs n K E (.frz ids H :: B)) : VK W0 gs n K E L := by
  refine VK.perm hp.perm fun a W s => h (A.flatMap Rs.ids) a W ?_
  have e : (Rs.frz (A.flatMap Rs.ids) H :: B).flatMap Rs.ids = (A ++ B).flatMap Rs.ids := by simp [Rs.ids]
  refine s.world s.only ⟨by rw [e]; exact s.own.nodup, fun r hr => ?_⟩ (by rw [e]; exact s.fresh) fun D _ hd => ⟨rfl, by rw [e]; exact hd⟩
  rcases List.mem_cons.1 hr with rfl | hr
  · have hA := s.own.sub (List.sublist_append_left A B)
    exact ⟨own_lt hA, fun W' hk => hH W' (own_stable hA hk)⟩
  · exact s.own.all _ (List.mem_append_right _ hr)
theorem VK.frzTo {B : List Rs} {ids : List Nat} {H H' : World → Prop} (hp : Picks L [.frz ids H] B) (hH : ∀ W, H W → H' W) (h : ∀ ids, VK W0 gs n K E (.frz ids H' :: B)) : VK W0 gs n K E L :=
  VK.freeze H' hp (fun _ hw => hH _ (Rd.frz hw (.head _))) h
/-- Nothing, as an entry. -/
theorem VK.frzNil (H : World → Prop) (hH : ∀ W, H W) (h : ∀ ids, VK W0 gs n K E (.frz ids H :: L)) : VK W0 gs n K E L := VK.freeze H .nil (fun W _ => hH W) h
end
/-- What lay there before is apart from what is new. -/
theorem Rd.apart {W0 : World} {p : Option Addr} {xs : List Value} {L : List Rs} (h : Rd W0 p xs) (h0 : 0 < xs.length) (hf : ∀ j ∈ L.flatMap Rs.ids, j ∈ ([] : List Nat) ∨ W0.heap.size ≤ j) : ∀ x, p = some x → x.block ∉ L.flatMap Rs.ids := by
  obtain ⟨b, o, rfl⟩ := h.pos h0
  intro x hx hm
  cases hx
  have := h.lt h0
  rcases hf _ hm with h | h
  · cases h
  · dsimp only at h; omega
end Go.Sx
