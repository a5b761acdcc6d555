/- The memory of the mesh. Conditions: none. -/
import Derived.Test.YtencghlmckbmlaaGreatRows
import Derived.Test.YtencghlmckbmlaaGreatZBody
import Derived.Test.YtencghlmckbmlaaGreatZHandle
import Derived.Test.YtencghlmckbmlaaGreatZBest
import Derived.Test.YtencghlmckbmlaaGreatZSend
import Derived.Test.YtencghlmckbmlaaGreatZCode
import Derived.Test.YtencghlmckbmlaaGreatZAir
namespace Go.Proofs.YtencghlmckbmlaaGreat
open Go Go.RowKit Go.Sx
set_option maxRecDepth 100000



open Go.Mesh
structure Fwd where
  fseq : Nat → Nat
  seen : Nat → List (Nat × Nat)
  next : Nat → Nat → Option Nat
structure Lay where
  tv : Nat → Option Addr × Nat
  sv : Nat → Option Addr × Nat
  nv : Nat → Option Addr × Nat
  mv : Option Addr × Nat
  mail : List (Word × (Option Addr × Nat))
def lst {α : Type} (f : Nat → Option α) : List (Nat × α) := (match f 0 with | some t => [(0, t)] | none => []) ++ (match f 1 with | some t => [(1, t)] | none => [])
theorem mem_lst {α : Type} {f : Nat → Option α} {p : Nat × α} : p ∈ lst f ↔ (p.1 < 2 ∧ f p.1 = some p.2) := by
  obtain ⟨r, t⟩ := p
  have key : r < 2 ↔ (r = 0 ∨ r = 1) := by omega
  simp only [key]
  unfold lst
  cases h0 : f 0 with
  | none =>
    cases h1 : f 1 with
    | none =>
      simp
      rintro (rfl | rfl) <;> simp [h0, h1]
    | some u =>
      simp
      constructor
      · rintro ⟨rfl, rfl⟩; exact ⟨.inr rfl, h1⟩
      · rintro ⟨rfl | rfl, h⟩
        · rw [h0] at h; cases h
        · rw [h1] at h; cases h; exact ⟨rfl, rfl⟩
  | some v =>
    cases h1 : f 1 with
    | none =>
      simp
      constructor
      · rintro ⟨rfl, rfl⟩; exact ⟨.inl rfl, h0⟩
      · rintro ⟨rfl | rfl, h⟩
        · rw [h0] at h; cases h; exact ⟨rfl, rfl⟩
        · rw [h1] at h; cases h
    | some u =>
      simp
      constructor
      · rintro (⟨rfl, rfl⟩ | ⟨rfl, rfl⟩)
        · exact ⟨.inl rfl, h0⟩
        · exact ⟨.inr rfl, h1⟩
      · rintro ⟨rfl | rfl, h⟩
        · rw [h0] at h; cases h; exact .inl ⟨rfl, rfl⟩
        · rw [h1] at h; cases h; exact .inr ⟨rfl, rfl⟩
theorem lst_len {α : Type} (f : Nat → Option α) : (lst f).length ≤ 2 := by
  unfold lst
  cases f 0 <;> cases f 1 <;> simp
theorem lst_srt {α : Type} (f : Nat → Option α) : Srt (lst f) := by
  intro i j hij hi hj
  unfold lst at *
  revert hi hj
  cases f 0 <;> cases f 1 <;> simp <;> intro hi hj
  · omega
  · omega
  · have : i = 0 := by omega
    have : j = 1 := by omega
    subst i j
    simp
theorem lst_known {α : Type} {f : Nat → Option α} {r i : Nat} {kn : Bool} (hr : r < 2) (h : BS (lst f) r (i, kn)) : kn = (f r).isSome ∧ (kn = true → ∃ hi : i < (lst f).length, f r = some (lst f)[i].2) := by
  cases kn with
  | true =>
    obtain ⟨hi, he⟩ := h.is rfl
    have hm := mem_lst.1 (List.getElem_mem hi)
    dsimp only at hi he hm
    rw [he] at hm
    exact ⟨by rw [hm.2]; rfl, fun _ => ⟨hi, hm.2⟩⟩
  | false =>
    refine ⟨?_, fun e => by cases e⟩
    cases hf : f r with
    | none => rfl
    | some t =>
      exfalso
      obtain ⟨k, hk, e⟩ := List.mem_iff_getElem.1 (mem_lst.2 (show ((r, t) : Nat × α).1 < 2 ∧ f (r, t).1 = some (r, t).2 from ⟨hr, hf⟩))
      have e1 : (lst f)[k].1 = r := by rw [e]
      rcases Nat.lt_trichotomy k i with hlt | heq | hgt
      · have := h.lo k hlt hk
        omega
      · subst heq
        exact h.no rfl hk e1
      · have h2 : r ≤ (lst f)[i].1 := h.hi i (Nat.le_refl _) (by omega)
        have h3 := lst_srt f i k hgt (by omega) hk
        omega
theorem lst_new {α : Type} {f : Nat → Option α} {r i : Nat} {kn : Bool} (hr : r < 2) (h : BS (lst f) r (i, kn)) (t : α) : newL (lst f) i kn (r, t) = lst (upd f r (some t)) := by
  have hk := (lst_known hr h).1
  have hlen : i ≤ (lst f).length := h.len
  have hlo := h.lo
  have hhi := h.hi
  have his := h.is
  have hno := h.no
  dsimp only at hlo hhi his hno
  have hr2 : r = 0 ∨ r = 1 := by omega
  revert hlen hlo hhi his hno hk
  unfold lst
  have key : ∀ (l : List (Nat × α)), l.length ≤ 2 → i ≤ l.length → i = 0 ∨ i = 1 ∨ i = 2 := fun l h1 h2 => by omega
  rcases hr2 with rfl | rfl <;> cases h0 : f 0 <;> cases h1 : f 1 <;> intro hk hlen hlo hhi his hno <;> rw [hk] at his hno ⊢ <;> rcases key _ (by simp) hlen with rfl | rfl | rfl <;> simp [upd, newL, h0, h1] at hlen hlo hhi his hno ⊢ <;>
    first
    | done
    | exact absurd rfl (hlo 0 (by omega))
    | exact absurd rfl (hhi 0 (by omega))
    | exact absurd (hlo 0 (by omega)) (by decide)
    | exact absurd (hlo 1 (by omega) (by omega)) (by simp)

/-! cells -/
def rootC (M : Core) (Y : Lay) (i : Nat) : List Value := [.int .u8 2, .int .u8 0, .int .u8 0, .int .u8 0, .int .u8 2, .int .u8 (i : Int), .bool (decide (i < 2)), .bool (decide (i = 0)), .int .i64 (M.rseq i : Int), .slice (Y.tv i).1 (lst (M.tree i)).length (Y.tv i).2, .slice none 0 0]
def fwdC (F : Fwd) (Y : Lay) (i : Nat) : List Value := [.int .u8 2, .int .u8 0, .int .u8 0, .int .u8 0, .int .u8 2, .int .u8 (i : Int), .int .i64 (F.fseq i : Int), .slice (Y.sv i).1 (F.seen i).length (Y.sv i).2, .slice (Y.nv i).1 (lst (F.next i)).length (Y.nv i).2]
def costC (M : Core) (i : Nat) : List Value := (List.range 6).map fun j => .int .i64 (M.cost i j : Int)
def wordC (x : Word × (Option Addr × Nat)) : List Value := [.int .i64 (x.1.src : Int), .int .i64 (x.1.dst : Int), .int .u8 0, .int .u8 13, .bool false, .bool false, .bool false, .bool false, .bool false, .bool false, .bool false, .int .i64 0, .int .u8 2, .int .u8 0, .int .u8 0, .int .u8 0, .int .u8 2, .int .u8 (x.1.dst : Int), .int .u8 2, .int .u8 0, .int .u8 0, .int .u8 0, .int .u8 2, .int .u8 (x.1.src : Int), .int .u8 2, .int .u8 0, .int .u8 0, .int .u8 0, .int .u8 2, .int .u8 (x.1.src : Int), .int .u8 0, .int .u8 0, .int .u8 0, .int .u8 0, .int .u8 0, .int .u8 0, .int .i64 0, .int .i64 0, .int .i64 0, .int .u8 0, .bool false, .bool false, .slice x.2.1 23 x.2.2]
def mailS (Y : Lay) : Value := .slice Y.mv.1 Y.mail.length Y.mv.2
def meshC (M : Core) (F : Fwd) (Y : Lay) : List Value := (List.range 6).flatMap (costC M) ++ ((List.range 6).flatMap (rootC M Y) ++ ((List.range 6).flatMap (fwdC F Y) ++ [mailS Y, .int .i64 (M.now : Int)]))
theorem rootC_len (M : Core) (Y : Lay) (i : Nat) : (rootC M Y i).length = 11 := rfl
theorem fwdC_len (F : Fwd) (Y : Lay) (i : Nat) : (fwdC F Y i).length = 9 := rfl
theorem costC_len (M : Core) (i : Nat) : (costC M i).length = 6 := by simp [costC]
theorem wordC_len (x : Word × (Option Addr × Nat)) : (wordC x).length = 43 := rfl
theorem wordC_one (x : Word × (Option Addr × Nat)) : (wordC x).all one = true := rfl
theorem cost36 (M : Core) : ((List.range 6).flatMap (costC M)).length = 36 := by rw [fm_length (costC_len M)]; rfl
theorem root66 (M : Core) (Y : Lay) : ((List.range 6).flatMap (rootC M Y)).length = 66 := by rw [fm_length (rootC_len M Y)]; rfl
theorem fwd54 (F : Fwd) (Y : Lay) : ((List.range 6).flatMap (fwdC F Y)).length = 54 := by rw [fm_length (fwdC_len F Y)]; rfl
theorem meshC_len (M : Core) (F : Fwd) (Y : Lay) : (meshC M F Y).length = 158 := by
  unfold meshC
  rw [List.length_append, List.length_append, List.length_append, cost36, root66, fwd54]
  rfl
theorem seg_right {A B xs : List Value} {o s m : Nat} (h : Seg B o s xs) (hm : A.length = m) : Seg (A ++ B) (m + o) s xs := by
  subst hm
  induction A with
  | nil => simpa using h
  | cons a A ih =>
    have e : (a :: A).length + o = (A.length + o) + 1 := by simp; omega
    rw [e]
    exact .skip ih
theorem seg_left {A B xs : List Value} {o s : Nat} (h : Seg A o s xs) : Seg (A ++ B) o s xs := by
  induction h with
  | nil => exact .nil
  | here _ ih => exact .here ih
  | skip _ ih => exact .skip ih
theorem put_right {A C C' ys : List Value} {o m : Nat} (h : Put C o ys C') (hm : A.length = m) : Put (A ++ C) (m + o) ys (A ++ C') := by
  subst hm
  exact put_mid h
theorem range_get {i n : Nat} (h : i < (List.range n).length) : (List.range n)[i] = i := by simp
theorem mesh_root (M : Core) (F : Fwd) (Y : Lay) {i : Nat} (hi : i < 6) : Seg (meshC M F Y) (36 + i * 11) 11 (rootC M Y i) := by
  have h := fm_seg (rootC_len M Y) (List.range 6) i (by simpa using hi)
  rw [range_get] at h
  exact seg_right (seg_left h) (cost36 M)
theorem mesh_fwd (M : Core) (F : Fwd) (Y : Lay) {i : Nat} (hi : i < 6) : Seg (meshC M F Y) (102 + i * 9) 9 (fwdC F Y i) := by
  have h := fm_seg (fwdC_len F Y) (List.range 6) i (by simpa using hi)
  rw [range_get] at h
  have := seg_right (seg_right (seg_left h (B := [mailS Y, .int .i64 (M.now : Int)])) (root66 M Y)) (cost36 M)
  rw [show 102 + i * 9 = 36 + (66 + i * 9) from by omega]
  exact this
theorem mesh_cost (M : Core) (F : Fwd) (Y : Lay) {i j : Nat} (hi : i < 6) (hj : j < 6) : (meshC M F Y)[0 + i * 6 + j]? = some (.int .i64 (M.cost i j : Int)) := by
  have h := fm_seg (costC_len M) (List.range 6) i (by simpa using hi)
  rw [range_get] at h
  have h2 := (seg_left h (B := (List.range 6).flatMap (rootC M Y) ++ ((List.range 6).flatMap (fwdC F Y) ++ [mailS Y, .int .i64 (M.now : Int)]))).spec.2 j (.int .i64 (M.cost i j : Int)) (by simp [costC, hj])
  rw [Nat.zero_add]
  exact h2
theorem mesh_mail (M : Core) (F : Fwd) (Y : Lay) : (meshC M F Y)[0 + 156]? = some (mailS Y) := by
  have h : Seg ([mailS Y, .int .i64 (M.now : Int)] : List Value) 0 1 [mailS Y] := .here .nil
  have := (seg_right (seg_right (seg_right h (fwd54 F Y)) (root66 M Y)) (cost36 M)).spec.2 0 (mailS Y) rfl
  exact this
theorem mesh_now (M : Core) (F : Fwd) (Y : Lay) : (meshC M F Y)[0 + 157]? = some (.int .i64 (M.now : Int)) := by
  have h : Seg ([mailS Y, .int .i64 (M.now : Int)] : List Value) 1 1 [.int .i64 (M.now : Int)] := .skip (.here .nil)
  have := (seg_right (seg_right (seg_right h (fwd54 F Y)) (root66 M Y)) (cost36 M)).spec.2 0 (.int .i64 (M.now : Int)) rfl
  exact this
theorem flat_congr {f f' : Nat → List Value} {l : List Nat} (h : ∀ j ∈ l, f' j = f j) : l.flatMap f' = l.flatMap f := by
  induction l with
  | nil => rfl
  | cons a l ih => rw [List.flatMap_cons, List.flatMap_cons, h a (by simp), ih fun j hj => h j (by simp [hj])]
theorem put_fn {f f' : Nat → List Value} {s n : Nat} (hf : ∀ x, (f x).length = s) {i o : Nat} (hi : i < n) (hne : ∀ j, j ≠ i → f' j = f j) {ys : List Value} (hp : Put (f i) o ys (f' i)) :
    Put ((List.range n).flatMap f) (i * s + o) ys ((List.range n).flatMap f') := by
  have hi' : i < (List.range n).length := by simpa using hi
  have e1 := fm_split (f := f) (List.range n) i hi'
  have e2 := fm_split (f := f') (List.range n) i hi'
  have e3 : ((List.range n).take i).flatMap f' = ((List.range n).take i).flatMap f := flat_congr fun j hj => by
    refine hne j fun e => ?_
    subst e
    obtain ⟨k, hk, e⟩ := List.mem_iff_getElem.1 hj
    rw [List.length_take] at hk
    simp at e
    omega
  have e4 : ((List.range n).drop (i + 1)).flatMap f' = ((List.range n).drop (i + 1)).flatMap f := flat_congr fun j hj => by
    refine hne j fun e => ?_
    subst e
    obtain ⟨k, hk, e⟩ := List.mem_iff_getElem.1 hj
    simp at e
    omega
  rw [range_get] at e1 e2
  rw [e1, e2, e3, e4]
  have := put_mid (A := ((List.range n).take i).flatMap f) (Put.appR hp (((List.range n).drop (i + 1)).flatMap f))
  rwa [fm_take_len hf _ i (by omega)] at this
theorem mesh_put_root {M M' : Core} {F : Fwd} {Y Y' : Lay} {i o : Nat} {ys : List Value} (hi : i < 6) (hc : M'.cost = M.cost) (hn : M'.now = M.now) (hm : mailS Y' = mailS Y) (hs : Y'.sv = Y.sv) (hx : Y'.nv = Y.nv) (hne : ∀ j, j ≠ i → rootC M' Y' j = rootC M Y j) (hp : Put (rootC M Y i) o ys (rootC M' Y' i)) :
    Put (meshC M F Y) (36 + i * 11 + o) ys (meshC M' F Y') := by
  have h := put_fn (rootC_len M Y) (n := 6) hi hne hp
  have e1 : fwdC F Y' = fwdC F Y := by unfold fwdC; rw [hs, hx]
  have e2 : costC M' = costC M := by unfold costC; rw [hc]
  unfold meshC
  rw [e1, e2, hm, hn, Nat.add_assoc]
  exact put_right (Put.appR h _) (cost36 M)
theorem mesh_put_fwd {M : Core} {F F' : Fwd} {Y Y' : Lay} {i o : Nat} {ys : List Value} (hi : i < 6) (hm : mailS Y' = mailS Y) (ht : Y'.tv = Y.tv) (hne : ∀ j, j ≠ i → fwdC F' Y' j = fwdC F Y j) (hp : Put (fwdC F Y i) o ys (fwdC F' Y' i)) :
    Put (meshC M F Y) (102 + i * 9 + o) ys (meshC M F' Y') := by
  have h := put_fn (fwdC_len F Y) (n := 6) hi hne hp
  have e1 : rootC M Y' = rootC M Y := by unfold rootC; rw [ht]
  unfold meshC
  rw [e1, hm, show 102 + i * 9 + o = 36 + (66 + (i * 9 + o)) from by omega]
  exact put_right (put_right (Put.appR h _) (root66 M Y)) (cost36 M)
theorem mesh_put_mail {M : Core} {F : Fwd} {Y Y' : Lay} (ht : Y'.tv = Y.tv) (hs : Y'.sv = Y.sv) (hx : Y'.nv = Y.nv) : Put (meshC M F Y) (0 + 156) [mailS Y'] (meshC M F Y') := by
  have h : Put ([mailS Y, .int .i64 (M.now : Int)] : List Value) 0 [mailS Y'] [mailS Y', .int .i64 (M.now : Int)] := .here .nil
  have e1 : rootC M Y' = rootC M Y := by unfold rootC; rw [ht]
  have e2 : fwdC F Y' = fwdC F Y := by unfold fwdC; rw [hs, hx]
  have := put_right (put_right (put_right h (fwd54 F Y)) (root66 M Y)) (cost36 M)
  unfold meshC
  rw [e1, e2]
  exact this
theorem mesh_put_now {M M' : Core} {F : Fwd} {Y : Lay} (hc : M'.cost = M.cost) (hr : M'.rseq = M.rseq) (ht : M'.tree = M.tree) : Put (meshC M F Y) (0 + 157) [.int .i64 (M'.now : Int)] (meshC M' F Y) := by
  have h : Put ([mailS Y, .int .i64 (M.now : Int)] : List Value) 1 [.int .i64 (M'.now : Int)] [mailS Y, .int .i64 (M'.now : Int)] := .skip (.here .nil)
  have e1 : rootC M' Y = rootC M Y := by unfold rootC; rw [hr, ht]
  have e2 : costC M' = costC M := by unfold costC; rw [hc]
  have := put_right (put_right (put_right h (fwd54 F Y)) (root66 M Y)) (cost36 M)
  unfold meshC
  rw [e1, e2]
  exact this
theorem mesh_put_cost {M M' : Core} {F : Fwd} {Y : Lay} {a b : Nat} (ha : a < 6) (hb : b < 6) (hr : M'.rseq = M.rseq) (ht : M'.tree = M.tree) (hn : M'.now = M.now) (hne : ∀ i j, ¬ (i = a ∧ j = b) → M'.cost i j = M.cost i j) :
    Put (meshC M F Y) (0 + a * 6 + b) [.int .i64 (M'.cost a b : Int)] (meshC M' F Y) := by
  have e1 : rootC M' Y = rootC M Y := by unfold rootC; rw [hr, ht]
  have hp : Put (costC M a) b [.int .i64 (M'.cost a b : Int)] (costC M' a) := by
    have e : costC M' a = (costC M a).set b (.int .i64 (M'.cost a b : Int)) := by
      apply List.ext_getElem?
      intro k
      rw [List.getElem?_set]
      by_cases hk : k < 6
      · by_cases e : b = k
        · subst e
          simp [costC, hb]
        · simp [costC, hk, e, hne a k (by omega)]
      · have h1 : (costC M' a)[k]? = none := List.getElem?_eq_none (by rw [costC_len]; omega)
        have h2 : (costC M a)[k]? = none := List.getElem?_eq_none (by rw [costC_len]; omega)
        rw [h1, h2]
        have : b ≠ k := by omega
        simp [this]
    rw [e]
    exact Put.set (by rw [costC_len]; exact hb)
  have h := put_fn (costC_len M) (n := 6) ha (fun j hj => by
    unfold costC
    have : ∀ k, M'.cost j k = M.cost j k := fun k => hne j k (by omega)
    simp only [this]) hp
  unfold meshC
  rw [e1, hn, Nat.zero_add]
  exact Put.appR h _

/-! what is held -/
abbrev mRow (Y : Lay) : Rs := .row (mailS Y) 137 43 Y.mail.length (Y.mail.flatMap wordC)
abbrev mBlk (g : Nat) (M : Core) (F : Fwd) (Y : Lay) : Rs := .blk g (meshC M F Y) 59
def tRow (p : Option Addr × Nat) (f : Nat → Option TreeV) : Rs := .row (.slice p.1 (lst f).length p.2) 151 17 (lst f).length ((lst f).flatMap treeC)
def sRow (p : Option Addr × Nat) (l : List (Nat × Nat)) : Rs := .row (.slice p.1 l.length p.2) 258 7 l.length (l.flatMap markC)
def nRow (p : Option Addr × Nat) (f : Nat → Option Nat) : Rs := .row (.slice p.1 (lst f).length p.2) 252 12 (lst f).length ((lst f).flatMap hopC)
def bRow (x : Word × (Option Addr × Nat)) : Rs := .row (.slice x.2.1 23 x.2.2) 5 1 23 (bs (actB (wordB x.1.root x.1.seq x.1.hops x.1.cost)))
structure Held (M : Core) (F : Fwd) (Y : Lay) (R : List Rs) : Prop where
  tr : ∀ i, i < 6 → tRow (Y.tv i) (M.tree i) ∈ R
  sn : ∀ i, i < 6 → sRow (Y.sv i) (F.seen i) ∈ R
  sc : ∀ i, i < 6 → (F.seen i).length ≤ (Y.sv i).2
  nx : ∀ i, i < 6 → nRow (Y.nv i) (F.next i) ∈ R
  bd : ∀ x ∈ Y.mail, bRow x ∈ R
  ml : M.mail = Y.mail.map (·.1)
theorem Picks.skip {L Lin L2 : List Rs} {x : Rs} (h : Picks L Lin L2) : Picks (x :: L) Lin (x :: L2) := by
  induction h with
  | nil => exact .nil
  | cons h1 _ ih => exact .cons (.there h1) ih
theorem zM2 {L Lin L2 : List Rs} (h : Picks L Lin L2 := by repeat (first | exact Picks.nil | exact zR | apply Picks.cons | exact Pick.here | apply Pick.there | apply Picks.skip)) : Picks L Lin L2 := h
section
variable {P : Program} {W0 : World} {gs : List Nat} {n : Nat} {E : List (Nat × Value)} {L : List Rs} {K : Act → World → Prop} {Q : Exit → Act → World → Prop}
/-- A piece has come to its end. -/
theorem VK.fin {X : Type} {φ : X → Prop} {Ef : X → List (Nat × Value)} {Lf : X → List Rs} {L2 : List Rs} (hn0 : ∀ z : X, φ z → VK W0 gs n K (Ef z) (Lf z)) (z : X) (hz : φ z)
    (he : Env E (Ef z) := by repeat (first | exact Env.nil | apply Env.cons rfl)) (hp : Picks L (Lf z) L2 := by repeat (first | exact Picks.nil | exact zR | apply Picks.cons | exact Pick.here | apply Pick.there | apply Picks.skip)) : VK W0 gs n K E L :=
  VK.picks hp (VK.keep he (hn0 z hz))
/-- A call that is handed what is owned of the mesh; what comes back stands behind what stays. -/
theorem O.callF {f : Operand} {xs : List Operand} {tys : Array TypeId} {k : FuncId} {vs : List Value} {Lin Lr : List Rs} {RO : World → Prop} {X : Type} {ψ : X → Prop} {rv : X → Value} {Lout : X → List Rs}
    {d : Nat} {t : TypeId} {pos : String} {after : Array Edge} {gd : Option (Nat × Bool)}
    (hk : okFunc P k = true) (hf : ev E f = some (.func (.func k) #[] #[])) (hxs : evs E xs = some vs) (hd : d < n) (hc : Does P k vs Lin RO ψ rv Lout) (hp : Picks L Lin Lr)
    (hro : ∀ W, Only gs W0 W → Own W L → RO W) (h : ∀ x, ψ x → VK W0 gs n K ((d, rv x) :: E) (Lr ++ Lout x)) :
    VO P W0 gs n Q ⟨some d, .call ⟨.value f, xs.toArray, tys⟩, t, pos, after, gd⟩ K E L :=
  O.call (first := []) (capt := []) (vs := vs) (Lin := Lin) (Lr := Lr) (by simpa using hc) hk hf hxs hd hp.perm hro fun x hx => VK.perm List.perm_append_comm (h x hx)
end

end Go.Proofs.YtencghlmckbmlaaGreat
