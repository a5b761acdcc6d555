/- Forwarding in the mesh: plain facts, and the contracts of package forward in the words of the mesh. Conditions: those that each bears. -/
import Derived.Test.YtencghlmckbmlaaGreatRows
import Derived.Test.YtencghlmckbmlaaGreatZArr
namespace Go.Proofs.YtencghlmckbmlaaGreat
open Go Go.RowKit Go.Sx
set_option maxRecDepth 100000



open Go.Mesh
structure FInv (n : Nat) (M : Core) (F : Fwd) : Prop where
  fs : ∀ i, F.fseq i ≤ n
  sn : ∀ i, i < 6 → ∀ m ∈ F.seen i, m.1 < 6 ∧ m.2 < F.fseq m.1
  nd : ∀ i, i < 6 → (F.seen i).Nodup
  ln : ∀ i, i < 6 → (F.seen i).length ≤ n
  nx : ∀ i, i < 6 → ∀ r, r < 2 → ∀ p, F.next i r = some p → i ≠ r ∧ p ≠ i ∧ p < 6 ∧ (M.tree i r).isSome = true
theorem FInv.ok {n : Nat} {M : Core} {F : Fwd} (h : FInv n M F) (hn : n ≤ 120) {i : Nat} (hi : i < 6) : FOk i (F.fseq i) (F.seen i) (lst (F.next i)) where
  own := hi
  sq := by have := h.fs i; omega
  ml := by have := h.ln i hi; omega
  md := h.nd i hi
  mv := fun m hm => by
    have h1 := (h.sn i hi m hm).2
    have h2 := h.fs m.1
    omega
  hl := lst_len _
  srt := lst_srt _
  hv := fun p hp => by
    obtain ⟨h1, h2⟩ := mem_lst.1 hp
    obtain ⟨h3, h4, h5, _⟩ := h.nx i hi p.1 h1 p.2 h2
    exact ⟨by omega, by omega, fun e => h3 e.symm, h4⟩
  h2 := fun p hp => (mem_lst.1 hp).1
theorem FInv.mono {n m : Nat} {M : Core} {F : Fwd} (h : FInv n M F) (hm : n ≤ m) : FInv m M F := ⟨fun i => Nat.le_trans (h.fs i) hm, h.sn, h.nd, fun i hi => Nat.le_trans (h.ln i hi) hm, h.nx⟩
theorem FInv.core {n : Nat} {M M' : Core} {F : Fwd} (h : FInv n M F) (hs : ∀ i r, (M.tree i r).isSome = true → (M'.tree i r).isSome = true) : FInv n M' F := ⟨h.fs, h.sn, h.nd, h.ln, fun i hi r hr p hp => by
  obtain ⟨a, b, c, d⟩ := h.nx i hi r hr p hp
  exact ⟨a, b, c, hs i r d⟩⟩

/-- the next hops, set for the first k nodes -/
def setN (M : Core) (F : Fwd) (r k : Nat) : Nat → Nat → Option Nat := fun i q => if q = r ∧ i < k then (match M.tree i r with | some t => some t.parent | none => F.next i r) else F.next i q
def setF (M : Core) (F : Fwd) (r k : Nat) : Fwd := { F with next := setN M F r k }
theorem setF_zero (M : Core) (F : Fwd) (r : Nat) : setF M F r 0 = F := by
  unfold setF
  have : setN M F r 0 = F.next := by
    funext i q
    simp [setN]
  rw [this]
theorem setF_none {M : Core} {F : Fwd} {r k : Nat} (h : M.tree k r = none) : setF M F r (k + 1) = setF M F r k := by
  unfold setF
  have : setN M F r (k + 1) = setN M F r k := by
    funext i q
    unfold setN
    by_cases e : i = k
    · subst e
      by_cases e2 : q = r
      · subst e2; simp [h]
      · simp [e2]
    · have : i < k + 1 ↔ i < k := by omega
      simp only [this]
  rw [this]
theorem setN_some {M : Core} {F : Fwd} {r k : Nat} {t : TreeV} (h : M.tree k r = some t) : setN M F r (k + 1) k = upd (setN M F r k k) r (some t.parent) := by
  funext q
  unfold setN upd
  by_cases e : q = r
  · subst e; simp [h]
  · simp [e]
theorem setN_other {M : Core} {F : Fwd} {r k j : Nat} (h : j ≠ k) : setN M F r (k + 1) j = setN M F r k j := by
  funext q
  unfold setN
  have : j < k + 1 ↔ j < k := by omega
  simp only [this]
theorem setF_inv {n k0 : Nat} {M : Core} {F : Fwd} (hI : Inv k0 M) (h : FInv n M F) {r : Nat} (hr : r < 2) (k : Nat) : FInv n M (setF M F r k) := ⟨h.fs, h.sn, h.nd, h.ln, fun i hi q hq p hp => by
  have hp : setN M F r k i q = some p := hp
  unfold setN at hp
  split at hp
  · rename_i e
    obtain ⟨rfl, _⟩ := e
    cases ht : M.tree i q with
    | some t =>
      rw [ht] at hp
      cases hp
      have ho := hI.tree i hi q hq t ht
      refine ⟨ho.ne, fun e => ?_, ho.par, rfl⟩
      have he := ho.edge
      rw [e, hI.cdiag] at he
      omega
    | none =>
      rw [ht] at hp
      have := (h.nx i hi q hq p hp).2.2.2
      rw [ht] at this
      cases this
  · exact h.nx i hi q hq p hp⟩
theorem setN_six {n : Nat} {M : Core} {F : Fwd} (h : FInv n M F) {r i : Nat} (hr : r < 2) (hi : i < 6) : setN M F r 6 i r = (M.tree i r).map (·.parent) := by
  unfold setN
  rw [if_pos ⟨rfl, hi⟩]
  cases ht : M.tree i r with
  | some t => rfl
  | none =>
    cases hf : F.next i r with
    | none => rfl
    | some p =>
      have := (h.nx i hi r hr p hf).2.2.2
      rw [ht] at this
      cases this

/-! the way of a frame -/
def cntT (M : Core) (r j : Nat) : Nat := match M.tree j r with | some t => cnt M r t.seq t.cost | none => 0
structure WalkI (M : Core) (r i st f a : Nat) (vis : Nat → Bool) : Prop where
  a6 : a < 6
  f6 : f < 6
  s4 : st ≤ 4
  vi : vis i = true
  vf : vis f = true
  vs : ∀ j, j < 6 → vis j = true → j ≠ r ∧ (a ≠ r → cntT M r a < cntT M r j)
  rk : a = r ∨ ((M.tree a r).isSome = true ∧ cntT M r a + st ≤ 5)
theorem WalkI.new {M : Core} {r i st f a : Nat} {vis : Nat → Bool} (h : WalkI M r i st f a vis) : vis a = false := by
  cases hv : vis a with
  | false => rfl
  | true =>
    obtain ⟨h1, h2⟩ := h.vs a h.a6 hv
    have := h2 h1
    omega
theorem WalkI.start {k : Nat} {M : Core} (hI : Inv k M) {r i : Nat} (hr : r < 2) (hi : i < 6) {t : TreeV} (ht : M.tree i r = some t) : WalkI M r i 0 i t.parent (fun j => j == i) := by
  have ho := hI.tree i hi r hr t ht
  have hc : cntT M r i = cnt M r t.seq t.cost := by simp [cntT, ht]
  have h6 := cnt_le M r t.seq t.cost
  refine ⟨ho.par, hi, Nat.zero_le _, by simp, by simp, fun j _ hj => ?_, ?_⟩
  · have hj : j = i := by simpa using hj
    subst hj
    refine ⟨ho.ne, fun hn => ?_⟩
    obtain ⟨u, hu, _⟩ := ho.parent hn
    have := ho.rank hu hn hi ht
    simp only [cntT, hu, ht]
    exact this
  · by_cases e : t.parent = r
    · exact .inl e
    · obtain ⟨u, hu, _⟩ := ho.parent e
      have := ho.rank hu e hi ht
      refine .inr ⟨by rw [hu]; rfl, ?_⟩
      simp only [cntT, hu]
      omega
theorem WalkI.next {k : Nat} {M : Core} (hI : Inv k M) {r i st f a : Nat} {vis : Nat → Bool} (hr : r < 2) (h : WalkI M r i st f a vis) (ha : a ≠ r) {t : TreeV} (ht : M.tree a r = some t) : WalkI M r i (st + 1) a t.parent (upd vis a true) := by
  have ho := hI.tree a h.a6 r hr t ht
  have hc : cntT M r a = cnt M r t.seq t.cost := by simp [cntT, ht]
  have h2 := cnt_two (by omega) h.a6 ha ht
  have hrk : cntT M r a + st ≤ 5 := by
    rcases h.rk with e | e
    · exact absurd e ha
    · exact e.2
  refine ⟨ho.par, h.a6, by omega, ?_, by simp [upd], fun j hj hv => ?_, ?_⟩
  · unfold upd
    split
    · rfl
    · exact h.vi
  · have key : j ≠ r ∧ cntT M r a ≤ cntT M r j := by
      unfold upd at hv
      split at hv
      · rename_i e
        subst e
        exact ⟨ha, Nat.le_refl _⟩
      · obtain ⟨h3, h4⟩ := h.vs j hj hv
        exact ⟨h3, Nat.le_of_lt (h4 ha)⟩
    refine ⟨key.1, fun hn => ?_⟩
    obtain ⟨u, hu, _⟩ := ho.parent hn
    have := ho.rank hu hn h.a6 ht
    have e : cntT M r t.parent = cnt M r u.seq u.cost := by simp [cntT, hu]
    omega
  · by_cases e : t.parent = r
    · exact .inl e
    · obtain ⟨u, hu, _⟩ := ho.parent e
      have := ho.rank hu e h.a6 ht
      refine .inr ⟨by rw [hu]; rfl, ?_⟩
      have e : cntT M r t.parent = cnt M r u.seq u.cost := by simp [cntT, hu]
      omega
/-- the nodes that have seen the frame -/
def visF (F : Fwd) (i : Nat) (vis : Nat → Bool) : Fwd := { F with fseq := upd F.fseq i (F.fseq i + 1), seen := fun j => bif vis j then F.seen j ++ [(i, F.fseq i)] else F.seen j }
theorem visF_inv {n : Nat} {M : Core} {F : Fwd} (h : FInv n M F) {i : Nat} (hi : i < 6) (vis : Nat → Bool) : FInv (n + 1) M (visF F i vis) := by
  have hle : ∀ j, F.fseq j ≤ (visF F i vis).fseq j := fun j => by
    show _ ≤ upd F.fseq i (F.fseq i + 1) j
    unfold upd
    split
    · rename_i e; subst e; omega
    · exact Nat.le_refl _
  have hfi : (visF F i vis).fseq i = F.fseq i + 1 := by simp [visF, upd]
  have hnew : ∀ j, j < 6 → (i, F.fseq i) ∉ F.seen j := fun j hj hm => by
    have := (h.sn j hj _ hm).2
    dsimp only at this
    omega
  refine ⟨fun j => ?_, fun j hj m hm => ?_, fun j hj => ?_, fun j hj => ?_, h.nx⟩
  · have h1 := h.fs j
    have h2 := h.fs i
    show upd F.fseq i (F.fseq i + 1) j ≤ _
    unfold upd
    split <;> omega
  · have hm : m ∈ (bif vis j then F.seen j ++ [(i, F.fseq i)] else F.seen j) := hm
    cases hv : vis j with
    | false =>
      rw [hv] at hm
      have := h.sn j hj m hm
      exact ⟨this.1, Nat.lt_of_lt_of_le this.2 (hle _)⟩
    | true =>
      rw [hv] at hm
      rcases List.mem_append.1 hm with hm | hm
      · have := h.sn j hj m hm
        exact ⟨this.1, Nat.lt_of_lt_of_le this.2 (hle _)⟩
      · simp only [List.mem_singleton] at hm
        subst hm
        exact ⟨hi, by rw [hfi]; exact Nat.lt_succ_self _⟩
  · show (bif vis j then F.seen j ++ [(i, F.fseq i)] else F.seen j).Nodup
    cases vis j with
    | false => exact h.nd j hj
    | true =>
      show (F.seen j ++ [(i, F.fseq i)]).Nodup
      rw [List.nodup_append]
      refine ⟨h.nd j hj, List.nodup_cons.2 ⟨by simp, List.nodup_nil⟩, fun a ha b hb e => ?_⟩
      simp only [List.mem_singleton] at hb
      subst hb
      subst e
      exact hnew j hj ha
  · have := h.ln j hj
    show (bif vis j then F.seen j ++ [(i, F.fseq i)] else F.seen j).length ≤ n + 1
    cases vis j with
    | false => exact Nat.le_succ_of_le this
    | true =>
      show (F.seen j ++ [(i, F.fseq i)]).length ≤ n + 1
      rw [List.length_append]
      simp
      omega
theorem vis_mark {n : Nat} {M : Core} {F : Fwd} (h : FInv n M F) {i j : Nat} (hj : j < 6) {vis : Nat → Bool} (hv : vis j = false) : (i, F.fseq i) ∉ (visF F i vis).seen j := by
  show (i, F.fseq i) ∉ (bif vis j then F.seen j ++ [(i, F.fseq i)] else F.seen j)
  rw [hv]
  intro hm
  have := (h.sn j hj _ hm).2
  dsimp only at this
  omega
theorem visF_seen {F : Fwd} {i a : Nat} {vis : Nat → Bool} (hv : vis a = false) : (visF F i (upd vis a true)).seen a = (visF F i vis).seen a ++ [(i, F.fseq i)] := by
  simp [visF, upd, hv]
theorem visF_other {F : Fwd} {i a j : Nat} {vis : Nat → Bool} (hj : j ≠ a) : (visF F i (upd vis a true)).seen j = (visF F i vis).seen j := by
  simp [visF, upd, hj]

theorem setnext2_c (o sq : Nat) (p1 : Option Addr × Nat) (ms : List (Nat × Nat)) (p2 : Option Addr × Nat) (fn : Nat → Option Nat) (hok : FOk o sq ms (lst fn)) (hc1 : ms.length ≤ p1.2) (d nx : Nat) (hd : d < 2) (hdo : d ≠ o) (hno : nx ≠ o) :
    Does Tryz.prog 46 [.agg #[.int .u8 2, .int .u8 0, .int .u8 0, .int .u8 0, .int .u8 2, .int .u8 (o : Int), .int .i64 (sq : Int), .slice p1.1 ms.length p1.2, .slice p2.1 (lst fn).length p2.2], .agg #[.int .u8 2, .int .u8 0, .int .u8 0, .int .u8 0, .int .u8 2, .int .u8 (d : Int)], .agg #[.int .u8 2, .int .u8 0, .int .u8 0, .int .u8 0, .int .u8 2, .int .u8 (nx : Int)]] [] (fun W => Rd W p1.1 (ms.flatMap markC) ∧ Rd W p2.1 ((lst fn).flatMap hopC)) (X := (Option Addr × Nat) × (Option Addr × Nat)) (fun x => ms.length ≤ x.1.2) (fun x => .tuple #[.agg #[.int .u8 2, .int .u8 0, .int .u8 0, .int .u8 0, .int .u8 2, .int .u8 (o : Int), .int .i64 (sq : Int), .slice x.1.1 ms.length x.1.2, .slice x.2.1 (lst (upd fn d (some nx))).length x.2.2], .int .i64 0]) (fun x => [sRow x.1 ms, nRow x.2 (upd fn d (some nx))]) := by
  refine (setnext_c o sq p1.1 p1.2 ms p2.1 p2.2 (lst fn) hok hc1 d nx hd hdo hno).mono (fun _ h => h) ?_
  rintro ⟨i, kn, a1, b1, a2, b2⟩ ⟨hb, h1⟩
  dsimp only at hb h1
  have hl := newL_len (lst fn) i kn (d, nx) hb.len
  rw [lst_new hd hb] at hl
  refine ⟨((a1, b1), (a2, b2)), h1, ?_, ?_⟩
  · dsimp only
    rw [← hl]
  · dsimp only
    rw [← hl, lst_new hd hb]
    exact List.Sublist.refl _

theorem send2_c (o sq : Nat) (p1 : Option Addr × Nat) (ms : List (Nat × Nat)) (p2 : Option Addr × Nat) (fn : Nat → Option Nat) (hok : FOk o sq ms (lst fn)) (hc1 : ms.length ≤ p1.2) (p : Option Addr) (m c : Nat) (l : List UInt8) (hl : l.length = m) (hm : m ≤ 2264) (lv : Nat) (hlv : lv < 2) (hlo : lv ≠ o) (hmk : (o, sq) ∉ ms) (hs1 : sq + 1 < 65536) :
    Does Tryz.prog 47 [.agg #[.int .u8 2, .int .u8 0, .int .u8 0, .int .u8 0, .int .u8 2, .int .u8 (o : Int), .int .i64 (sq : Int), .slice p1.1 ms.length p1.2, .slice p2.1 (lst fn).length p2.2], .agg #[.int .u8 2, .int .u8 0, .int .u8 0, .int .u8 0, .int .u8 2, .int .u8 (lv : Int)], .agg #[.int .u8 2, .int .u8 0, .int .u8 0, .int .u8 0, .int .u8 2, .int .u8 (o : Int)], .agg #[.int .u8 2, .int .u8 9, .int .u8 9, .int .u8 9, .int .u8 9, .int .u8 9], .slice p m c] [] (fun W => (Rd W p1.1 (ms.flatMap markC) ∧ Rd W p2.1 ((lst fn).flatMap hopC)) ∧ Rd W p (bs l)) (X := Option (Nat × ((Option Addr × Nat) × ((Option Addr × Nat) × (Option Addr × Nat))))) (fun x => match x with | none => fn lv = none | some y => fn lv = some y.1 ∧ (ms ++ [(o, sq)]).length ≤ y.2.1.2 ∧ m ≤ y.2.2.2.2)
      (fun x => match x with | none => .tuple #[.agg #[.int .u8 0, .int .u8 0, .int .u8 0, .int .u8 0, .int .u8 0, .int .u8 0, .int .i64 0, .slice none 0 0, .slice none 0 0], .agg #[.int .u8 0, .int .u8 0, .int .u8 0, .int .u8 0, .int .u8 0, .int .u8 0, .int .u8 0, .int .u8 0, .int .u8 0, .int .u8 0, .int .u8 0, .int .u8 0, .int .u8 0, .int .u8 0, .int .u8 0, .int .u8 0, .int .u8 0, .int .u8 0, .int .u8 0, .int .u8 0, .int .u8 0, .int .u8 0, .int .u8 0, .int .u8 0, .int .u8 0, .int .u8 0, .int .u8 0, .int .u8 0, .int .u8 0, .int .u8 0, .int .u8 0, .int .u8 0, .int .u8 0, .int .u8 0, .int .u8 0, .int .u8 0, .int .i64 0, .int .i64 0, .slice none 0 0], .int .i64 6] | some y => .tuple #[.agg #[.int .u8 2, .int .u8 0, .int .u8 0, .int .u8 0, .int .u8 2, .int .u8 (o : Int), .int .i64 ((sq + 1 : Nat) : Int), .slice y.2.1.1 (ms ++ [(o, sq)]).length y.2.1.2, .slice y.2.2.1.1 (lst fn).length y.2.2.1.2], .agg #[.int .u8 2, .int .u8 0, .int .u8 0, .int .u8 0, .int .u8 2, .int .u8 (o : Int), .int .u8 2, .int .u8 0, .int .u8 0, .int .u8 0, .int .u8 2, .int .u8 (y.1 : Int), .int .u8 2, .int .u8 0, .int .u8 0, .int .u8 0, .int .u8 2, .int .u8 (o : Int), .int .u8 2, .int .u8 0, .int .u8 0, .int .u8 0, .int .u8 2, .int .u8 (lv : Int), .int .u8 2, .int .u8 0, .int .u8 0, .int .u8 0, .int .u8 2, .int .u8 (o : Int), .int .u8 2, .int .u8 9, .int .u8 9, .int .u8 9, .int .u8 9, .int .u8 9, .int .i64 (sq : Int), .int .i64 (31 : Int), .slice y.2.2.2.1 m y.2.2.2.2], .int .i64 0])
      (fun x => match x with | none => [] | some y => [sRow y.2.1 (ms ++ [(o, sq)]), nRow y.2.2.1 fn, .row (.slice y.2.2.2.1 m y.2.2.2.2) 5 1 m (bs l)]) := by
  refine (send_c o sq p1.1 p1.2 ms p2.1 p2.2 (lst fn) hok hc1 p m c l hl hm lv hlo hmk hs1).mono (fun _ h => h) ?_
  have hlen : (ms ++ [(o, sq)]).length = ms.length + 1 := by simp
  intro x hx
  cases x with
  | none =>
    refine ⟨none, ?_, rfl, List.Sublist.refl _⟩
    show fn lv = none
    cases hf : fn lv with
    | none => rfl
    | some v => exact absurd rfl (hx (lv, v) (mem_lst.2 ⟨hlv, hf⟩))
  | some y =>
    obtain ⟨v, a1, b1, a2, b2, a3, b3⟩ := y
    obtain ⟨h1, h2, h3⟩ := hx
    refine ⟨some (v, (a1, b1), (a2, b2), (a3, b3)), ⟨(mem_lst.1 h1).2, by rw [hlen]; exact h2, h3⟩, ?_, ?_⟩
    · dsimp only
      rw [hlen]
    · dsimp only
      unfold sRow
      rw [hlen]
      exact List.Sublist.refl _

inductive RW where
  | drop (q1 q2 : Option Addr × Nat)
  | here (q1 q2 qd : Option Addr × Nat)
  | fwd (v : Nat) (q1 q2 qd : Option Addr × Nat)
def RWOk (o e q lv m : Nat) (ms : List (Nat × Nat)) (fn : Nat → Option Nat) : RW → Prop
  | .drop q1 _ => (e, q) ∈ ms ∧ ms.length ≤ q1.2
  | .here q1 _ qd => (e, q) ∉ ms ∧ lv = o ∧ (ms ++ [(e, q)]).length ≤ q1.2 ∧ m ≤ qd.2
  | .fwd v q1 _ qd => (e, q) ∉ ms ∧ lv ≠ o ∧ fn lv = some v ∧ (ms ++ [(e, q)]).length ≤ q1.2 ∧ m ≤ qd.2
theorem receive2_c (o sq : Nat) (p1 : Option Addr × Nat) (ms : List (Nat × Nat)) (p2 : Option Addr × Nat) (fn : Nat → Option Nat) (hok : FOk o sq ms (lst fn)) (hc1 : ms.length ≤ p1.2) (p : Option Addr) (m c : Nat) (l : List UInt8) (hl : l.length = m) (hm : m ≤ 2264) (f e lv q ttl : Nat) (hfo : f ≠ o) (heo : e ≠ o) (hq : q < 65536) (ht1 : 1 ≤ ttl ∧ ttl ≤ 31) (hml5 : ms.length ≤ 125) (hlv : lv < 2) (hfw : lv ≠ o → 2 ≤ ttl ∧ (fn lv).isSome = true) :
    Does Tryz.prog 50 [.agg #[.int .u8 2, .int .u8 0, .int .u8 0, .int .u8 0, .int .u8 2, .int .u8 (o : Int), .int .i64 (sq : Int), .slice p1.1 ms.length p1.2, .slice p2.1 (lst fn).length p2.2], .agg #[.int .u8 2, .int .u8 0, .int .u8 0, .int .u8 0, .int .u8 2, .int .u8 (f : Int), .int .u8 2, .int .u8 0, .int .u8 0, .int .u8 0, .int .u8 2, .int .u8 (o : Int), .int .u8 2, .int .u8 0, .int .u8 0, .int .u8 0, .int .u8 2, .int .u8 (e : Int), .int .u8 2, .int .u8 0, .int .u8 0, .int .u8 0, .int .u8 2, .int .u8 (lv : Int), .int .u8 2, .int .u8 0, .int .u8 0, .int .u8 0, .int .u8 2, .int .u8 (e : Int), .int .u8 2, .int .u8 9, .int .u8 9, .int .u8 9, .int .u8 9, .int .u8 9, .int .i64 (q : Int), .int .i64 (ttl : Int), .slice p m c]] [] (fun W => (Rd W p1.1 (ms.flatMap markC) ∧ Rd W p2.1 ((lst fn).flatMap hopC)) ∧ Rd W p (bs l)) (X := RW) (fun x => RWOk o e q lv m ms fn x)
      (fun x => match x with | .drop q1 q2 => .tuple #[.agg #[.int .u8 2, .int .u8 0, .int .u8 0, .int .u8 0, .int .u8 2, .int .u8 (o : Int), .int .i64 (sq : Int), .slice q1.1 ms.length q1.2, .slice q2.1 (lst fn).length q2.2], .int .u8 0, .agg #[.int .u8 0, .int .u8 0, .int .u8 0, .int .u8 0, .int .u8 0, .int .u8 0, .int .u8 0, .int .u8 0, .int .u8 0, .int .u8 0, .int .u8 0, .int .u8 0, .int .u8 0, .int .u8 0, .int .u8 0, .int .u8 0, .int .u8 0, .int .u8 0, .int .u8 0, .int .u8 0, .int .u8 0, .int .u8 0, .int .u8 0, .int .u8 0, .int .u8 0, .int .u8 0, .int .u8 0, .int .u8 0, .int .u8 0, .int .u8 0, .int .u8 0, .int .u8 0, .int .u8 0, .int .u8 0, .int .u8 0, .int .u8 0, .int .i64 0, .int .i64 0, .slice none 0 0], .int .i64 0] | .here q1 q2 qd => .tuple #[.agg #[.int .u8 2, .int .u8 0, .int .u8 0, .int .u8 0, .int .u8 2, .int .u8 (o : Int), .int .i64 (sq : Int), .slice q1.1 (ms ++ [(e, q)]).length q1.2, .slice q2.1 (lst fn).length q2.2], .int .u8 1, .agg #[.int .u8 2, .int .u8 0, .int .u8 0, .int .u8 0, .int .u8 2, .int .u8 (f : Int), .int .u8 2, .int .u8 0, .int .u8 0, .int .u8 0, .int .u8 2, .int .u8 (o : Int), .int .u8 2, .int .u8 0, .int .u8 0, .int .u8 0, .int .u8 2, .int .u8 (e : Int), .int .u8 2, .int .u8 0, .int .u8 0, .int .u8 0, .int .u8 2, .int .u8 (lv : Int), .int .u8 2, .int .u8 0, .int .u8 0, .int .u8 0, .int .u8 2, .int .u8 (e : Int), .int .u8 2, .int .u8 9, .int .u8 9, .int .u8 9, .int .u8 9, .int .u8 9, .int .i64 (q : Int), .int .i64 (ttl : Int), .slice qd.1 m qd.2], .int .i64 0] | .fwd v q1 q2 qd => .tuple #[.agg #[.int .u8 2, .int .u8 0, .int .u8 0, .int .u8 0, .int .u8 2, .int .u8 (o : Int), .int .i64 (sq : Int), .slice q1.1 (ms ++ [(e, q)]).length q1.2, .slice q2.1 (lst fn).length q2.2], .int .u8 2, .agg #[.int .u8 2, .int .u8 0, .int .u8 0, .int .u8 0, .int .u8 2, .int .u8 (o : Int), .int .u8 2, .int .u8 0, .int .u8 0, .int .u8 0, .int .u8 2, .int .u8 (v : Int), .int .u8 2, .int .u8 0, .int .u8 0, .int .u8 0, .int .u8 2, .int .u8 (e : Int), .int .u8 2, .int .u8 0, .int .u8 0, .int .u8 0, .int .u8 2, .int .u8 (lv : Int), .int .u8 2, .int .u8 0, .int .u8 0, .int .u8 0, .int .u8 2, .int .u8 (e : Int), .int .u8 2, .int .u8 9, .int .u8 9, .int .u8 9, .int .u8 9, .int .u8 9, .int .i64 (q : Int), .int .i64 ((ttl - 1 : Nat) : Int), .slice qd.1 m qd.2], .int .i64 0])
      (fun x => match x with | .drop q1 q2 => [sRow q1 ms, nRow q2 fn] | .here q1 q2 qd => [sRow q1 (ms ++ [(e, q)]), nRow q2 fn, .row (.slice qd.1 m qd.2) 5 1 m (bs l)] | .fwd _ q1 q2 qd => [sRow q1 (ms ++ [(e, q)]), nRow q2 fn, .row (.slice qd.1 m qd.2) 5 1 m (bs l)]) := by
  refine (receive_c o sq p1.1 p1.2 ms p2.1 p2.2 (lst fn) hok hc1 p m c l hl hm f e lv q ttl hfo heo hq ht1 hml5 (fun h => by
    obtain ⟨h1, h2⟩ := hfw h
    obtain ⟨v, hv⟩ := Option.isSome_iff_exists.1 h2
    exact ⟨h1, (lv, v), mem_lst.2 ⟨hlv, hv⟩, rfl⟩)).mono (fun _ h => h) ?_
  have hlen : (ms ++ [(e, q)]).length = ms.length + 1 := by simp
  intro x hx
  cases x with
  | drop a1 b1 a2 b2 => exact ⟨.drop (a1, b1) (a2, b2), hx, rfl, List.Sublist.refl _⟩
  | here a1 b1 a2 b2 a3 b3 =>
    obtain ⟨h1, h2, h3, h4⟩ := hx
    refine ⟨.here (a1, b1) (a2, b2) (a3, b3), ⟨h1, h2, by rw [hlen]; exact h3, h4⟩, ?_, ?_⟩
    · dsimp only
      rw [hlen]
    · dsimp only
      unfold sRow
      rw [hlen]
      exact List.Sublist.refl _
  | fwd v a1 b1 a2 b2 a3 b3 =>
    obtain ⟨h1, h2, h3, h4, h5⟩ := hx
    refine ⟨.fwd v (a1, b1) (a2, b2) (a3, b3), ⟨h1, h2, (mem_lst.1 h3).2, by rw [hlen]; exact h4, h5⟩, ?_, ?_⟩
    · dsimp only
      rw [hlen]
    · dsimp only
      unfold sRow
      rw [hlen]
      exact List.Sublist.refl _

end Go.Proofs.YtencghlmckbmlaaGreat
