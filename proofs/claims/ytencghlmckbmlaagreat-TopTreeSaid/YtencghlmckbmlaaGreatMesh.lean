/- The plain law of the mesh of TopTree: announcements, trees, the cheapest ways. Conditions: none; nothing of a program stands here. -/
import Derived.Test.YtencghlmckbmlaaGreatSeq
namespace Go.Mesh

/-- What a node knows of a root. -/
structure TreeV where
  parent : Nat
  seq : Nat
  hops : Nat
  cost : Nat
  till : Nat

/-- An announcement on its way. -/
structure Word where
  src : Nat
  dst : Nat
  root : Nat
  seq : Nat
  hops : Nat
  cost : Nat

structure Core where
  cost : Nat → Nat → Nat
  rseq : Nat → Nat
  tree : Nat → Nat → Option TreeV
  mail : List Word
  now : Nat

/-- the greatest cost of a link -/
def CM : Nat := 1000000000

def upd {α : Type} (f : Nat → α) (i : Nat) (v : α) : Nat → α := fun j => if j = i then v else f j
def upd2 {α : Type} (f : Nat → Nat → α) (i r : Nat) (v : α) : Nat → Nat → α := fun j q => if j = i ∧ q = r then v else f j q

def good (t : TreeV) (s c : Nat) : Bool := decide (s < t.seq) || (decide (s = t.seq) && decide (t.cost ≤ c))
def knows (m : Core) (r s c i : Nat) : Bool := (i == r) || match m.tree i r with | some t => good t s c | none => false
def cnt (m : Core) (r s c : Nat) : Nat := (List.range 6).countP (knows m r s c)

theorem good_iff {t : TreeV} {s c : Nat} : good t s c = true ↔ (s < t.seq ∨ (s = t.seq ∧ t.cost ≤ c)) := by simp [good]
theorem knows_root (m : Core) (r s c : Nat) : knows m r s c r = true := by simp [knows]
theorem knows_tree {m : Core} {r s c i : Nat} {t : TreeV} (h : m.tree i r = some t) (hg : s < t.seq ∨ (s = t.seq ∧ t.cost ≤ c)) : knows m r s c i = true := by
  simp [knows, h, good_iff.2 hg]
theorem knows_cases {m : Core} {r s c i : Nat} (h : knows m r s c i = true) : i = r ∨ ∃ t, m.tree i r = some t ∧ (s < t.seq ∨ (s = t.seq ∧ t.cost ≤ c)) := by
  unfold knows at h
  cases ht : m.tree i r with
  | none => simp [ht] at h; exact .inl h
  | some t =>
    simp only [ht, Bool.or_eq_true, beq_iff_eq] at h
    rcases h with h | h
    · exact .inl h
    · exact .inr ⟨t, rfl, good_iff.1 h⟩
theorem knows_more {m : Core} {r s c s' c' i : Nat} (h : knows m r s c i = true) (hs : s' < s ∨ (s' = s ∧ c ≤ c')) : knows m r s' c' i = true := by
  rcases knows_cases h with h | ⟨t, ht, hg⟩
  · subst h; exact knows_root _ _ _ _
  · exact knows_tree ht (by omega)

def spreadW (m : Core) (i r s h c : Nat) : List Word := ((List.range 6).filter fun j => decide (0 < m.cost i j)).map fun j => ⟨i, j, r, s, h, c⟩

structure TreeOk (m : Core) (i r : Nat) (t : TreeV) : Prop where
  ne : i ≠ r
  par : t.parent < 6
  edge : 0 < m.cost i t.parent
  seq1 : 1 ≤ t.seq
  seqr : t.seq ≤ m.rseq r
  hops1 : 1 ≤ t.hops
  hops : t.hops + 1 ≤ cnt m r t.seq t.cost
  cost : t.cost ≤ t.hops * CM
  till : t.till ≤ 1099516627776
  up : ∃ c0, t.cost = c0 + m.cost i t.parent ∧ knows m r t.seq c0 t.parent = true

structure WordOk (m : Core) (w : Word) : Prop where
  src : w.src < 6
  dst : w.dst < 6
  edge : 0 < m.cost w.src w.dst
  root : w.root < 2
  seq1 : 1 ≤ w.seq
  seqr : w.seq ≤ m.rseq w.root
  cost : w.cost ≤ w.hops * CM
  hops : w.hops + 1 ≤ cnt m w.root w.seq w.cost
  sure : knows m w.root w.seq w.cost w.src = true

structure Inv (k : Nat) (m : Core) : Prop where
  csym : ∀ i j, m.cost i j = m.cost j i
  cdiag : ∀ i, m.cost i i = 0
  cmax : ∀ i j, m.cost i j ≤ CM
  tree : ∀ i, i < 6 → ∀ r, r < 2 → ∀ t, m.tree i r = some t → TreeOk m i r t
  mail : ∀ w ∈ m.mail, WordOk m w
  spr : ∀ i, i < 6 → ∀ r, r < 2 → ∀ t, m.tree i r = some t → ∀ j, j < 6 → 0 < m.cost i j → (⟨i, j, r, t.seq, t.hops, t.cost⟩ : Word) ∈ m.mail
  roots : ∀ r, r < 2 → 0 < m.rseq r → ∀ j, j < 6 → 0 < m.cost r j → (⟨r, j, r, m.rseq r, 0, 0⟩ : Word) ∈ m.mail
  rs : ∀ i, m.rseq i ≤ k
  now : m.now ≤ k * 1000000

/-- Nothing gets worse. -/
structure Imp (m m' : Core) : Prop where
  cost : m'.cost = m.cost
  rseq : ∀ r, m.rseq r ≤ m'.rseq r
  knows : ∀ r s c i, knows m r s c i = true → knows m' r s c i = true

theorem Imp.cnt {m m' : Core} (h : Imp m m') (r s c : Nat) : cnt m r s c ≤ cnt m' r s c := List.countP_mono_left fun i _ hi => h.knows r s c i hi
theorem cnt_le (m : Core) (r s c : Nat) : cnt m r s c ≤ 6 := by
  have := List.countP_le_length (p := knows m r s c) (l := List.range 6)
  simpa [cnt] using this
theorem countP_lt {p q : Nat → Bool} : ∀ {l : List Nat}, (∀ i ∈ l, p i = true → q i = true) → (∃ i ∈ l, q i = true ∧ p i = false) → l.countP p < l.countP q
  | [], _, ⟨i, hi, _⟩ => by cases hi
  | a :: l, h, ⟨i, hi, hq, hp⟩ => by
    have hl : ∀ i ∈ l, p i = true → q i = true := fun i hi => h i (by simp [hi])
    have hle := List.countP_mono_left (l := l) hl
    rw [List.countP_cons, List.countP_cons]
    rcases List.mem_cons.1 hi with rfl | hi
    · simp [hq, hp]; omega
    · have ih := countP_lt hl ⟨i, hi, hq, hp⟩
      by_cases hpa : p a = true
      · have := h a (by simp) hpa
        simp [hpa, this]; omega
      · simp [hpa]; omega
theorem TreeOk.imp {m m' : Core} (h : Imp m m') {i r : Nat} {t : TreeV} (k : TreeOk m i r t) : TreeOk m' i r t := by
  obtain ⟨c0, h1, h2⟩ := k.up
  exact ⟨k.ne, k.par, by rw [h.cost]; exact k.edge, k.seq1, Nat.le_trans k.seqr (h.rseq r), k.hops1, Nat.le_trans k.hops (h.cnt _ _ _), k.cost, k.till, c0, by rw [h.cost]; exact h1, h.knows _ _ _ _ h2⟩
theorem WordOk.imp {m m' : Core} (h : Imp m m') {w : Word} (k : WordOk m w) : WordOk m' w :=
  ⟨k.src, k.dst, by rw [h.cost]; exact k.edge, k.root, k.seq1, Nat.le_trans k.seqr (h.rseq _), k.cost, Nat.le_trans k.hops (h.cnt _ _ _), h.knows _ _ _ _ k.sure⟩

theorem mem_spread {m : Core} {i r s h c : Nat} {w : Word} (hw : w ∈ spreadW m i r s h c) : ∃ j, j < 6 ∧ 0 < m.cost i j ∧ w = ⟨i, j, r, s, h, c⟩ := by
  simp only [spreadW, List.mem_map, List.mem_filter, List.mem_range, decide_eq_true_eq] at hw
  obtain ⟨j, ⟨h1, h2⟩, rfl⟩ := hw
  exact ⟨j, h1, h2, rfl⟩
theorem spread_mem {m : Core} {i r s h c j : Nat} (hj : j < 6) (hc : 0 < m.cost i j) : (⟨i, j, r, s, h, c⟩ : Word) ∈ spreadW m i r s h c := by
  simp only [spreadW, List.mem_map, List.mem_filter, List.mem_range, decide_eq_true_eq]
  exact ⟨j, ⟨hj, hc⟩, rfl⟩

/-- A root announces itself. -/
def ann (m : Core) (r : Nat) : Core := { m with rseq := upd m.rseq r (m.rseq r + 1), mail := m.mail ++ spreadW m r r (m.rseq r + 1) 0 0 }
theorem ann_imp (m : Core) (r : Nat) : Imp m (ann m r) := ⟨rfl, fun q => by simp only [ann, upd]; split <;> rename_i e <;> first | (subst e; omega) | omega, fun _ _ _ _ h => h⟩
theorem cnt_root (m : Core) {r : Nat} (hr : r < 6) (s c : Nat) : 1 ≤ cnt m r s c := by
  unfold cnt
  exact List.countP_pos_iff.2 ⟨r, by simpa using hr, knows_root _ _ _ _⟩
theorem Inv.ann {k : Nat} {m : Core} (h : Inv k m) {r : Nat} (hr : r < 2) : Inv (k + 1) (ann m r) := by
  have hi := ann_imp m r
  refine ⟨h.csym, h.cdiag, h.cmax, fun i hi' q hq t ht => (h.tree i hi' q hq t ht).imp hi, ?_, ?_, ?_, ?_, ?_⟩
  · intro w hw
    rcases List.mem_append.1 hw with hw | hw
    · exact (h.mail w hw).imp hi
    · obtain ⟨j, hj, hc, rfl⟩ := mem_spread hw
      exact ⟨by show r < 6; omega, hj, hc, hr, by show 1 ≤ m.rseq r + 1; omega, by simp [Mesh.ann, upd], by simp, cnt_root _ (by show r < 6; omega) _ _, knows_root _ _ _ _⟩
  · intro i hi' q hq t ht j hj hc
    exact List.mem_append_left _ (h.spr i hi' q hq t ht j hj hc)
  · intro q hq h0 j hj hc
    by_cases e : q = r
    · subst e
      have e2 : (Mesh.ann m q).rseq q = m.rseq q + 1 := by simp [Mesh.ann, upd]
      rw [e2]
      exact List.mem_append_right _ (spread_mem hj hc)
    · have e2 : (Mesh.ann m r).rseq q = m.rseq q := by simp [Mesh.ann, upd, e]
      rw [e2] at h0 ⊢
      exact List.mem_append_left _ (h.roots q hq h0 j hj hc)
  · intro i
    have := h.rs i
    have := h.rs r
    simp only [Mesh.ann, upd]
    split <;> omega
  · have hn := h.now
    have e : (Mesh.ann m r).now = m.now := rfl
    rw [e, Nat.succ_mul]
    exact Nat.le_trans hn (Nat.le_add_right _ _)

/-- An announcement is taken. -/
def wc (m : Core) (w : Word) : Nat := w.cost + m.cost w.src w.dst
def newT (m : Core) (w : Word) : TreeV := ⟨w.src, w.seq, w.hops + 1, wc m w, m.now + 5000000⟩
def acc (m : Core) (w : Word) : Core := { m with tree := upd2 m.tree w.dst w.root (some (newT m w)), mail := m.mail ++ spreadW m w.dst w.root w.seq (w.hops + 1) (wc m w) }
def stale (m : Core) (w : Word) : Bool := knows m w.root w.seq (wc m w) w.dst
def arr (m : Core) (w : Word) : Core := if stale m w = true then m else acc m w

theorem acc_imp {m : Core} {w : Word} (hs : stale m w = false) : Imp m (acc m w) := by
  refine ⟨rfl, fun _ => Nat.le_refl _, fun r s c i h => ?_⟩
  rcases knows_cases h with h | ⟨t, ht, hg⟩
  · subst h; exact knows_root _ _ _ _
  · by_cases e : i = w.dst ∧ r = w.root
    · obtain ⟨rfl, rfl⟩ := e
      refine knows_tree (t := newT m w) (by simp [acc, upd2]) ?_
      show s < w.seq ∨ s = w.seq ∧ wc m w ≤ c
      have hn : ¬ (w.seq < t.seq ∨ (w.seq = t.seq ∧ t.cost ≤ wc m w)) := fun hg' => by
        rw [stale, knows_tree ht hg'] at hs
        cases hs
      omega
    · exact knows_tree (t := t) (by simp only [acc, upd2]; rw [if_neg e]; exact ht) hg

theorem Inv.acc {k : Nat} {m : Core} (h : Inv k m) {w : Word} (hw : w ∈ m.mail) (hs : stale m w = false) (hk : k ≤ 1000000) : Inv k (acc m w) := by
  have hi := acc_imp hs
  have ow := h.mail w hw
  have hne : w.dst ≠ w.root := fun e => by
    rw [stale, ← e, knows_root] at hs
    cases hs
  have hcm := h.cmax w.src w.dst
  have hmul : (w.hops + 1) * CM = w.hops * CM + CM := Nat.succ_mul _ _
  have hcost := ow.cost
  have hedge := ow.edge
  have hcnt : w.hops + 1 + 1 ≤ cnt (Mesh.acc m w) w.root w.seq (wc m w) := by
    refine Nat.lt_of_le_of_lt ow.hops (countP_lt (fun i _ hk => ?_) ⟨w.dst, by simpa using ow.dst, ?_, ?_⟩)
    · exact knows_more (hi.knows _ _ _ _ hk) (.inr ⟨rfl, by unfold wc; omega⟩)
    · exact knows_tree (t := newT m w) (by simp [Mesh.acc, upd2]) (.inr ⟨rfl, Nat.le_refl _⟩)
    · cases hkn : knows m w.root w.seq w.cost w.dst with
      | false => rfl
      | true =>
        have := knows_more (s' := w.seq) (c' := wc m w) hkn (.inr ⟨rfl, by unfold wc; omega⟩)
        rw [stale, this] at hs
        cases hs
  have hnew : TreeOk (Mesh.acc m w) w.dst w.root (newT m w) := by
    refine ⟨hne, ow.src, ?_, ow.seq1, ow.seqr, by simp [newT], hcnt, ?_, ?_, w.cost, ?_, hi.knows _ _ _ _ ow.sure⟩
    · show 0 < m.cost w.dst w.src
      rw [h.csym]; exact hedge
    · show w.cost + m.cost w.src w.dst ≤ (w.hops + 1) * CM
      omega
    · have hn := h.now
      have e : (newT m w).till = m.now + 5000000 := rfl
      rw [e]
      omega
    · show w.cost + m.cost w.src w.dst = w.cost + m.cost w.dst w.src
      rw [h.csym w.src]
  refine ⟨h.csym, h.cdiag, h.cmax, ?_, ?_, ?_, ?_, h.rs, h.now⟩
  · intro i hi' q hq t ht
    by_cases e : i = w.dst ∧ q = w.root
    · obtain ⟨rfl, rfl⟩ := e
      have e2 : some (newT m w) = some t := by rw [← ht]; simp [Mesh.acc, upd2]
      cases e2
      exact hnew
    · have e2 : m.tree i q = some t := by rw [← ht]; simp only [Mesh.acc, upd2]; rw [if_neg e]
      exact (h.tree i hi' q hq t e2).imp hi
  · intro v hv
    rcases List.mem_append.1 hv with hv | hv
    · exact (h.mail v hv).imp hi
    · obtain ⟨j, hj, hc, rfl⟩ := mem_spread hv
      exact ⟨ow.dst, hj, hc, ow.root, ow.seq1, ow.seqr, hnew.cost, hcnt, knows_tree (t := newT m w) (by simp [Mesh.acc, upd2]) (.inr ⟨rfl, Nat.le_refl _⟩)⟩
  · intro i hi' q hq t ht j hj hc
    by_cases e : i = w.dst ∧ q = w.root
    · obtain ⟨rfl, rfl⟩ := e
      have e2 : some (newT m w) = some t := by rw [← ht]; simp [Mesh.acc, upd2]
      cases e2
      exact List.mem_append_right _ (spread_mem hj hc)
    · have e2 : m.tree i q = some t := by rw [← ht]; simp only [Mesh.acc, upd2]; rw [if_neg e]
      exact List.mem_append_left _ (h.spr i hi' q hq t e2 j hj hc)
  · intro q hq h0 j hj hc
    exact List.mem_append_left _ (h.roots q hq h0 j hj hc)

theorem Inv.arr {k : Nat} {m : Core} (h : Inv k m) {w : Word} (hw : w ∈ m.mail) (hk : k ≤ 1000000) : Inv k (arr m w) := by
  unfold Mesh.arr
  cases hs : stale m w with
  | true => simpa using h
  | false => simpa using h.acc hw hs hk
theorem arr_imp (m : Core) (w : Word) : Imp m (arr m w) := by
  unfold arr
  cases hs : stale m w with
  | true => exact ⟨rfl, fun _ => Nat.le_refl _, fun _ _ _ _ h => h⟩
  | false => exact acc_imp hs
theorem arr_done (m : Core) (w : Word) : stale (arr m w) w = true := by
  unfold arr
  cases hs : stale m w with
  | true => simpa using hs
  | false =>
    refine knows_tree (t := newT m w) (by simp [acc, upd2]) (.inr ⟨rfl, Nat.le_refl _⟩)
theorem Imp.stale {m m' : Core} (h : Imp m m') {w : Word} (hs : stale m w = true) : stale m' w = true := by
  have : wc m' w = wc m w := by unfold wc; rw [h.cost]
  unfold Mesh.stale
  rw [this]
  exact h.knows _ _ _ _ hs
theorem arr_mail (m : Core) (w : Word) : ∃ l, (arr m w).mail = m.mail ++ l := by
  unfold arr
  split
  · exact ⟨[], by simp⟩
  · exact ⟨_, rfl⟩

/-! parents -/
theorem TreeOk.rank {m : Core} {i r : Nat} {t : TreeV} (h : TreeOk m i r t) {u : TreeV} (hu : m.tree t.parent r = some u) (hn : t.parent ≠ r) (hi : i < 6) (hti : m.tree i r = some t) : cnt m r u.seq u.cost < cnt m r t.seq t.cost := by
  obtain ⟨c0, h1, h2⟩ := h.up
  have he := h.edge
  rcases knows_cases h2 with h2 | ⟨u', hu', hg⟩
  · exact absurd h2 hn
  · rw [hu] at hu'
    cases hu'
    refine countP_lt (fun j _ hk => knows_more hk (by omega)) ⟨i, by simpa using hi, knows_tree hti (.inr ⟨rfl, Nat.le_refl _⟩), ?_⟩
    cases hk : knows m r u.seq u.cost i with
    | false => rfl
    | true =>
      rcases knows_cases hk with hk | ⟨t', ht', hg'⟩
      · exact absurd hk h.ne
      · rw [hti] at ht'
        cases ht'
        omega
theorem TreeOk.parent {m : Core} {i r : Nat} {t : TreeV} (h : TreeOk m i r t) (hn : t.parent ≠ r) : ∃ u, m.tree t.parent r = some u ∧ (t.seq < u.seq ∨ (t.seq = u.seq ∧ u.cost + m.cost i t.parent ≤ t.cost)) := by
  obtain ⟨c0, h1, h2⟩ := h.up
  rcases knows_cases h2 with h2 | ⟨u, hu, hg⟩
  · exact absurd h2 hn
  · exact ⟨u, hu, by omega⟩
theorem cnt_two {m : Core} {i r : Nat} {t : TreeV} (hr : r < 6) (hi : i < 6) (hne : i ≠ r) (hti : m.tree i r = some t) : 2 ≤ cnt m r t.seq t.cost := by
  have h1 : (List.range 6).countP (fun j => j == r) < cnt m r t.seq t.cost := by
    refine countP_lt (fun j _ hj => ?_) ⟨i, by simpa using hi, knows_tree hti (.inr ⟨rfl, Nat.le_refl _⟩), by simpa using hne⟩
    have : j = r := by simpa using hj
    subst this
    exact knows_root _ _ _ _
  have h2 : 1 ≤ (List.range 6).countP (fun j => j == r) := List.countP_pos_iff.2 ⟨r, by simpa using hr, by simp⟩
  omega

/-! the end: all announcements have arrived -/
structure Ready (k : Nat) (m : Core) : Prop where
  inv : Inv k m
  done : ∀ w ∈ m.mail, stale m w = true
  pos : ∀ r, r < 2 → 0 < m.rseq r

theorem Ready.nbr {k : Nat} {m : Core} (h : Ready k m) {i j r : Nat} {t : TreeV} (hi : i < 6) (hj : j < 6) (hr : r < 2) (ht : m.tree i r = some t) (hc : 0 < m.cost i j) : knows m r t.seq (t.cost + m.cost i j) j = true :=
  h.done _ (h.inv.spr i hi r hr t ht j hj hc)
theorem Ready.nbrR {k : Nat} {m : Core} (h : Ready k m) {j r : Nat} (hj : j < 6) (hr : r < 2) (hc : 0 < m.cost r j) : knows m r (m.rseq r) (0 + m.cost r j) j = true :=
  h.done _ (h.inv.roots r hr (h.pos r hr) j hj hc)

theorem Ready.seq {k : Nat} {m : Core} (h : Ready k m) {r : Nat} (hr : r < 2) : ∀ n i t, i < 6 → m.tree i r = some t → cnt m r t.seq t.cost ≤ n → t.seq = m.rseq r := by
  intro n
  induction n with
  | zero =>
    intro i t hi ht hc
    have := cnt_root m (r := r) (by omega) t.seq t.cost
    omega
  | succ n ih =>
    intro i t hi ht hc
    have ho := h.inv.tree i hi r hr t ht
    have hse := ho.seqr
    have he := ho.edge
    rw [h.inv.csym] at he
    -- the parent is the root, or knows the latest number
    have key : ∃ c, knows m r (m.rseq r) c i = true := by
      by_cases e : t.parent = r
      · rw [e] at he
        exact ⟨_, h.nbrR hi hr he⟩
      · obtain ⟨u, hu, hg⟩ := ho.parent e
        have hlt := ho.rank hu e hi ht
        have := ih t.parent u ho.par hu (by omega)
        have hk := h.nbr ho.par hi hr hu he
        rw [this] at hk
        exact ⟨_, hk⟩
    obtain ⟨c, hk⟩ := key
    rcases knows_cases hk with hk | ⟨t', ht', hg⟩
    · exact absurd hk ho.ne
    · rw [ht] at ht'
      cases ht'
      omega

/-- the distance that a node knows -/
def far : Nat := 1125899906842624
def dist (m : Core) (r i : Nat) : Nat := if i = r then 0 else match m.tree i r with | some t => t.cost | none => far
theorem Inv.cost_lt {k : Nat} {m : Core} (h : Inv k m) {i r : Nat} {t : TreeV} (hi : i < 6) (hr : r < 2) (ht : m.tree i r = some t) : t.cost ≤ 5 * CM ∧ 1 ≤ t.cost ∧ t.hops ≤ 5 := by
  have ho := h.tree i hi r hr t ht
  have h1 := ho.hops
  have h2 := cnt_le m r t.seq t.cost
  have h3 := ho.cost
  obtain ⟨c0, h4, _⟩ := ho.up
  have h5 := ho.edge
  have h6 : t.hops * CM ≤ 5 * CM := Nat.mul_le_mul_right _ (by omega)
  exact ⟨by omega, by omega, by omega⟩
theorem dist_le {k : Nat} {m : Core} (h : Inv k m) {r : Nat} (hr : r < 2) {i : Nat} (hi : i < 6) : dist m r i ≤ far := by
  unfold dist
  split
  · exact Nat.zero_le _
  · cases ht : m.tree i r with
    | none => exact Nat.le_refl _
    | some t =>
      have := (h.cost_lt hi hr ht).1
      have e : 5 * CM ≤ far := by decide
      exact Nat.le_trans this e
theorem Ready.tri {k : Nat} {m : Core} (h : Ready k m) {r : Nat} (hr : r < 2) {i j : Nat} (hi : i < 6) (hj : j < 6) (hc : 0 < m.cost i j) : dist m r i ≤ m.cost i j + dist m r j := by
  have hc' : 0 < m.cost j i := by rw [h.inv.csym]; exact hc
  have hle := dist_le h.inv hr hi
  have key : ∀ s c, s = m.rseq r → knows m r s c i = true → dist m r i ≤ c := by
    intro s c hs hk
    subst hs
    rcases knows_cases hk with hk | ⟨t, ht, hg⟩
    · subst hk
      simp [dist]
    · have hsq := (h.inv.tree i hi r hr t ht).seqr
      have : dist m r i = t.cost := by
        have hne := (h.inv.tree i hi r hr t ht).ne
        simp [dist, hne, ht]
      omega
  by_cases e : j = r
  · subst e
    have := key _ _ rfl (h.nbrR hi hr hc')
    rw [h.inv.csym] at this
    omega
  · cases ht : m.tree j r with
    | none =>
      have : dist m r j = far := by simp [dist, e, ht]
      omega
    | some t =>
      have hs := h.seq hr 6 j t hj ht (cnt_le _ _ _ _)
      have := key _ _ hs (h.nbr hj hi hr ht hc')
      have e2 : dist m r j = t.cost := by simp [dist, e, ht]
      rw [h.inv.csym] at this
      omega

/-! the cheapest ways, computed -/
abbrev Way := Nat → Nat → Nat
def way0 (m : Core) : Way := fun i j => if 0 < m.cost i j then m.cost i j else far
def relax (k i j : Nat) (w : Way) : Way := upd2 w i j (min (w i j) (w i k + w k j))
def fw (w : Way) : Nat → Way
  | 0 => w
  | n + 1 => relax (n / 36) (n / 6 % 6) (n % 6) (fw w n)

theorem fw_lower {k : Nat} {m : Core} (h : Ready k m) {r : Nat} (hr : r < 2) : ∀ n, n ≤ 216 → ∀ i j, i < 6 → j < 6 → dist m r i ≤ fw (way0 m) n i j + dist m r j := by
  intro n
  induction n with
  | zero =>
    intro _ i j hi hj
    show dist m r i ≤ way0 m i j + _
    unfold way0
    split
    · exact h.tri hr hi hj (by assumption)
    · have := dist_le h.inv hr hi
      omega
  | succ n ih =>
    intro hn i j hi hj
    have ih := ih (by omega)
    show dist m r i ≤ relax _ _ _ _ i j + _
    unfold relax upd2
    split
    · rename_i e
      obtain ⟨rfl, rfl⟩ := e
      have h1 := ih (n / 6 % 6) (n % 6) hi hj
      have h2 := ih (n / 6 % 6) (n / 36) hi (by omega)
      have h3 := ih (n / 36) (n % 6) (by omega) hj
      omega
    · exact ih i j hi hj

/-- one phase -/
theorem fw_phase (w : Way) (k : Nat) (hk : k < 6) : ∀ t, t ≤ 36 → ∀ i j, i < 6 → j < 6 → fw w (36 * k + t) i j = if i * 6 + j < t then min (fw w (36 * k) i j) (fw w (36 * k) i k + fw w (36 * k) k j) else fw w (36 * k) i j := by
  intro t
  induction t with
  | zero => intro _ i j _ _; simp
  | succ t ih =>
    intro ht i j hi hj
    have ih := ih (by omega)
    show relax ((36 * k + t) / 36) ((36 * k + t) / 6 % 6) ((36 * k + t) % 6) (fw w (36 * k + t)) i j = _
    have e1 : (36 * k + t) / 36 = k := by omega
    have e2 : (36 * k + t) / 6 % 6 = t / 6 := by omega
    have e3 : (36 * k + t) % 6 = t % 6 := by omega
    rw [e1, e2, e3]
    unfold relax upd2
    by_cases e : i = t / 6 ∧ j = t % 6
    · rw [if_pos e]
      obtain ⟨rfl, rfl⟩ := e
      have h1 := ih (t / 6) (t % 6) hi hj
      have h2 := ih (t / 6) k hi hk
      have h3 := ih k (t % 6) hk hj
      have hlt : ¬ t / 6 * 6 + t % 6 < t := by omega
      have hlt2 : t / 6 * 6 + t % 6 < t + 1 := by omega
      rw [if_neg hlt] at h1
      rw [if_pos hlt2, h1, h2, h3]
      split <;> split <;> omega
    · rw [if_neg e, ih i j hi hj]
      have : (i * 6 + j < t) ↔ (i * 6 + j < t + 1) := by
        constructor
        · intro; omega
        · intro hlt
          by_cases e2 : i * 6 + j = t
          · exfalso
            apply e
            omega
          · omega
      simp only [this]
theorem fw_next (w : Way) (k : Nat) (hk : k < 6) {i j : Nat} (hi : i < 6) (hj : j < 6) : fw w (36 * (k + 1)) i j = min (fw w (36 * k) i j) (fw w (36 * k) i k + fw w (36 * k) k j) := by
  have := fw_phase w k hk 36 (Nat.le_refl _) i j hi hj
  rw [if_pos (by omega)] at this
  rw [show 36 * (k + 1) = 36 * k + 36 from by omega]
  exact this
theorem fw_tri (w : Way) : ∀ k, k ≤ 6 → ∀ i j q, i < 6 → j < 6 → q < k → fw w (36 * k) i j ≤ fw w (36 * k) i q + fw w (36 * k) q j := by
  intro k
  induction k with
  | zero => intro _ i j q _ _ hq; omega
  | succ k ih =>
    intro hk i j q hi hj hq
    have ih := ih (by omega)
    rw [fw_next w k (by omega) hi hj, fw_next w k (by omega) hi (by omega), fw_next w k (by omega) (by omega) hj]
    by_cases e : q = k
    · subst e
      omega
    · have h1 := ih i j q hi hj (by omega)
      have h2 := ih i k q hi (by omega) (by omega)
      have h3 := ih k j q (by omega) hj (by omega)
      omega
theorem fw_le (w : Way) {i j : Nat} : ∀ n, fw w n i j ≤ w i j := by
  intro n
  induction n with
  | zero => exact Nat.le_refl _
  | succ n ih =>
    show relax _ _ _ _ i j ≤ _
    unfold relax upd2
    split
    · rename_i e
      obtain ⟨rfl, rfl⟩ := e
      omega
    · exact ih
theorem fw_upper {k : Nat} {m : Core} (h : Ready k m) {r : Nat} (hr : r < 2) : ∀ n i t, i < 6 → m.tree i r = some t → cnt m r t.seq t.cost ≤ n → fw (way0 m) 216 i r ≤ t.cost := by
  intro n
  induction n with
  | zero =>
    intro i t hi ht hc
    have := cnt_root m (r := r) (by omega) t.seq t.cost
    omega
  | succ n ih =>
    intro i t hi ht hc
    have ho := h.inv.tree i hi r hr t ht
    have he := ho.edge
    obtain ⟨c0, h1, h2⟩ := ho.up
    have hw : fw (way0 m) 216 i t.parent ≤ m.cost i t.parent := by
      have := fw_le (way0 m) (i := i) (j := t.parent) 216
      unfold way0 at this ⊢
      rw [if_pos he] at this
      exact this
    by_cases e : t.parent = r
    · rw [e] at hw h1
      omega
    · obtain ⟨u, hu, hg⟩ := ho.parent e
      have hlt := ho.rank hu e hi ht
      have h3 := ih t.parent u ho.par hu (by omega)
      have h4 := fw_tri (way0 m) 6 (Nat.le_refl _) i r t.parent hi (by omega) ho.par
      have s1 := h.seq hr 6 i t hi ht (cnt_le _ _ _ _)
      have s2 := h.seq hr 6 _ u ho.par hu (cnt_le _ _ _ _)
      have e216 : 36 * 6 = 216 := rfl
      rw [e216] at h4
      omega
/-- At the end: what a node knows of a root is the cheapest way. -/
theorem Ready.known {k : Nat} {m : Core} (h : Ready k m) {i r : Nat} (hi : i < 6) (hr : r < 2) :
    ((m.tree i r).isSome = (decide (i ≠ r) && decide (fw (way0 m) 216 i r < far))) ∧ ∀ t, m.tree i r = some t → t.cost = fw (way0 m) 216 i r ∧ t.seq = m.rseq r := by
  have hl := fw_lower h hr 216 (Nat.le_refl _) i r hi (by omega)
  have h0 : dist m r r = 0 := by simp [dist]
  rw [h0] at hl
  constructor
  · cases ht : m.tree i r with
    | some t =>
      have hne := (h.inv.tree i hi r hr t ht).ne
      have hu := fw_upper h hr 6 i t hi ht (cnt_le _ _ _ _)
      have hc := (h.inv.cost_lt hi hr ht).1
      have e : 5 * CM < far := by decide
      have : fw (way0 m) 216 i r < far := by omega
      simp [hne, this]
    | none =>
      by_cases e : i = r
      · simp [e]
      · have : dist m r i = far := by simp [dist, e, ht]
        have : ¬ fw (way0 m) 216 i r < far := by omega
        simp [this]
  · intro t ht
    have hne := (h.inv.tree i hi r hr t ht).ne
    have hu := fw_upper h hr 6 i t hi ht (cnt_le _ _ _ _)
    have : dist m r i = t.cost := by simp [dist, hne, ht]
    exact ⟨by omega, h.seq hr 6 i t hi ht (cnt_le _ _ _ _)⟩
theorem fw_far {m : Core} {k : Nat} (h : Inv k m) : ∀ n i j, fw (way0 m) n i j ≤ far := fun n i j => by
  refine Nat.le_trans (fw_le (way0 m) n) ?_
  unfold way0
  split
  · have := h.cmax i j
    have e : CM ≤ far := by decide
    omega
  · exact Nat.le_refl _
end Go.Mesh
