/- Slices, appending, copying, reading what came in, statements whose order is open: as rules of the calculus. Conditions: those of the rules. -/
import Derived.Test.YtencghlmckbmlaaGreatEff
namespace Go.Sx
open Go Go.RowKit

theorem tySlice_spec {P : Program} {t e : TypeId} {s b : Nat} (h : tySlice P t = some (e, s, b)) : ∃ i, P.underlying t = some (.slice e) ∧ P.info? e = some i ∧ i.size = s ∧ i.bytes = b := by
  unfold tySlice at h
  split at h
  · rename_i e' hu
    cases hi : P.info? e' with
    | none => simp [hi] at h
    | some inf =>
      simp [hi] at h
      obtain ⟨rfl, rfl, rfl⟩ := h
      exact ⟨inf, hu, hi, rfl, rfl⟩
  · cases h

theorem tyArr_spec {P : Program} {t e : TypeId} {n s : Nat} (h : tyArr P t = some (n, e, s)) : ∃ i, P.underlying t = some (.array n e) ∧ P.info? e = some i ∧ i.size = s := by
  unfold tyArr at h
  split at h
  · rename_i m e' hu
    cases hi : P.info? e' with
    | none => simp [hi] at h
    | some inf =>
      simp [hi] at h
      obtain ⟨rfl, rfl, rfl⟩ := h
      exact ⟨inf, hu, hi, rfl⟩
  · cases h

/-- A bound of a slice expression. -/
def Bd (E : List (Nat × Value)) (x : Option Operand) (d r : Nat) : Prop :=
  match x with
  | none => r = d
  | some x => ∃ (k : IntKind) (i : Int), ev E x = some (.int k i) ∧ i = r

def sliceOff (c l o s : Nat) : Nat := if c = l then o else o + l * s
theorem sliceOff_lt {c l o s : Nat} (h : l < c) : sliceOff c l o s = o + l * s := by unfold sliceOff; rw [if_neg (by omega)]
theorem sliceOff_zero {c o s : Nat} : sliceOff c 0 o s = o := by unfold sliceOff; split <;> simp

section
variable {P : Program} {W0 : World} {gs : List Nat} {n : Nat} {E E' : List (Nat × Value)} {L L' : List Rs} {K : Act → World → Prop}
  {ops : Array Oper} {Q : Exit → Act → World → Prop} {rest : List Oper} {a : Act} {W : World}

theorem run_sliceBounds {isS : Bool} {m c l h : Nat} {lo hi : Option Operand} (he : ∀ x u, ev E x = some u → a.eval x = u) (hl : Bd E lo 0 l) (hh : Bd E hi m h) (h1 : l ≤ h) (h2 : h ≤ c) :
    (Instr.sliceBounds isS m c (lo.map a.eval) (hi.map a.eval) none).run P W = .ok (l, h, c) W := by
  have e2 : ∀ x, hi = some x → ∃ k, a.eval x = .int k h := by
    rintro x rfl
    obtain ⟨k, i, h3, rfl⟩ := hh
    exact ⟨k, he x _ h3⟩
  have e1 : ∀ x, lo = some x → ∃ k, a.eval x = .int k l := by
    rintro x rfl
    obtain ⟨k, i, h3, rfl⟩ := hl
    exact ⟨k, he x _ h3⟩
  have b1 : ∀ (k : IntKind) (y : Nat) (cd : BoundsCode), h ≤ y → (Instr.sliceBound (.int k h) y cd).run P W = .ok h W := fun k y cd hy => by
    rw [run_bound (by omega) (by omega)]; rfl
  have b2 : ∀ (k : IntKind) (y : Nat) (cd : BoundsCode), l ≤ y → (Instr.sliceBound (.int k l) y cd).run P W = .ok l W := fun k y cd hy => by
    rw [run_bound (by omega) (by omega)]; rfl
  unfold Instr.sliceBounds
  cases hi with
  | none =>
    have : h = m := hh
    subst this
    cases lo with
    | none =>
      have : l = 0 := hl
      subst this
      simp
    | some x =>
      obtain ⟨k, hk⟩ := e1 x rfl
      simp [hk, b2 k h _ h1]
  | some y =>
    obtain ⟨k', hk'⟩ := e2 y rfl
    cases lo with
    | none =>
      have : l = 0 := hl
      subst this
      simp [hk', b1 k' c _ h2]
    | some x =>
      obtain ⟨k, hk⟩ := e1 x rfl
      simp [hk, hk', b1 k' c _ h2, b2 k h _ h1]

theorem Q.slc {t e : TypeId} {x : Operand} {lo hi : Option Operand} {b o m c l h s by_ : Nat} (ht : tySlice P t = some (e, s, by_)) (hx : ev E x = some (.slice (some ⟨b, o, none⟩) m c)) (hl : Bd E lo 0 l) (hh : Bd E hi m h)
    (h1 : l ≤ h) (h2 : h ≤ c) : Quiet P W0 gs E L (.slice t x lo hi none) (.slice (some ⟨b, sliceOff c l o s, none⟩) (h - l) (c - l)) := by
  intro a W dst ty pos after g he _ _
  obtain ⟨i, hu, hi', rfl, _⟩ := tySlice_spec ht
  have hb := run_sliceBounds (P := P) (W := W) (isS := true) he hl hh h1 h2
  simp only [execOp, he x _ hx, Instr.sliceAt, Sem.run_bind, run_underlying hu, Result.andThen_ok, Instr.slice, Option.map_none, hb, sizeOf, typeInfo, run_program, hi', Sem.run_pure, sliceOff]
  split
  · rfl
  · simp [Addr.add_lit]

theorem Q.slcNil {t e : TypeId} {x : Operand} {lo hi : Option Operand} {m c l h s by_ : Nat} (ht : tySlice P t = some (e, s, by_)) (hx : ev E x = some (.slice none m c)) (hl : Bd E lo 0 l) (hh : Bd E hi m h)
    (h1 : l ≤ h) (h2 : h ≤ c) : Quiet P W0 gs E L (.slice t x lo hi none) (.slice none (h - l) (c - l)) := by
  intro a W dst ty pos after g he _ _
  obtain ⟨i, hu, hi', rfl, _⟩ := tySlice_spec ht
  have hb := run_sliceBounds (P := P) (W := W) (isS := true) he hl hh h1 h2
  simp only [execOp, he x _ hx, Instr.sliceAt, Sem.run_bind, run_underlying hu, Result.andThen_ok, Instr.slice, Option.map_none, hb, sizeOf, typeInfo, run_program, hi', Sem.run_pure]
  simp

theorem Q.slcA {t e : TypeId} {x : Operand} {lo hi : Option Operand} {b o m l h s : Nat} (ht : tyArr P t = some (m, e, s)) (hx : ev E x = some (.pointer (some ⟨b, o, none⟩))) (hl : Bd E lo 0 l) (hh : Bd E hi m h)
    (h1 : l ≤ h) (h2 : h ≤ m) : Quiet P W0 gs E L (.slice t x lo hi none) (.slice (some ⟨b, sliceOff m l o s, none⟩) (h - l) (m - l)) := by
  intro a W dst ty pos after g he _ _
  obtain ⟨i, hu, hi', rfl⟩ := tyArr_spec ht
  have hb := run_sliceBounds (P := P) (W := W) (isS := false) he hl hh h1 h2
  simp only [execOp, he x _ hx, Instr.sliceAt, Sem.run_bind, run_underlying hu, Result.andThen_ok, Instr.sureAddr, Option.map_none, hb, sizeOf, typeInfo, run_program, hi', Sem.run_pure, sliceOff]
  split
  · rfl
  · simp [Addr.add_lit]

/-! what can be read -/

/-- The cells from an address on. -/
def Rd (W : World) (p : Option Addr) (xs : List Value) : Prop := ∀ j u, xs[j]? = some u → ∃ b o, p = some ⟨b, o, none⟩ ∧ W.cell? ⟨b, o + j, none⟩ = some u

theorem Rd.nil {p : Option Addr} : Rd W p [] := fun j u h => by simp at h
theorem Rd.only {p : Option Addr} {xs : List Value} (h : Rd W0 p xs) (ho : Only gs W0 W) (hg : ∀ x, p = some x → x.block ∉ gs) : Rd W p xs := by
  intro j u hj
  obtain ⟨b, o, hp, hc⟩ := h j u hj
  exact ⟨b, o, hp, only_cell ho hc (by simpa using hg _ hp)⟩
theorem Rd.only0 {p : Option Addr} {xs : List Value} (h : Rd W0 p xs) (ho : Only [] W0 W) : Rd W p xs := h.only ho (fun _ _ => by simp)
theorem Rd.own {g o : Nat} {C xs : List Value} {t : TypeId} (hw : Own W L) (hm : Rs.blk g C t ∈ L) (hs : ∀ (j : Nat) (u : Value), xs[j]? = some u → C[o + j]? = some u) : Rd W (some ⟨g, o, none⟩) xs :=
  fun j u hj => ⟨g, o, rfl, by rw [own_cell hw hm]; exact hs j u hj⟩
theorem Rd.row {p : Option Addr} {m c s : Nat} {e : TypeId} {xs : List Value} (hw : Own W L) (hm : Rs.row (.slice p m c) e s m xs ∈ L) : Rd W p xs := by
  intro j u hj
  have h : W.ownsRow 0 e s (.slice p m c) m xs := hw.all _ hm
  rcases h.2 with ⟨hv, hm0⟩ | ⟨g, cap, cur, hv, _⟩
  · have hl := h.1
    rw [hm0] at hl
    have : xs = [] := List.eq_nil_of_length_eq_zero (by simpa using hl)
    subst this
    simp at hj
  · simp only [Value.slice.injEq] at hv
    obtain ⟨rfl, _, _⟩ := hv
    have := h.cells (g := g) rfl j u hj
    rw [Addr.add_lit] at this
    exact ⟨g, 0, rfl, this⟩
theorem Rd.sub {p : Option Addr} {xs ys : List Value} (h : Rd W p xs) (hs : ∀ (j : Nat) (u : Value), ys[j]? = some u → xs[j]? = some u) : Rd W p ys := fun j u hj => h j u (hs j u hj)
theorem Rd.take {p : Option Addr} {xs : List Value} (h : Rd W p xs) (k : Nat) : Rd W p (xs.take k) := Rd.sub h fun j u hj => by
  rw [List.getElem?_take] at hj
  split at hj
  · exact hj
  · cases hj
theorem Rd.drop {b o : Nat} {xs : List Value} (h : Rd W (some ⟨b, o, none⟩) xs) (k : Nat) : Rd W (some ⟨b, o + k, none⟩) (xs.drop k) := by
  intro j u hj
  rw [List.getElem?_drop] at hj
  obtain ⟨b', o', hp, hc⟩ := h (k + j) u hj
  simp only [Option.some.injEq, Addr.mk.injEq] at hp
  obtain ⟨rfl, rfl, _⟩ := hp
  exact ⟨b, o + k, rfl, by rw [Nat.add_assoc]; exact hc⟩

/-! rows -/

theorem VK.addNil (e : TypeId) (s : Nat) (h : VK W0 gs n K E (.row (.slice none 0 0) e s 0 [] :: L)) : VK W0 gs n K E L := fun a W st =>
  h a W ⟨st.defers.move fun _ _ hd => ⟨rfl, by simpa [Rs.ids, Value.ownBlock] using hd⟩, st.size, st.env, st.only, ⟨by simpa [Rs.ids, Value.ownBlock] using st.own.nodup, fun r hr => by
    rcases List.mem_cons.1 hr with rfl | hr
    · exact World.ownsRow_nil W 0 e s
    · exact st.own.all r hr⟩, by simpa [Rs.ids, Value.ownBlock] using st.fresh⟩

theorem VK.toRow {g m c s : Nat} {C : List Value} {t : TypeId} (hu : Upd L (.blk g C t) (.row (.slice (some ⟨g, 0, none⟩) m c) t s m (C.take (m * s))) L') (hc : C.length = c * s) (hm : m ≤ c) (hx : c ≤ maxLen)
    (h : VK W0 gs n K E L') : VK W0 gs n K E L := fun a W st => by
  have hb : W.heap[g]? = some (.cells C.toArray t (0, 0)) := st.own.all _ hu.mem
  have hids : L'.flatMap Rs.ids = L.flatMap Rs.ids := by
    obtain ⟨A, B, rfl, rfl⟩ := hu.split
    simp [Rs.ids, Value.ownBlock]
  refine h a W (st.world st.only (own_upd st.own hu ?_ (.inl ?_) fun _ _ _ => rfl) (by rw [hids]; exact st.fresh) fun _ _ hd => ⟨rfl, by rw [hids]; exact hd⟩)
  · refine ⟨by rw [List.length_take, hc]; exact Nat.min_eq_left (Nat.mul_le_mul_right _ hm), .inr ⟨g, c, C.toArray, rfl, Nat.zero_le _, hb, hm, hx, by simpa using hc, by simp⟩⟩
  · simp [Rs.ids, Value.ownBlock]

theorem VK.openRow {p : Option Addr} {m c s : Nat} {e : TypeId} {xs : List Value} (hm : Rs.row (.slice p m c) e s m xs ∈ L) (hp : p ≠ none ∨ 0 < m)
    (h : ∀ g C L', p = some ⟨g, 0, none⟩ → C.length = c * s → C.take (m * s) = xs → m ≤ c → c ≤ maxLen → Upd L (.row (.slice p m c) e s m xs) (.blk g C e) L' → VK W0 gs n K E L') : VK W0 gs n K E L := fun a W st => by
  have hr : W.ownsRow 0 e s (.slice p m c) m xs := st.own.all _ hm
  rcases hr.2 with ⟨hv, hm0⟩ | ⟨g, cap, cur, hv, _, hg, h1, h2, h3, h4⟩
  · simp only [Value.slice.injEq] at hv
    rcases hp with hp | hp
    · exact absurd hv.1 hp
    · omega
  · simp only [Value.slice.injEq] at hv
    obtain ⟨rfl, _, rfl⟩ := hv
    have hex : ∀ L : List Rs, Rs.row (.slice (some ⟨g, 0, none⟩) m c) e s m xs ∈ L → ∃ L', Upd L (.row (.slice (some ⟨g, 0, none⟩) m c) e s m xs) (.blk g cur.toList e) L' := by
      intro L hm
      induction L with
      | nil => cases hm
      | cons r L ih =>
        rcases List.mem_cons.1 hm with rfl | hm
        · exact ⟨_, .here⟩
        · obtain ⟨L', h⟩ := ih hm
          exact ⟨_, .there h⟩
    obtain ⟨L', hu⟩ := hex L hm
    have hids : L'.flatMap Rs.ids = L.flatMap Rs.ids := by
      obtain ⟨A, B, rfl, rfl⟩ := hu.split
      simp [Rs.ids, Value.ownBlock]
    refine h g cur.toList L' rfl (by simpa using h3) h4 h1 h2 hu a W (st.world st.only (own_upd st.own hu ?_ (.inl ?_) fun _ _ _ => rfl) (by rw [hids]; exact st.fresh) fun _ _ hd => ⟨rfl, by rw [hids]; exact hd⟩)
    · show W.heap[g]? = _
      rw [hg]
    · simp [Rs.ids, Value.ownBlock]

/-- Where an entry stands, as a list with a hole. -/
inductive At : List Rs → Rs → (Rs → List Rs) → Prop
  | here {r : Rs} {L : List Rs} : At (r :: L) r (fun r' => r' :: L)
  | there {r x : Rs} {L : List Rs} {F : Rs → List Rs} : At L r F → At (x :: L) r (fun r' => x :: F r')
theorem At.upd {L : List Rs} {r : Rs} {F : Rs → List Rs} (h : At L r F) (r' : Rs) : Upd L r r' (F r') := by
  induction h with
  | here => exact .here
  | there _ ih => exact .there ih

theorem O.append {t e : TypeId} {s by_ : Nat} {z : Value} {x y : Operand} {p : Option Addr} {m c k c' : Nat} {ad : Option Addr} {xs news : List Value} {d : Nat} {t' : TypeId} {pos : String} {after : Array Edge} {gd : Option (Nat × Bool)}
    (ht : tySlice P t = some (e, s, by_)) (hz : (P.info? e).bind (·.zero) = some z) (hzs : z.cells.size = s) (hs : 0 < s)
    (hx : ev E x = some (.slice p m c)) (hy : ev E y = some (.slice ad k c')) (hl : news.length = k * s) (h1 : news.all one = true) (hd : d < n)
    (h63 : m + k ≤ maxLen) (hby : (m + k) * by_ ≤ 140737488355328)
    {F : Rs → List Rs} (hF : At L (.row (.slice p m c) e s m xs) F) (hrd : ∀ W, Only gs W0 W → Own W L → Rd W ad news)
    (h : ∀ p' c', m + k ≤ c' → VK W0 gs n K ((d, .slice p' (m + k) c') :: E) (F (.row (.slice p' (m + k) c') e s (m + k) (xs ++ news)))) :
    VO P W0 gs n Q ⟨some d, .call ⟨.builtin .append, #[x, y], #[t, t]⟩, t', pos, after, gd⟩ K E L := by
  intro a W st
  obtain ⟨i, hu, hi', hsz, hbs⟩ := tySlice_spec ht
  have hzi : i.zero = some z := by simpa [hi'] using hz
  have hm : Rs.row (.slice p m c) e s m xs ∈ L := (hF.upd (.row (.slice p m c) e s m xs)).mem
  have hown : W.ownsRow 0 e s (.slice p m c) m xs := st.own.all _ hm
  have hrd' := hrd W st.only st.own
  have hone : ∀ u ∈ news, u.oneCell' = true := fun u hu => one_oneCell (List.all_eq_true.1 h1 u hu)
  -- what is appended lies somewhere, or is nothing
  have key : ∃ v' W', (Builtin.append_ #[t, t] t' #[.slice p m c, .slice ad k c']).run P W = .ok v' W' ∧ W'.ownsRow 0 e s v' (m + k) (xs ++ news) ∧ W.grownBy W' (Value.slice p m c).ownBlock ∧
      (v'.ownBlock = (Value.slice p m c).ownBlock ∨ v'.ownBlock = some W.heap.size) := by
    cases ad with
    | some ad =>
      have hnews : ∀ j u, news[j]? = some u → W.cell? (ad.add j) = some u := by
        intro j u hj
        obtain ⟨b, o, hp, hc⟩ := hrd' j u hj
        simp only [Option.some.injEq] at hp
        subst hp
        rw [Addr.add_lit]
        exact hc
      obtain ⟨v', w', h1', h2', h3', h4'⟩ := run_append_own (P := P) W 0 t t' e i z s by_ hu hi' hzi hsz hbs hzs hs _ m xs hown ad k c' news hl hnews hone h63 hby (Nat.zero_le _)
      refine ⟨v', w', h1', h2', h3', ?_⟩
      have hbig : ((m + k : Nat) : Int) ≤ 9223372036854775807 := by unfold maxLen at h63; omega
      rcases hown.2 with ⟨hv, hm0⟩ | ⟨g, cap, cur, hv, _, hgg, hc1, _, hc3, hc4⟩
      · simp only [Value.slice.injEq] at hv
        obtain ⟨rfl, rfl, rfl⟩ := hv
        rcases Nat.eq_zero_or_pos k with hk | hk
        · rw [h4'.2 ⟨rfl, hk⟩]
          exact .inl rfl
        · have hr := run_append_nil (P := P) W t t' e i z hu hi' hzi ad k c' news (by rw [hsz]; exact hl) hnews hk (by omega) (by rw [hbs]; simp only [Nat.zero_add] at hby; omega)
          rw [h1'] at hr
          simp only [Result.ok.injEq] at hr
          rw [hr.1]
          exact .inr rfl
      · simp only [Value.slice.injEq] at hv
        obtain ⟨rfl, _, rfl⟩ := hv
        by_cases hroom : m + k ≤ c
        · have hfit : m * i.size + news.length ≤ cur.size := by rw [hl, hc3, hsz, ← Nat.add_mul]; exact Nat.mul_le_mul_right _ hroom
          have hr := run_append_room (P := P) W t t' e i hu hi' g m c cur hgg ad k c' news (by rw [hsz]; exact hl) hnews hone hroom hfit
          rw [h1'] at hr
          simp only [Result.ok.injEq] at hr
          rw [hr.1]
          exact .inl rfl
        · have holds : ∀ j u, xs[j]? = some u → W.cell? ((⟨g, 0, none⟩ : Addr).add j) = some u := hown.cells (g := g) rfl
          have hr := run_append_grow (P := P) W t t' e i z hu hi' hzi ⟨g, 0, none⟩ m c xs (by rw [hsz]; exact hown.1) holds ad k c' news (by rw [hsz]; exact hl) hnews (by omega) hbig (by rw [hbs]; exact growslice_fits (by omega) hby)
          rw [h1'] at hr
          simp only [Result.ok.injEq] at hr
          rw [hr.1]
          exact .inr rfl
    | none =>
      have hn : news = [] := by
        cases news with
        | nil => rfl
        | cons u us =>
          obtain ⟨b, o, hp, _⟩ := hrd' 0 u rfl
          cases hp
      subst hn
      have hk : k = 0 := by
        rcases Nat.eq_zero_or_pos k with h | h
        · exact h
        · have := Nat.mul_pos h hs
          simp at hl
          omega
      subst hk
      refine ⟨.slice p m c, W, ?_, by simpa using hown, ⟨rfl, rfl, rfl, Nat.le_refl _, fun _ _ _ => rfl⟩, .inl rfl⟩
      have hmc : m ≤ c := by
        rcases hown.2 with ⟨hv, hm0⟩ | ⟨g, cap, cur, hv, _, _, h1, _⟩
        · omega
        · simp only [Value.slice.injEq] at hv
          omega
      have hu' : ¬ ∃ k, P.underlying t = some (.int k) := by simp [hu]
      cases p <;> simp [Builtin.append_, run_underlying hu, sizeOf, typeInfo, hi', Builtin.lenOf, Builtin.firstCells, hmc, storeCells]
  obtain ⟨v', W', hr, ho', hg, hblkv⟩ := key
  -- the result's form
  have hform : ∃ p' c'', v' = .slice p' (m + k) c'' ∧ m + k ≤ c'' := by
    rcases ho'.2 with ⟨hv, h0⟩ | ⟨g, cap, cur, hv, _, _, h1, _⟩
    · exact ⟨none, 0, by rw [hv, h0], by omega⟩
    · exact ⟨_, cap, hv, h1⟩
  obtain ⟨p', c'', rfl, hcap⟩ := hform
  have hU := hF.upd (.row (.slice p' (m + k) c'') e s (m + k) (xs ++ news))
  have hexec : (execOp a.eval ⟨some d, .call ⟨.builtin .append, #[x, y], #[t, t]⟩, t', pos, after, gd⟩).run P W = .ok (.value (.slice p' (m + k) c'')) W' := by
    simp [execOp, resolve, invoke, builtin, st.eval hx, st.eval hy, hr]
  unfold Oper.wp
  rw [hexec, Oper.upon_value]
  have hlt := own_lt st.own
  have hmem : ∀ j, j ∈ (Rs.row (.slice p m c) e s m xs).ids → j ∈ L.flatMap Rs.ids := fun j hj => List.mem_flatMap.2 ⟨_, hm, hj⟩
  have hblk : ∀ j, j ∉ (Rs.row (.slice p m c) e s m xs).ids → j < W.heap.size → W'.heap[j]? = W.heap[j]? := by
    intro j hj hjl
    refine hg.block j hjl (fun e' => hj ?_)
    simp only [Rs.ids, Option.mem_toList, ← e']
  have hDD : ∀ D, D < W.heap.size → D ∉ L.flatMap Rs.ids → W'.heap[D]? = W.heap[D]? ∧ D ∉ (F (.row (.slice p' (m + k) c'') e s (m + k) (xs ++ news))).flatMap Rs.ids := by
    intro D hD hd
    refine ⟨hblk D (fun hj => hd (hmem D hj)) hD, fun hj => ?_⟩
    obtain ⟨A, B, hA, hB⟩ := hU.split
    rw [hB] at hj
    rw [hA] at hd
    simp only [List.flatMap_append, List.flatMap_cons, List.mem_append, not_or] at hj hd
    rcases hj with hj | hj | hj
    · exact hd.1 hj
    · rcases hblkv with hb | hb
      · exact hd.2.1 (by simpa only [Rs.ids, hb] using hj)
      · simp only [Rs.ids, hb, Option.toList_some, List.mem_singleton] at hj
        omega
    · exact hd.2.2 hj
  refine h p' c'' hcap _ _ ((st.world ?_ (own_upd st.own hU ho' ?_ hblk) ?_ hDD).put hd _)
  · refine ⟨hg.os.trans st.only.os, hg.tape.trans st.only.tape, hg.output.trans st.only.output, Nat.le_trans st.only.size hg.size, fun j hj hn => ?_⟩
    have hjn : j ∉ (Rs.row (.slice p m c) e s m xs).ids := by
      intro hj'
      rcases st.fresh j (hmem j hj') with h1 | h1
      · exact hn h1
      · omega
    exact (hblk j hjn (Nat.lt_of_lt_of_le hj st.only.size)).trans (st.only.block j hj hn)
  · rcases hblkv with hb | hb
    · exact .inl (by simp only [Rs.ids, hb])
    · refine .inr ⟨?_, ?_⟩
      · intro j hj
        simp only [Rs.ids, hb, Option.toList_some, List.mem_singleton] at hj
        omega
      · simp [Rs.ids, hb]
  · intro j hj
    obtain ⟨A, B, hA, hB⟩ := hU.split
    rw [hB] at hj
    simp only [List.flatMap_append, List.flatMap_cons, List.mem_append] at hj
    have hold : j ∈ L.flatMap Rs.ids → j ∈ gs ∨ W0.heap.size ≤ j := st.fresh j
    rw [hA] at hold
    simp only [List.flatMap_append, List.flatMap_cons, List.mem_append] at hold
    rcases hj with hj | hj | hj
    · exact hold (.inl hj)
    · rcases hblkv with hb | hb
      · refine hold (.inr (.inl ?_))
        simp only [Rs.ids, hb] at hj ⊢
        exact hj
      · simp only [Rs.ids, hb, Option.toList_some, List.mem_singleton] at hj
        have := st.only.size
        exact .inr (by omega)
    · exact hold (.inr (.inr hj))
end
end Go.Sx
