/- The row of TopTree: what the arguments give the walk, the statement. -/
import Derived.Test.YtencghlmckbmlaaGreatZTop
import Derived.ProofKit
import Derived.Handed
import Derived.ReadsInBook
import Derived.OpenShut
import Derived.ChangeArms
import Derived.Carry
import Derived.Lay
import Derived.Below
namespace Go.Proofs.YtencghlmckbmlaaGreat
open Go Go.Sx Go.ChangeShapes Go.WideShapes Go.ChangeAt Go.RowKit Go.Mesh
set_option maxRecDepth 100000

theorem own : ownKnob Tryz.prog.godebug = none := by kernel_rfl
theorem laidOut : laidOutB Tryz.prog = true := by kernel_rfl
theorem u5 : Tryz.prog.underlying 5 = some (.int .u8) := by kernel_rfl
theorem u26 : Tryz.prog.underlying 26 = some (.int .u16) := by kernel_rfl
theorem u3 : Tryz.prog.underlying 3 = some (.int .i64) := by kernel_rfl
theorem u4 : Tryz.prog.underlying 4 = some .bool := by kernel_rfl
theorem u22 : Tryz.prog.underlying 22 = some (.slice 28) := by kernel_rfl
theorem u23 : Tryz.prog.underlying 23 = some (.slice 5) := by kernel_rfl
theorem u24 : Tryz.prog.underlying 24 = some (.slice 30) := by kernel_rfl
theorem u28 : Tryz.prog.underlying 28 = some (.struct (Tryz.prog.fieldsOf 28)) := by kernel_rfl
theorem u30 : Tryz.prog.underlying 30 = some (.struct (Tryz.prog.fieldsOf 30)) := by kernel_rfl
theorem c3 : Tryz.prog.cellsOf 3 = 1 := by kernel_rfl
theorem c5 : Tryz.prog.cellsOf 5 = 1 := by kernel_rfl
theorem c26 : Tryz.prog.cellsOf 26 = 1 := by kernel_rfl
theorem c28 : Tryz.prog.cellsOf 28 = 4 := by kernel_rfl
theorem c30 : Tryz.prog.cellsOf 30 = 3 := by kernel_rfl
theorem flds28 : ((Tryz.prog.fieldsOf 28).map fun f => (f.type, f.offset)) = #[(5, 0), (5, 1), (5, 2), (26, 3)] := by kernel_rfl
theorem flds30 : ((Tryz.prog.fieldsOf 30).map fun f => (f.type, f.offset)) = #[(5, 0), (3, 1), (3, 2)] := by kernel_rfl
theorem fld_of {t : TypeId} {A : Array (TypeId × Nat)} (e : ((Tryz.prog.fieldsOf t).map fun f => (f.type, f.offset)) = A) {i u o : Nat} (h : A[i]? = some (u, o)) : ∃ f : Field, (Tryz.prog.fieldsOf t)[i]? = some f ∧ f.type = u ∧ f.offset = o := by
  rw [← e, Array.getElem?_map] at h
  obtain ⟨f, h1, h2⟩ := Option.map_eq_some_iff.1 h
  simp only [Prod.mk.injEq] at h2
  exact ⟨f, h1, h2.1, h2.2⟩
theorem wf_bd {k : IntKind} {n : Int} (h : (Lit.int k n).wf = true) : klo k ≤ n ∧ n ≤ khi k := by
  have h1 : k.min = klo k := by cases k <;> rfl
  have h2 : k.max = khi k := by cases k <;> rfl
  simp only [Lit.wf, Bool.and_eq_true, decide_eq_true_eq, h1, h2] at h
  exact h

section
variable {H : Type} {enc : TypeId × Value → H} {W : World} {base : Nat} {spare : Nat → Bool} {held : Bool}
theorem list_of {α : Type} {p : Nat → α → Prop} : ∀ n, (∀ i, i < n → ∃ a, p i a) → ∃ l : List α, l.length = n ∧ ∀ i a, l[i]? = some a → p i a
  | 0, _ => ⟨[], rfl, fun i a h => by simp at h⟩
  | n + 1, h => by
    obtain ⟨l, hl, hp⟩ := list_of n (fun i hi => h i (by omega))
    obtain ⟨a, ha⟩ := h n (by omega)
    refine ⟨l ++ [a], by simp [hl], fun i b hb => ?_⟩
    by_cases hi : i < n
    · rw [List.getElem?_append_left (by omega)] at hb
      exact hp i b hb
    · rw [List.getElem?_append_right (by omega)] at hb
      have : i - l.length = 0 := by
        have := (List.getElem?_eq_some_iff.1 hb).1
        simp at this
        omega
      rw [this] at hb
      simp at hb
      subst hb
      have : i = n := by omega
      rw [this]
      exact ha
/-- Rows of records, cell by cell. -/
theorem rd_rows {α : Type} {f : α → List Value} {s : Nat} (hf : ∀ x, (f x).length = s) (hs : 0 < s) {p : Option Addr} {l : List α}
    (h : ∀ i a, l[i]? = some a → ∀ j u, (f a)[j]? = some u → ∃ b o, p = some ⟨b, o, none⟩ ∧ W.cell? ⟨b, o + (i * s + j), none⟩ = some u) : Rd W p (l.flatMap f) := by
  intro q u hq
  have hql : q < l.length * s := by
    have := (List.getElem?_eq_some_iff.1 hq).1
    rwa [fm_length hf] at this
  have hi : q / s < l.length := (Nat.div_lt_iff_lt_mul hs).2 hql
  have hj : q % s < (f l[q / s]).length := by rw [hf]; exact Nat.mod_lt _ hs
  have hqe : q / s * s + q % s = q := Nat.div_add_mod' q s
  have hg := fm_get hf l (q / s) hi (q % s) _ (List.getElem?_eq_getElem hj)
  rw [hqe, hq] at hg
  obtain ⟨b, o, hp, hc⟩ := h (q / s) _ (List.getElem?_eq_getElem hi) (q % s) u (by rw [List.getElem?_eq_getElem hj]; exact hg.symm)
  rw [hqe] at hc
  exact ⟨b, o, hp, hc⟩
/-- The elements of a slice of records, opened. -/
theorem open_rows {P : Program} {t e : TypeId} {k fuel : Nat} {cs : List Value} {x : DataW H × List MemPlace} (ht : P.underlying t = some (.slice e)) (hc : P.cellsOf e = k) (hk : 0 < k) (h : DataW.trod enc P W base spare held fuel t cs = some x) :
    ∃ a len cap, cs = [.slice a len cap] ∧ len ≤ maxLen ∧ ∀ i, i < len → ∃ b o n row y, a = some ⟨b, o, none⟩ ∧ row.length = k ∧ (∀ j u, row[j]? = some u → W.cell? ⟨b, o + (i * k + j), none⟩ = some u) ∧ DataW.trod enc P W base spare held n e row = some y := by
  rcases DataW.trod_slice ht h with ⟨rfl, _⟩ | ⟨a, len, cap, elems, rest, n, _, rfl, rfl, hb, hl, hm, hlen, hel, hsp, hns⟩
  · exact ⟨none, 0, 0, rfl, Nat.zero_le _, fun i hi => by omega⟩
  · refine ⟨some a, len, cap, rfl, by omega, fun i hi => ?_⟩
    have h1 := hel i hi
    rw [List.getElem?_eq_getElem (by omega), hc] at h1
    obtain ⟨cs', hcs, ht'⟩ := Option.bind_eq_some_iff.1 h1
    obtain ⟨_, hcl, hat⟩ := World.cells?_some hcs
    obtain ⟨b, o, spot⟩ := a
    have hspot : spot = none := by
      have h2 := hel 0 (by omega)
      rw [List.getElem?_eq_getElem (by omega), hc] at h2
      obtain ⟨cs2, hcs2, _⟩ := Option.bind_eq_some_iff.1 h2
      obtain ⟨_, hcl2, hat2⟩ := World.cells?_some hcs2
      have h0 : 0 < cs2.length := by omega
      have := hat2 (i := 0) (by first | omega | simp; omega)
      rw [List.getElem?_eq_getElem h0] at this
      simpa [Addr.add] using World.cell?_spot this
    subst hspot
    refine ⟨b, o, n, cs', _, rfl, hcl, fun j u hj => ?_, ht'⟩
    have hjl := (List.getElem?_eq_some_iff.1 hj).1
    have := hat (i := j) (by first | omega | simp; omega)
    rw [hj, Addr.add_lit, Addr.add_lit, Nat.add_assoc] at this
    exact this
end

section
variable {H : Type} {enc : TypeId × Value → H} {W : World} {base : Nat} {spare : Nat → Bool} {held : Bool}
/-- A field of a record that is an integer. -/
theorem int_field {t ft : TypeId} {A : Array (TypeId × Nat)} {k : IntKind} {n : Nat} {row : List Value} {y : DataW H × List MemPlace} (e : ((Tryz.prog.fieldsOf t).map fun f => (f.type, f.offset)) = A) (ht : Tryz.prog.underlying t = some (.struct (Tryz.prog.fieldsOf t)))
    (hu : Tryz.prog.underlying ft = some (.int k)) (hc : Tryz.prog.cellsOf ft = 1) (h : DataW.trod enc Tryz.prog W base spare held n t row = some y) {i o : Nat} (hi : A[i]? = some (ft, o)) (ho : o < row.length) : ∃ z : Int, row[o]? = some (.int k z) ∧ klo k ≤ z ∧ z ≤ khi k := by
  obtain ⟨ys, m, _, _, _, hyl, hg⟩ := DataW.trod_struct ht h
  obtain ⟨f, h1, rfl, rfl⟩ := fld_of e hi
  have h2 := hg i f h1
  have hil : i < ys.length := by
    rw [hyl]
    exact (Array.getElem?_eq_some_iff.1 h1).1
  rw [hc, List.getElem?_eq_getElem hil] at h2
  have e1 : (row.drop f.offset).take 1 = [row[f.offset]] := by rw [List.drop_eq_getElem_cons ho]; rfl
  rw [e1] at h2
  obtain ⟨z, hz, _, hw⟩ := DataW.trod_int hu h2
  simp only [List.cons.injEq, and_true] at hz
  exact ⟨z, by rw [List.getElem?_eq_getElem ho, hz], wf_bd hw⟩
theorem links_of {fuel : Nat} {v : Value} {x : DataW H × List MemPlace} (h : DataW.trod enc Tryz.prog W base spare held fuel 22 v.cells.toList = some x) (hv : ∃ a n c, v = .slice a n c) :
    ∃ (p : Option Addr) (c : Nat) (l : List Link), v = .slice p l.length c ∧ (∀ x ∈ l, LinkOk x) ∧ Rd W p (l.flatMap linkC) := by
  obtain ⟨p, n, c, rfl⟩ := hv
  obtain ⟨p2, n2, c2, he, _, hr⟩ := open_rows u22 c28 (by decide) h
  have he : (Value.slice p n c) = .slice p2 n2 c2 := by simpa [Value.cells] using he
  cases he
  obtain ⟨l, hl, hp⟩ := list_of (p := fun i (z : Link) => LinkOk z ∧ ∀ j u, (linkC z)[j]? = some u → ∃ b o, p = some ⟨b, o, none⟩ ∧ W.cell? ⟨b, o + (i * 4 + j), none⟩ = some u) n (fun i hi => by
    obtain ⟨b, o, m, row, y, hpp, hrl, hrc, ht⟩ := hr i hi
    obtain ⟨z0, e0, l0, g0⟩ := int_field flds28 u28 u5 c5 ht (i := 0) rfl (by omega)
    obtain ⟨z1, e1, l1, g1⟩ := int_field flds28 u28 u5 c5 ht (i := 1) rfl (by omega)
    obtain ⟨z2, e2, l2, g2⟩ := int_field flds28 u28 u5 c5 ht (i := 2) rfl (by omega)
    obtain ⟨z3, e3, l3, g3⟩ := int_field flds28 u28 u26 c26 ht (i := 3) rfl (by omega)
    simp only [klo, khi] at l0 l1 l2 l3 g0 g1 g2 g3
    obtain ⟨n0, rfl⟩ := Int.eq_ofNat_of_zero_le l0
    obtain ⟨n1, rfl⟩ := Int.eq_ofNat_of_zero_le l1
    obtain ⟨n2, rfl⟩ := Int.eq_ofNat_of_zero_le l2
    obtain ⟨n3, rfl⟩ := Int.eq_ofNat_of_zero_le l3
    refine ⟨⟨n0, n1, n2, n3⟩, ⟨by show n0 < 256; omega, by show n1 < 256; omega, by show n2 < 256; omega, by show n3 < 65536; omega⟩, fun j u hj => ⟨b, o, hpp, ?_⟩⟩
    match j, hj with
    | 0, hj => exact hrc 0 u (by rw [e0]; exact hj)
    | 1, hj => exact hrc 1 u (by rw [e1]; exact hj)
    | 2, hj => exact hrc 2 u (by rw [e2]; exact hj)
    | 3, hj => exact hrc 3 u (by rw [e3]; exact hj)
    | j + 4, hj => simp [linkC] at hj)
  refine ⟨p, c, l, by rw [hl], fun x hx => ?_, rd_rows linkC_len (by decide) fun i a ha => (hp i a ha).2⟩
  obtain ⟨i, hi, rfl⟩ := List.getElem_of_mem hx
  exact (hp i _ (List.getElem?_eq_getElem hi)).1
theorem moves_of {fuel : Nat} {v : Value} {x : DataW H × List MemPlace} (h : DataW.trod enc Tryz.prog W base spare held fuel 24 v.cells.toList = some x) (hv : ∃ a n c, v = .slice a n c) :
    ∃ (p : Option Addr) (c : Nat) (l : List Mv), v = .slice p l.length c ∧ l.length ≤ maxLen ∧ (∀ x ∈ l, x.n ≤ 9223372036854775807) ∧ Rd W p (l.flatMap mvC) := by
  obtain ⟨p, n, c, rfl⟩ := hv
  obtain ⟨p2, n2, c2, he, hm, hr⟩ := open_rows u24 c30 (by decide) h
  have he : (Value.slice p n c) = .slice p2 n2 c2 := by simpa [Value.cells] using he
  cases he
  obtain ⟨l, hl, hp⟩ := list_of (p := fun i (z : Mv) => z.n ≤ 9223372036854775807 ∧ ∀ j u, (mvC z)[j]? = some u → ∃ b o, p = some ⟨b, o, none⟩ ∧ W.cell? ⟨b, o + (i * 3 + j), none⟩ = some u) n (fun i hi => by
    obtain ⟨b, o, m, row, y, hpp, hrl, hrc, ht⟩ := hr i hi
    obtain ⟨z0, e0, _, _⟩ := int_field flds30 u30 u5 c5 ht (i := 0) rfl (by omega)
    obtain ⟨z1, e1, _, _⟩ := int_field flds30 u30 u3 c3 ht (i := 1) rfl (by omega)
    obtain ⟨z2, e2, _, g2⟩ := int_field flds30 u30 u3 c3 ht (i := 2) rfl (by omega)
    simp only [khi] at g2
    refine ⟨⟨z0, z1, z2⟩, by show z2 ≤ _; omega, fun j u hj => ⟨b, o, hpp, ?_⟩⟩
    match j, hj with
    | 0, hj => exact hrc 0 u (by rw [e0]; exact hj)
    | 1, hj => exact hrc 1 u (by rw [e1]; exact hj)
    | 2, hj => exact hrc 2 u (by rw [e2]; exact hj)
    | j + 3, hj => simp [mvC] at hj)
  refine ⟨p, c, l, by rw [hl], by rw [hl]; exact hm, fun x hx => ?_, rd_rows mvC_len (by decide) fun i a ha => (hp i a ha).2⟩
  obtain ⟨i, hi, rfl⟩ := List.getElem_of_mem hx
  exact (hp i _ (List.getElem?_eq_getElem hi)).1
theorem bytes_of {fuel : Nat} {v : Value} {x : DataW H × List MemPlace} (h : DataW.trod enc Tryz.prog W base spare held fuel 23 v.cells.toList = some x) (hv : ∃ a n c, v = .slice a n c) :
    ∃ (p : Option Addr) (m c : Nat) (l : List UInt8), v = .slice p m c ∧ l.length = m ∧ Rd W p (bs l) := by
  obtain ⟨p, n, c, rfl⟩ := hv
  obtain ⟨p2, n2, c2, he, _, hr⟩ := open_rows u23 c5 (by decide) h
  have he : (Value.slice p n c) = .slice p2 n2 c2 := by simpa [Value.cells] using he
  cases he
  obtain ⟨l, hl, hp⟩ := list_of (p := fun i (z : UInt8) => ∃ b o, p = some ⟨b, o, none⟩ ∧ W.cell? ⟨b, o + i, none⟩ = some (.int .u8 (z.toNat : Int))) n (fun i hi => by
    obtain ⟨b, o, m, row, y, hpp, hrl, hrc, ht⟩ := hr i hi
    match row, hrl with
    | [w], _ =>
      obtain ⟨z, hz, _, hw⟩ := DataW.trod_int u5 ht
      simp only [List.cons.injEq, and_true] at hz
      subst hz
      have hw := wf_bd hw
      simp only [klo, khi] at hw
      obtain ⟨z, rfl⟩ := Int.eq_ofNat_of_zero_le hw.1
      have := hrc 0 _ rfl
      rw [Nat.mul_one, Nat.add_zero] at this
      refine ⟨UInt8.ofNat z, b, o, hpp, ?_⟩
      rw [this, UInt8.toNat_ofNat_of_lt' (by show z < 256; omega)])
  refine ⟨p, n, c, l, rfl, hl, fun j u hj => ?_⟩
  have hjl : j < l.length := by
    have := (List.getElem?_eq_some_iff.1 hj).1
    simpa [bs] using this
  rw [bs_get l j hjl] at hj
  obtain ⟨b, o, hp, hc⟩ := hp j l[j] (List.getElem?_eq_getElem hjl)
  simp only [Option.some.injEq] at hj
  subst hj
  exact ⟨b, o, hp, hc⟩
theorem slice_in {t e : TypeId} {v : Value} {r : Reach} (hu : Tryz.prog.underlying t = some (.slice e)) (h : Value.okWide Tryz.prog W r base t v) : ∃ a n c, v = .slice a n c ∧ ∀ x, a = some x → x.block < W.heap.size := by
  obtain ⟨a, n, c, rfl⟩ := okWide_slice hu h
  refine ⟨a, n, c, rfl, fun x hx => ?_⟩
  subst hx
  simp only [Value.okWide, hu, Cell.okWide, Cell.ok] at h
  obtain ⟨_, _, _, _, row, cells, hs, _⟩ := h
  unfold World.shape? at hs
  cases hb : W.heap[x.block]? with
  | none => simp [hb] at hs
  | some o => exact (Array.getElem?_eq_some_iff.1 hb).1
end

theorem lifted (os : Os) (started : os.Started) (H : Type) (enc : TypeId × Value → H) :
    ReturnsInHanded {} Tryz.checked os 3 .any (Rows.topTreeSpec.pre6 enc Tryz.prog Tryz.f3 Rows.topTreeRow.domain false) (Rows.topTreeSpec.post enc Tryz.prog Tryz.f3 false true false false) := by
  refine returnsInHanded_of_change (C := Tryz.checked) own started (by kernel_rfl) Tryz.func3
    (ChangeSpec.witness6 (enc := enc) (C := Tryz.checked) (os := os) false ⟨#[], #[.slice none 0 0, .slice none 0 0, .slice none 0 0], []⟩ 8 (by kernel_rfl) (by kernel_rfl) (by kernel_rfl) (by kernel_rfl)) ?_
  intro W base args ds gs before hval0 hW _ _
  have hval : ∀ (j : Nat) t v, Tryz.f3.params[j]? = some t → args[j]? = some v → Value.okWide Tryz.prog W .any base t v := hval0
  have hW' := hW
  obtain ⟨p, q, hA0, hV, rfl, hfz, hnd⟩ := hW
  have hA : DataW.TrodAll enc Tryz.prog W 0 (fun _ => true) true Tryz.f3.params.toList args.toList ds p := hA0
  rw [Tryz.params3] at hA hval
  obtain ⟨v0, v1, v2, d0, d1, d2, p0, p1, p2, rfl, rfl, rfl, h0, h1, h2⟩ := trodAll_three hA
  obtain ⟨rfl, rfl⟩ := trodVars_none hV
  have k0 := h0
  have k1 := h1
  have k2 := h2
  have lt0 : ∀ x ∈ p0, x.block < W.heap.size := by obtain ⟨m, hm⟩ := k0; exact DataW.trod_lt m _ _ _ hm
  have lt1 : ∀ x ∈ p1, x.block < W.heap.size := by obtain ⟨m, hm⟩ := k1; exact DataW.trod_lt m _ _ _ hm
  have lt2 : ∀ x ∈ p2, x.block < W.heap.size := by obtain ⟨m, hm⟩ := k2; exact DataW.trod_lt m _ _ _ hm
  obtain ⟨f0, h0⟩ := h0
  obtain ⟨f1, h1⟩ := h1
  obtain ⟨f2, h2⟩ := h2
  obtain ⟨a1, n1, c1, e1, hlt⟩ := slice_in u23 (hval 1 23 v1 rfl rfl)
  obtain ⟨p, c, links, rfl, hb, hrd⟩ := links_of h0 (okWide_slice u22 (hval 0 22 v0 rfl rfl))
  obtain ⟨pd, m, cd, l, rfl, hl, hrdd⟩ := bytes_of h1 ⟨a1, n1, c1, e1⟩
  obtain ⟨pm, cm, moves, rfl, hml, hmn, hrdm⟩ := moves_of h2 (okWide_slice u24 (hval 2 24 v2 rfl rfl))
  obtain rfl : pd = a1 := by cases e1; rfl
  have hwalk := toptree_c p c links hb pd m cd l hl pm cm moves hmn (by unfold maxLen at hml; omega) W ⟨List.nodup_nil, fun r hr => by cases hr⟩ ⟨hrd, hrdd, hrdm, hlt⟩
  clear hA0 hval0
  refine hwalk.mono fun e W' ⟨_, _, he, ho, _, _⟩ => ?_
  subst he
  have bel : Below W.heap.size W W' := ho.below
  exact ⟨_, rfl, _, _, _, [], _, [], hW', trodAll_mk1 (shut_bool u4 _), (trodAll_mk3 (Below.trod laidOut (by kernel_rfl) (of_decide_eq_true (by kernel_rfl)) k0 bel lt0) (Below.trod laidOut (by kernel_rfl) (of_decide_eq_true (by kernel_rfl)) k1 bel lt1) (Below.trod laidOut (by kernel_rfl) (of_decide_eq_true (by kernel_rfl)) k2 bel lt2)), rfl, bel.frame _, fun h => by cases h⟩

theorem topTree_holds : Rows.TopTreeSaid :=
  OpenClaim.holds_of_wide 3 Tryz.f3 rfl rfl rfl rfl rfl rfl rfl ⟨rfl, rfl, rfl, rfl, rfl⟩ rfl rfl rfl rfl rfl (by kernel_rfl) Tryz.func3 (by kernel_rfl)
    (of_decide_eq_true (by kernel_rfl)) (by unfold Func.isWrapper; first | (rw [if_pos (by decide +kernel)]; kernel_rfl) | (rw [if_neg (by decide +kernel)]; exact ⟨rfl, rfl⟩))
    (fun os started H enc _ => lifted os started H enc)
#print axioms topTree_holds
end Go.Proofs.YtencghlmckbmlaaGreat
