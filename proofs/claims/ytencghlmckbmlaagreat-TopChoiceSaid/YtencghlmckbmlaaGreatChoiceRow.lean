/- The row of TopChoice: what the arguments give the walk, the statement. -/
import Derived.Test.YtencghlmckbmlaaGreatCTop5
import Derived.ProofKit
import Derived.Handed
import Derived.ReadsInBook
import Derived.OpenShut
import Derived.ChangeArms
import Derived.Carry
import Derived.Lay
import Derived.Below
namespace Go.Proofs.YtencghlmckbmlaaGreat
open Go Go.Sx Go.ChangeShapes Go.WideShapes Go.ChangeAt Go.RowKit
set_option maxRecDepth 100000

theorem own : ownKnob Tryz.prog.godebug = none := by kernel_rfl
theorem laidOut : laidOutB Tryz.prog = true := by kernel_rfl
theorem u5 : Tryz.prog.underlying 5 = some (.int .u8) := by kernel_rfl
theorem u26 : Tryz.prog.underlying 26 = some (.int .u16) := by kernel_rfl
theorem u32 : Tryz.prog.underlying 32 = some (.int .i16) := by kernel_rfl
theorem u4 : Tryz.prog.underlying 4 = some .bool := by kernel_rfl
theorem u9 : Tryz.prog.underlying 9 = some .string := by kernel_rfl
theorem u35 : Tryz.prog.underlying 35 = some (.slice 34) := by kernel_rfl
theorem u36 : Tryz.prog.underlying 36 = some (.slice 26) := by kernel_rfl
theorem u34 : Tryz.prog.underlying 34 = some (.struct (Tryz.prog.fieldsOf 34)) := by kernel_rfl
theorem c5 : Tryz.prog.cellsOf 5 = 1 := by kernel_rfl
theorem c26 : Tryz.prog.cellsOf 26 = 1 := by kernel_rfl
theorem c32 : Tryz.prog.cellsOf 32 = 1 := by kernel_rfl
theorem c4 : Tryz.prog.cellsOf 4 = 1 := by kernel_rfl
theorem c9 : Tryz.prog.cellsOf 9 = 1 := by kernel_rfl
theorem c34 : Tryz.prog.cellsOf 34 = 7 := by kernel_rfl
theorem flds34 : ((Tryz.prog.fieldsOf 34).map fun f => (f.type, f.offset)) = #[(32, 0), (32, 1), (5, 2), (5, 3), (9, 4), (26, 5), (4, 6)] := by kernel_rfl
theorem fld_of {t : TypeId} {A : Array (TypeId × Nat)} (e : ((Tryz.prog.fieldsOf t).map fun f => (f.type, f.offset)) = A) {i u o : Nat} (h : A[i]? = some (u, o)) : ∃ f : Field, (Tryz.prog.fieldsOf t)[i]? = some f ∧ f.type = u ∧ f.offset = o := by
  rw [← e, Array.getElem?_map] at h
  obtain ⟨f, h1, h2⟩ := Option.map_eq_some_iff.1 h
  simp only [Prod.mk.injEq] at h2
  exact ⟨f, h1, h2.1, h2.2⟩
theorem wf_bd {k : IntKind} {n : Int} (h : (Lit.int k n).wf = true) : klo k ≤ n ∧ n ≤ khi k := by
  have h1 : k.min = klo k := by cases k <;> rfl
  have h2 : k.max = khi k := by cases k <;> rfl
  simp only [Lit.wf, Bool.and_eq_true, decide_eq_true_eq, h1, h2] at h
  exact h

section
variable {H : Type} {enc : TypeId × Value → H} {W : World} {base : Nat} {spare : Nat → Bool} {held : Bool}
theorem list_of {α : Type} {p : Nat → α → Prop} : ∀ n, (∀ i, i < n → ∃ a, p i a) → ∃ l : List α, l.length = n ∧ ∀ i a, l[i]? = some a → p i a
  | 0, _ => ⟨[], rfl, fun i a h => by simp at h⟩
  | n + 1, h => by
    obtain ⟨l, hl, hp⟩ := list_of n (fun i hi => h i (by omega))
    obtain ⟨a, ha⟩ := h n (by omega)
    refine ⟨l ++ [a], by simp [hl], fun i b hb => ?_⟩
    by_cases hi : i < n
    · rw [List.getElem?_append_left (by omega)] at hb
      exact hp i b hb
    · rw [List.getElem?_append_right (by omega)] at hb
      have : i - l.length = 0 := by
        have := (List.getElem?_eq_some_iff.1 hb).1
        simp at this
        omega
      rw [this] at hb
      simp at hb
      subst hb
      have : i = n := by omega
      rw [this]
      exact ha
/-- Rows of records, cell by cell. -/
theorem rd_rows {α : Type} {f : α → List Value} {s : Nat} (hf : ∀ x, (f x).length = s) (hs : 0 < s) {p : Option Addr} {l : List α}
    (h : ∀ i a, l[i]? = some a → ∀ j u, (f a)[j]? = some u → ∃ b o, p = some ⟨b, o, none⟩ ∧ W.cell? ⟨b, o + (i * s + j), none⟩ = some u) : Rd W p (l.flatMap f) := by
  intro q u hq
  have hql : q < l.length * s := by
    have := (List.getElem?_eq_some_iff.1 hq).1
    rwa [fm_length hf] at this
  have hi : q / s < l.length := (Nat.div_lt_iff_lt_mul hs).2 hql
  have hj : q % s < (f l[q / s]).length := by rw [hf]; exact Nat.mod_lt _ hs
  have hqe : q / s * s + q % s = q := Nat.div_add_mod' q s
  have hg := fm_get hf l (q / s) hi (q % s) _ (List.getElem?_eq_getElem hj)
  rw [hqe, hq] at hg
  obtain ⟨b, o, hp, hc⟩ := h (q / s) _ (List.getElem?_eq_getElem hi) (q % s) u (by rw [List.getElem?_eq_getElem hj]; exact hg.symm)
  rw [hqe] at hc
  exact ⟨b, o, hp, hc⟩
/-- The elements of a slice of records, opened. -/
theorem open_rows {P : Program} {t e : TypeId} {k fuel : Nat} {cs : List Value} {x : DataW H × List MemPlace} (ht : P.underlying t = some (.slice e)) (hc : P.cellsOf e = k) (hk : 0 < k) (h : DataW.trod enc P W base spare held fuel t cs = some x) :
    ∃ a len cap, cs = [.slice a len cap] ∧ len ≤ maxLen ∧ ∀ i, i < len → ∃ b o n row y, a = some ⟨b, o, none⟩ ∧ row.length = k ∧ (∀ j u, row[j]? = some u → W.cell? ⟨b, o + (i * k + j), none⟩ = some u) ∧ DataW.trod enc P W base spare held n e row = some y := by
  rcases DataW.trod_slice ht h with ⟨rfl, _⟩ | ⟨a, len, cap, elems, rest, n, _, rfl, rfl, hb, hl, hm, hlen, hel, hsp, hns⟩
  · exact ⟨none, 0, 0, rfl, Nat.zero_le _, fun i hi => by omega⟩
  · refine ⟨some a, len, cap, rfl, by omega, fun i hi => ?_⟩
    have h1 := hel i hi
    rw [List.getElem?_eq_getElem (by omega), hc] at h1
    obtain ⟨cs', hcs, ht'⟩ := Option.bind_eq_some_iff.1 h1
    obtain ⟨_, hcl, hat⟩ := World.cells?_some hcs
    obtain ⟨b, o, spot⟩ := a
    have hspot : spot = none := by
      have h2 := hel 0 (by omega)
      rw [List.getElem?_eq_getElem (by omega), hc] at h2
      obtain ⟨cs2, hcs2, _⟩ := Option.bind_eq_some_iff.1 h2
      obtain ⟨_, hcl2, hat2⟩ := World.cells?_some hcs2
      have h0 : 0 < cs2.length := by omega
      have := hat2 (i := 0) (by first | omega | simp; omega)
      rw [List.getElem?_eq_getElem h0] at this
      simpa [Addr.add] using World.cell?_spot this
    subst hspot
    refine ⟨b, o, n, cs', _, rfl, hcl, fun j u hj => ?_, ht'⟩
    have hjl := (List.getElem?_eq_some_iff.1 hj).1
    have := hat (i := j) (by first | omega | simp; omega)
    rw [hj, Addr.add_lit, Addr.add_lit, Nat.add_assoc] at this
    exact this
end

section
variable {H : Type} {enc : TypeId × Value → H} {W : World} {base : Nat} {spare : Nat → Bool} {held : Bool}
/-- A field of a record that is an integer. -/
theorem int_field {t ft : TypeId} {A : Array (TypeId × Nat)} {k : IntKind} {n : Nat} {row : List Value} {y : DataW H × List MemPlace} (e : ((Tryz.prog.fieldsOf t).map fun f => (f.type, f.offset)) = A) (ht : Tryz.prog.underlying t = some (.struct (Tryz.prog.fieldsOf t)))
    (hu : Tryz.prog.underlying ft = some (.int k)) (hc : Tryz.prog.cellsOf ft = 1) (h : DataW.trod enc Tryz.prog W base spare held n t row = some y) {i o : Nat} (hi : A[i]? = some (ft, o)) (ho : o < row.length) : ∃ z : Int, row[o]? = some (.int k z) ∧ klo k ≤ z ∧ z ≤ khi k := by
  obtain ⟨ys, m, _, _, _, hyl, hg⟩ := DataW.trod_struct ht h
  obtain ⟨f, h1, rfl, rfl⟩ := fld_of e hi
  have h2 := hg i f h1
  have hil : i < ys.length := by
    rw [hyl]
    exact (Array.getElem?_eq_some_iff.1 h1).1
  rw [hc, List.getElem?_eq_getElem hil] at h2
  have e1 : (row.drop f.offset).take 1 = [row[f.offset]] := by rw [List.drop_eq_getElem_cons ho]; rfl
  rw [e1] at h2
  obtain ⟨z, hz, _, hw⟩ := DataW.trod_int hu h2
  simp only [List.cons.injEq, and_true] at hz
  exact ⟨z, by rw [List.getElem?_eq_getElem ho, hz], wf_bd hw⟩
/-- A field of a record, as one cell. -/
theorem one_field {t ft : TypeId} {A : Array (TypeId × Nat)} {n : Nat} {row : List Value} {y : DataW H × List MemPlace} (e : ((Tryz.prog.fieldsOf t).map fun f => (f.type, f.offset)) = A) (ht : Tryz.prog.underlying t = some (.struct (Tryz.prog.fieldsOf t)))
    (hc : Tryz.prog.cellsOf ft = 1) (h : DataW.trod enc Tryz.prog W base spare held n t row = some y) {i o : Nat} (hi : A[i]? = some (ft, o)) (ho : o < row.length) : ∃ m x, DataW.trod enc Tryz.prog W base spare held m ft [row[o]] = some x := by
  obtain ⟨ys, m, _, _, _, hyl, hg⟩ := DataW.trod_struct ht h
  obtain ⟨f, h1, rfl, rfl⟩ := fld_of e hi
  have h2 := hg i f h1
  have hil : i < ys.length := by
    rw [hyl]
    exact (Array.getElem?_eq_some_iff.1 h1).1
  rw [hc, List.getElem?_eq_getElem hil] at h2
  have e1 : (row.drop f.offset).take 1 = [row[f.offset]] := by rw [List.drop_eq_getElem_cons ho]; rfl
  rw [e1] at h2
  exact ⟨m, _, h2⟩
theorem sp_of {n : Nat} {row : List Value} {y : DataW H × List MemPlace} (hl : row.length = 7) (h : DataW.trod enc Tryz.prog W base spare held n 34 row = some y) : ∃ s : Sp, SpOk s ∧ row = spC s := by
  obtain ⟨r0, r1, r2, r3, r4, r5, r6, rfl⟩ : ∃ r0 r1 r2 r3 r4 r5 r6, row = [r0, r1, r2, r3, r4, r5, r6] := by
    match row, hl with
    | [r0, r1, r2, r3, r4, r5, r6], _ => exact ⟨r0, r1, r2, r3, r4, r5, r6, rfl⟩
  obtain ⟨z0, e0, l0, g0⟩ := int_field flds34 u34 u32 c32 h (i := 0) rfl (by omega)
  obtain ⟨z1, e1, l1, g1⟩ := int_field flds34 u34 u32 c32 h (i := 1) rfl (by omega)
  obtain ⟨z2, e2, l2, g2⟩ := int_field flds34 u34 u5 c5 h (i := 2) rfl (by omega)
  obtain ⟨z3, e3, l3, g3⟩ := int_field flds34 u34 u5 c5 h (i := 3) rfl (by omega)
  obtain ⟨m4, x4, h4⟩ := one_field flds34 u34 c9 h (i := 4) (o := 4) rfl (by omega)
  obtain ⟨z5, e5, l5, g5⟩ := int_field flds34 u34 u26 c26 h (i := 5) rfl (by omega)
  obtain ⟨m6, x6, h6⟩ := one_field flds34 u34 c4 h (i := 6) (o := 6) rfl (by omega)
  obtain ⟨s4, hs4, _, _⟩ := DataW.trod_string u9 h4
  obtain ⟨b6, hb6, _⟩ := DataW.trod_bool u4 h6
  simp only [List.cons.injEq, and_true] at hs4 hb6
  simp only [klo, khi] at l0 l1 l2 l3 l5 g0 g1 g2 g3 g5
  obtain ⟨n2, rfl⟩ := Int.eq_ofNat_of_zero_le l2
  obtain ⟨n3, rfl⟩ := Int.eq_ofNat_of_zero_le l3
  obtain ⟨n5, rfl⟩ := Int.eq_ofNat_of_zero_le l5
  refine ⟨⟨z0, z1, n2, n3, s4, n5, b6⟩, ⟨⟨l0, g0⟩, ⟨l1, g1⟩, by show n2 ≤ 255; omega, by show n3 ≤ 255; omega, by show n5 ≤ 65535; omega⟩, ?_⟩
  have q0 : r0 = .int .i16 z0 := Option.some.inj e0
  have q1 : r1 = .int .i16 z1 := Option.some.inj e1
  have q2 : r2 = .int .u8 (n2 : Int) := Option.some.inj e2
  have q3 : r3 = .int .u8 (n3 : Int) := Option.some.inj e3
  have q4 : r4 = .string s4 := hs4
  have q5 : r5 = .int .u16 (n5 : Int) := Option.some.inj e5
  have q6 : r6 = .bool b6 := hb6
  rw [q0, q1, q2, q3, q4, q5, q6]
  rfl
theorem pts_of {fuel : Nat} {v : Value} {x : DataW H × List MemPlace} (h : DataW.trod enc Tryz.prog W base spare held fuel 35 v.cells.toList = some x) (hv : ∃ a n c, v = .slice a n c) :
    ∃ (p : Option Addr) (c : Nat) (l : List Sp), v = .slice p l.length c ∧ (∀ x ∈ l, SpOk x) ∧ Rd W p (l.flatMap spC) := by
  obtain ⟨p, n, c, rfl⟩ := hv
  obtain ⟨p2, n2, c2, he, _, hr⟩ := open_rows u35 c34 (by decide) h
  have he : (Value.slice p n c) = .slice p2 n2 c2 := by simpa [Value.cells] using he
  cases he
  obtain ⟨l, hl, hp⟩ := list_of (p := fun i (z : Sp) => SpOk z ∧ ∀ j u, (spC z)[j]? = some u → ∃ b o, p = some ⟨b, o, none⟩ ∧ W.cell? ⟨b, o + (i * 7 + j), none⟩ = some u) n (fun i hi => by
    obtain ⟨b, o, m, row, y, hpp, hrl, hrc, ht⟩ := hr i hi
    obtain ⟨s, hs, rfl⟩ := sp_of hrl ht
    exact ⟨s, hs, fun j u hj => ⟨b, o, hpp, hrc j u hj⟩⟩)
  refine ⟨p, c, l, by rw [hl], fun x hx => ?_, rd_rows spC_len (by decide) fun i a ha => (hp i a ha).2⟩
  obtain ⟨i, hi, rfl⟩ := List.getElem_of_mem hx
  exact (hp i _ (List.getElem?_eq_getElem hi)).1
theorem u16s_of {fuel : Nat} {v : Value} {x : DataW H × List MemPlace} (h : DataW.trod enc Tryz.prog W base spare held fuel 36 v.cells.toList = some x) (hv : ∃ a n c, v = .slice a n c) :
    ∃ (p : Option Addr) (c : Nat) (l : List Nat), v = .slice p l.length c ∧ (∀ x ∈ l, x ≤ 65535) ∧ Rd W p (l.flatMap u16C) := by
  obtain ⟨p, n, c, rfl⟩ := hv
  obtain ⟨p2, n2, c2, he, _, hr⟩ := open_rows u36 c26 (by decide) h
  have he : (Value.slice p n c) = .slice p2 n2 c2 := by simpa [Value.cells] using he
  cases he
  obtain ⟨l, hl, hp⟩ := list_of (p := fun i (z : Nat) => z ≤ 65535 ∧ ∀ j u, (u16C z)[j]? = some u → ∃ b o, p = some ⟨b, o, none⟩ ∧ W.cell? ⟨b, o + (i * 1 + j), none⟩ = some u) n (fun i hi => by
    obtain ⟨b, o, m, row, y, hpp, hrl, hrc, ht⟩ := hr i hi
    match row, hrl with
    | [w], _ =>
      obtain ⟨z, hz, _, hw⟩ := DataW.trod_int u26 ht
      simp only [List.cons.injEq, and_true] at hz
      subst hz
      have hw := wf_bd hw
      simp only [klo, khi] at hw
      obtain ⟨z, rfl⟩ := Int.eq_ofNat_of_zero_le hw.1
      exact ⟨z, by omega, fun j u hj => ⟨b, o, hpp, hrc j u hj⟩⟩)
  refine ⟨p, c, l, by rw [hl], fun x hx => ?_, rd_rows u16C_len (by decide) fun i a ha => (hp i a ha).2⟩
  obtain ⟨i, hi, rfl⟩ := List.getElem_of_mem hx
  exact (hp i _ (List.getElem?_eq_getElem hi)).1
theorem trodAll_six {P : Program} {t0 t1 t2 t3 t4 t5 : TypeId} {args : Array Value} {ds : List (DataW H)} {ps : List MemPlace} (h : DataW.TrodAll enc P W base spare held [t0, t1, t2, t3, t4, t5] args.toList ds ps) :
    ∃ v0 v1 v2 v3 v4 v5 d0 d1 d2 d3 d4 d5 p0 p1 p2 p3 p4 p5, args = #[v0, v1, v2, v3, v4, v5] ∧ ds = [d0, d1, d2, d3, d4, d5] ∧ ps = p0 ++ (p1 ++ (p2 ++ (p3 ++ (p4 ++ (p5 ++ []))))) ∧ DataW.Trod enc P W base spare held t0 v0 d0 p0 ∧ DataW.Trod enc P W base spare held t1 v1 d1 p1 ∧ DataW.Trod enc P W base spare held t2 v2 d2 p2 ∧ DataW.Trod enc P W base spare held t3 v3 d3 p3 ∧ DataW.Trod enc P W base spare held t4 v4 d4 p4 ∧ DataW.Trod enc P W base spare held t5 v5 d5 p5 := by
  obtain ⟨v0, w0, d0, e0, p0, q0, ha, rfl, rfl, h0, r0⟩ := trodAll_cons h
  obtain ⟨v1, w1, d1, e1, p1, q1, rfl, rfl, rfl, h1, r1⟩ := trodAll_cons r0
  obtain ⟨v2, w2, d2, e2, p2, q2, rfl, rfl, rfl, h2, r2⟩ := trodAll_cons r1
  obtain ⟨v3, w3, d3, e3, p3, q3, rfl, rfl, rfl, h3, r3⟩ := trodAll_cons r2
  obtain ⟨v4, w4, d4, e4, p4, q4, rfl, rfl, rfl, h4, r4⟩ := trodAll_cons r3
  obtain ⟨v5, w5, d5, e5, p5, q5, rfl, rfl, rfl, h5, r5⟩ := trodAll_cons r4
  obtain ⟨rfl, rfl, rfl⟩ := trodAll_nil r5
  exact ⟨v0, v1, v2, v3, v4, v5, d0, d1, d2, d3, d4, d5, p0, p1, p2, p3, p4, p5, by cases args; simp_all, rfl, rfl, h0, h1, h2, h3, h4, h5⟩
end

theorem lifted (os : Os) (started : os.Started) (H : Type) (enc : TypeId × Value → H) :
    ReturnsInHanded {} Tryz.checked os 4 .any (Rows.topChoiceSpec.pre6 enc Tryz.prog Tryz.f4 Rows.topChoiceRow.domain false) (Rows.topChoiceSpec.post enc Tryz.prog Tryz.f4 false true false false) := by
  refine returnsInHanded_of_change (C := Tryz.checked) own started (by kernel_rfl) Tryz.func4
    (ChangeSpec.witness6 (enc := enc) (C := Tryz.checked) (os := os) false ⟨#[], #[.int .u16 0, .agg #[.int .i16 0, .int .i16 0, .int .u8 0, .int .u8 0, .string ByteArray.empty, .int .u16 0, .bool false], .slice none 0 0, .slice none 0 0, .string ByteArray.empty, .bool false], []⟩ 8 (by kernel_rfl) (by kernel_rfl) (by kernel_rfl) (by kernel_rfl)) ?_
  intro W base args ds gs before hval0 hW _ _
  have hval : ∀ (j : Nat) t v, Tryz.f4.params[j]? = some t → args[j]? = some v → Value.okWide Tryz.prog W .any base t v := hval0
  have hW' := hW
  obtain ⟨p, q, hA0, hV, rfl, hfz, hnd⟩ := hW
  have hA : DataW.TrodAll enc Tryz.prog W 0 (fun _ => true) true Tryz.f4.params.toList args.toList ds p := hA0
  rw [Tryz.params4] at hA hval
  obtain ⟨v0, v1, v2, v3, v4, v5, d0, d1, d2, d3, d4, d5, p0, p1, p2, p3, p4, p5, rfl, rfl, rfl, h0, h1, h2, h3, h4, h5⟩ := trodAll_six hA
  obtain ⟨rfl, rfl⟩ := trodVars_none hV
  have k0 := h0
  have k1 := h1
  have k2 := h2
  have k3 := h3
  have k4 := h4
  have k5 := h5
  have lt0 : ∀ x ∈ p0, x.block < W.heap.size := by obtain ⟨m, hm⟩ := k0; exact DataW.trod_lt m _ _ _ hm
  have lt1 : ∀ x ∈ p1, x.block < W.heap.size := by obtain ⟨m, hm⟩ := k1; exact DataW.trod_lt m _ _ _ hm
  have lt2 : ∀ x ∈ p2, x.block < W.heap.size := by obtain ⟨m, hm⟩ := k2; exact DataW.trod_lt m _ _ _ hm
  have lt3 : ∀ x ∈ p3, x.block < W.heap.size := by obtain ⟨m, hm⟩ := k3; exact DataW.trod_lt m _ _ _ hm
  have lt4 : ∀ x ∈ p4, x.block < W.heap.size := by obtain ⟨m, hm⟩ := k4; exact DataW.trod_lt m _ _ _ hm
  have lt5 : ∀ x ∈ p5, x.block < W.heap.size := by obtain ⟨m, hm⟩ := k5; exact DataW.trod_lt m _ _ _ hm
  obtain ⟨f0, h0⟩ := h0
  obtain ⟨f1, h1⟩ := h1
  obtain ⟨f2, h2⟩ := h2
  obtain ⟨f3, h3⟩ := h3
  obtain ⟨z0, rfl⟩ := okWide_int u26 (hval 0 26 v0 rfl rfl)
  obtain ⟨cs1, rfl, hc1⟩ := okWide_struct u34 (hval 1 34 v1 rfl rfl)
  obtain ⟨nm4, rfl⟩ := okWide_string u9 (hval 4 9 v4 rfl rfl)
  obtain ⟨b5, rfl⟩ := okWide_bool u4 (hval 5 4 v5 rfl rfl)
  obtain ⟨z, hz, _, hw0⟩ := DataW.trod_int u26 h0
  have hz : z0 = z := by simpa [Value.cells] using hz
  subst hz
  have hw0 := wf_bd hw0
  simp only [klo, khi] at hw0
  obtain ⟨n0, rfl⟩ := Int.eq_ofNat_of_zero_le hw0.1
  obtain ⟨self, hself, hrow⟩ := sp_of (row := cs1.toList) (by rw [Array.length_toList, hc1, c34]) h1
  obtain ⟨pp, cp, pts, rfl, hpts, hrd⟩ := pts_of h2 (okWide_slice u35 (hval 2 35 v2 rfl rfl))
  obtain ⟨pw, cw, sw, rfl, hsw, hrdw⟩ := u16s_of h3 (okWide_slice u36 (hval 3 36 v3 rfl rfl))
  have hcs : cs1 = (spC self).toArray := by rw [← hrow]
  subst hcs
  have hwalk := topchoice_c n0 (by omega) self hself pp pts.length cp pts rfl hpts pw sw.length cw sw rfl hsw nm4 b5 W ⟨List.nodup_nil, fun r hr => by cases hr⟩ ⟨hrd, hrdw⟩
  clear hA0 hval0
  refine hwalk.mono fun e W' ⟨_, _, he, ho, _, _⟩ => ?_
  subst he
  have bel : Below W.heap.size W W' := ho.below
  exact ⟨_, rfl, _, _, _, [], _, [], hW', trodAll_mk1 (shut_bool u4 _), (trodAll_cons_mk (Below.trod laidOut (by kernel_rfl) (of_decide_eq_true (by kernel_rfl)) k0 bel lt0) (trodAll_cons_mk (Below.trod laidOut (by kernel_rfl) (of_decide_eq_true (by kernel_rfl)) k1 bel lt1) (trodAll_cons_mk (Below.trod laidOut (by kernel_rfl) (of_decide_eq_true (by kernel_rfl)) k2 bel lt2) (trodAll_cons_mk (Below.trod laidOut (by kernel_rfl) (of_decide_eq_true (by kernel_rfl)) k3 bel lt3) (trodAll_cons_mk (Below.trod laidOut (by kernel_rfl) (of_decide_eq_true (by kernel_rfl)) k4 bel lt4) (trodAll_mk1 (Below.trod laidOut (by kernel_rfl) (of_decide_eq_true (by kernel_rfl)) k5 bel lt5))))))), rfl, bel.frame _, fun h => by cases h⟩

theorem topChoice_holds : Rows.TopChoiceSaid :=
  OpenClaim.holds_of_wide 4 Tryz.f4 rfl rfl rfl rfl rfl rfl rfl ⟨rfl, rfl, rfl, rfl, rfl⟩ rfl rfl rfl rfl rfl (by kernel_rfl) Tryz.func4 (by kernel_rfl)
    (of_decide_eq_true (by kernel_rfl)) (by unfold Func.isWrapper; first | (rw [if_pos (by decide +kernel)]; kernel_rfl) | (rw [if_neg (by decide +kernel)]; exact ⟨rfl, rfl⟩))
    (fun os started H enc _ => lifted os started H enc)
#print axioms topChoice_holds
end Go.Proofs.YtencghlmckbmlaaGreat
