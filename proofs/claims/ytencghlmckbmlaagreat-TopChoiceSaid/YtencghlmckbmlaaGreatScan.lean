/- Further rules: texts, strings of bytes, an append of zeros behind some records, places in rows. Conditions: those of the rules. -/
import Derived.Test.YtencghlmckbmlaaGreatCel
import Derived.Laws.IdiomStrings
namespace Go.Sx
open Go Go.RowKit

theorem Q.convStrP {P : Program} {W0 : World} {gs : List Nat} {E : List (Nat × Value)} {L : List Rs} {ts td e : TypeId} {x : Operand} {p : Option Addr} {m c s by_ : Nat} {l : List UInt8} (ht : tySlice P ts = some (e, s, by_)) (he : tyInt P e = some .u8) (hd : P.underlying td = some .string) (hx : ev E x = some (.slice p m c)) (hl : l.length = m)
    (hrd : ∀ W, Only gs W0 W → Own W L → Rd W p (bs l)) : Quiet P W0 gs E L (.convert ts td x) (.string (strOf l)) := by
  by_cases h0 : l = []
  · subst h0
    have hm : m = 0 := by simpa using hl.symm
    subst hm
    intro a W dst ty pos after g hev ho hw
    obtain ⟨i, hu, _⟩ := tySlice_spec ht
    have hue : P.underlying e = some (.int .u8) := by
      unfold tyInt at he
      split at he
      · simp only [Option.some.injEq] at he
        subst he
        assumption
      · cases he
    cases p with
    | none => simp [execOp, hev x _ hx, run_convert_bytes_string W ts td e _ _ _ hu hue hd, Conv.bytesToString, strOf]
    | some q =>
      have hcells : (loadCells q 0).run P W = .ok (([] : List Int).map (Value.int .u8)).toArray W := by
        have := run_loadCells_list (P := P) W q [] (fun j v hv => by simp at hv)
        simpa using this
      simp [execOp, hev x _ hx, run_convert_bytes_string W ts td e _ _ _ hu hue hd, run_bytesToString W _ _ _ _ hcells, strOf]
  · intro a W dst ty pos after g hev ho hw
    have hr := hrd W ho hw
    obtain ⟨b, o, rfl⟩ := hr.pos (by rw [bs_length]; exact List.length_pos_iff.2 h0)
    exact Q.convStr ht he hd hx hl hrd a W dst ty pos after g hev ho hw
theorem strOf_eq (l : List UInt8) : strOf l = ⟨l.toArray⟩ := by
  unfold strOf
  rw [foldl_push_byteCells]
  have he0 : ByteArray.empty.data = #[] := rfl
  rw [he0]
  simp
theorem strOf_back (b : ByteArray) : strOf b.data.toList = b := by
  rw [strOf_eq]

section
variable {P : Program} {W0 : World} {gs : List Nat} {n : Nat} {E E' : List (Nat × Value)} {L L' : List Rs} {K : Act → World → Prop}
  {Q : Exit → Act → World → Prop} {a : Act} {W : World}
theorem Q.lenStr {t : TypeId} {x : Operand} {b : ByteArray} (ht : P.underlying t = some .string) (hx : ev E x = some (.string b)) : Quiet P W0 gs E L (.call ⟨.builtin .len, #[x], #[t]⟩) (.int .i64 (b.size : Int)) := by
  intro a W dst ty pos after g he _ _
  simp [execOp, resolve, invoke, builtin, he x _ hx, Builtin.len_, run_underlying ht, goInt]
theorem Q.eqStrB {t t' : TypeId} {x y : Operand} {u v : ByteArray} (hx : ev E x = some (.string u)) (hy : ev E y = some (.string v)) : Quiet P W0 gs E L (.binOp .eql t x y t') (.bool (u.toList == v.toList)) :=
  Q.bin hx hy (fun _ => by rw [eqGuard_at_string]; rfl) fun W => by simp [binOp, Op.stringOp]
theorem Q.neStrB {t t' : TypeId} {x y : Operand} {u v : ByteArray} (hx : ev E x = some (.string u)) (hy : ev E y = some (.string v)) : Quiet P W0 gs E L (.binOp .neq t x y t') (.bool (!(u.toList == v.toList))) :=
  Q.bin hx hy (fun _ => by rw [eqGuard_at_string]; rfl) fun W => by simp [binOp, Op.stringOp]

theorem own_newF (h : Own W L) (o : Obj) (H : World → Prop) (hH : ∀ W' : World, W'.heap[W.heap.size]? = some o → H W') : Own (W.alloc o) (.frz [W.heap.size] H :: L) := by
  have hlt := own_lt h
  refine ⟨?_, ?_⟩
  · simp only [List.flatMap_cons, Rs.ids, List.cons_append, List.nil_append, List.nodup_cons]
    exact ⟨fun hm => by have := hlt _ hm; omega, h.nodup⟩
  · intro r hr
    rcases List.mem_cons.1 hr with rfl | hr
    · have hb := World.alloc_heap_new W o
      refine ⟨fun k hk => ?_, fun W' hk => hH W' ?_⟩
      · rw [List.mem_singleton] at hk
        subst hk
        exact (Array.getElem?_eq_some_iff.1 hb).1
      · rw [hk _ (List.mem_singleton.2 rfl)]
        exact hb
    · exact Rs.stable (h.all r hr) fun k hk => Go.heap_alloc_old W _ (Rs.lt (h.all r hr) k hk)
theorem St.allocF (h : St W0 gs n E L a W) (o : Obj) (H : World → Prop) (hH : ∀ W' : World, W'.heap[W.heap.size]? = some o → H W') : St W0 gs n E (.frz [W.heap.size] H :: L) a (W.alloc o) :=
  h.world (only_alloc h.only _) (own_newF h.own o H hH) (by
    intro k hk
    simp only [List.flatMap_cons, Rs.ids, List.cons_append, List.nil_append, List.mem_cons] at hk
    rcases hk with rfl | hk
    · exact .inr h.only.size
    · exact h.fresh k hk) fun D hD hd => ⟨Go.heap_alloc_old W _ hD, by
      simp only [List.flatMap_cons, Rs.ids, List.cons_append, List.nil_append, List.mem_cons, not_or]
      exact ⟨by omega, hd⟩⟩
theorem St.drewF (st : St W0 gs n E L a W) : St W0 gs n E L a W.drew := ⟨st.defers.move fun _ _ hd => ⟨rfl, hd⟩, st.size, st.env, ⟨st.only.os, st.only.tape, st.only.output, st.only.size, st.only.block⟩, ⟨st.own.nodup, fun r hr => Rs.stable (st.own.all r hr) fun _ _ => rfl⟩, st.fresh⟩
theorem bytesRow_get (b : ByteArray) (c : Nat) (j : Nat) (u : Value) (h : (bs b.data.toList)[j]? = some u) : (bytesRow b c)[j]? = some u := by
  unfold bytesRow
  rw [Array.getElem?_append_left]
  · rw [Array.getElem?_map]
    simp only [bs, List.getElem?_map, Array.getElem?_toList] at h
    exact h
  · have := (List.getElem?_eq_some_iff.1 h).1
    simpa [bs] using this
/-- '[]byte(s)'. -/
theorem O.strBytes {ts td e : TypeId} {s by_ : Nat} {x : Operand} {b : ByteArray} {d : Nat} {t' : TypeId} {pos : String} {after : Array Edge} {gd : Option (Nat × Bool)}
    (hs : P.underlying ts = some .string) (ht : tySlice P td = some (e, s, by_)) (he : tyInt P e = some .u8) (hx : ev E x = some (.string b)) (hd : d < n)
    (h : ∀ g c', b.data.toList.length ≤ c' → VK W0 gs n K ((d, .slice (some ⟨g, 0, none⟩) b.data.toList.length c') :: E) (.frz [g] (fun W => Rd W (some ⟨g, 0, none⟩) (bs b.data.toList)) :: L)) :
    VO P W0 gs n Q ⟨some d, .convert ts td x, t', pos, after, gd⟩ K E L := by
  intro a W st
  obtain ⟨i, hu, _⟩ := tySlice_spec ht
  have hue : P.underlying e = some (.int .u8) := by
    unfold tyInt at he
    split at he
    · simp only [Option.some.injEq] at he
      subst he
      assumption
    · cases he
  have hr := run_bytes_of_string (P := P) W ts td e b hs hu hue
  have hge := grownCap_ge W b.size 0 e
  have hsz : b.size = b.data.toList.length := (Array.length_toList (xs := b.data)).symm
  rw [hsz] at hr hge
  generalize hcc : grownCap W b.data.toList.length 0 e = c' at *
  have hexec : (execOp a.eval ⟨some d, .convert ts td x, t', pos, after, gd⟩).run P W = .ok (.value (.slice (some ⟨W.heap.size, 0, none⟩) b.data.toList.length c')) (W.drew.alloc (.cells (bytesRow b c') e ((bytesRow b c').size, (bytesRow b c').size + 1))) := by
    simp [execOp, st.eval hx, hr]
  unfold Oper.wp
  rw [hexec, Oper.upon_value]
  have sa := st.drewF.allocF (.cells (bytesRow b c') e ((bytesRow b c').size, (bytesRow b c').size + 1)) (fun W' => Rd W' (some ⟨W.heap.size, 0, none⟩) (bs b.data.toList)) fun W' hb j u hj => ⟨W.heap.size, 0, rfl, by
    rw [Nat.zero_add, cell_of_row W' W.heap.size j _ e _ hb]
    exact bytesRow_get b c' j u hj⟩
  exact h W.heap.size c' hge _ _ (sa.put hd _)

/-- 'append(x[:i], make([]T, m)...)' that does not fit. -/
theorem O.appendMakeI {t ti e : TypeId} {s by_ : Nat} {z : Value} {x y : Operand} {b o i c m : Nat} {olds : List Value} {d : Nat} {t' : TypeId} {pos : String} {after : Array Edge} {gd : Option (Nat × Bool)}
    (ht : tySlice P t = some (e, s, by_)) (hti : tyInt P ti = some .i64) (hz : (P.info? e).bind (·.zero) = some z) (hzs : z.cells.size = s) (hs : 0 < s)
    (hx : ev E x = some (.slice (some ⟨b, o, none⟩) i c)) (hy : ev E y = some (.int .i64 (m : Int))) (ho : olds.length = i * s) (hrd : ∀ W, Only gs W0 W → Own W L → Rd W (some ⟨b, o, none⟩) olds) (hm0 : 0 < m) (hm : c < i + m) (hm2 : i + m ≤ 1000) (hby : by_ ≤ 1000000) (hd : d < n)
    (h : ∀ g D c', i + m ≤ c' → c' ≤ maxLen → i * s + D.length = c' * s → VK W0 gs n K ((d, .slice (some ⟨g, 0, none⟩) (i + m) c') :: E) (.blk g (olds ++ D) e :: L)) :
    VO P W0 gs n Q ⟨some d, .call ⟨.builtin .append, #[x, y], #[t, ti]⟩, t', pos, after, gd⟩ K E L := by
  intro a W st
  obtain ⟨inf, hut, hi', rfl, rfl⟩ := tySlice_spec ht
  have hzi : inf.zero = some z := by simpa [hi'] using hz
  have hui : P.underlying ti = some (.int .i64) := by
    unfold tyInt at hti
    split at hti
    · simp only [Option.some.injEq] at hti
      subst hti
      assumption
    · cases hti
  have hcap : Builtin.nextslicecap (i + m) c * inf.bytes ≤ 281474976710656 := growslice_fits (by omega) (by
    have : (i + m) * inf.bytes ≤ 1000 * 1000000 := Nat.mul_le_mul hm2 hby
    omega)
  have hmb : m * inf.bytes ≤ 281474976710656 := by
    have : m * inf.bytes ≤ 1000 * 1000000 := Nat.mul_le_mul (by omega) hby
    omega
  have sd := st.drewF
  have hold : (Builtin.firstCells inf.size i (.slice (some ⟨b, o, none⟩) i c)).run P W.drew = .ok olds.toArray W.drew := by
    have := run_loadCells_list (P := P) W.drew ⟨b, o, none⟩ olds (fun j v hj => by rw [Addr.add_lit]; exact Rd.at (hrd W.drew sd.only sd.own) hj)
    rw [ho] at this
    simpa [Builtin.firstCells] using this
  have hr := Lib.run_append_grow_zeros (P := P) W t ti t' e inf z .i64 .i64 hut hui hi' hzi (some ⟨b, o, none⟩) i c olds hold m hm0 hs hm (by omega) hmb hcap
  have hge := grownCap_ge W (i + m) c e
  have hle := grownCap_le_maxLen W (i + m) c e (by unfold maxLen; omega)
  generalize hcc : grownCap W (i + m) c e = c' at *
  have hC : olds.toArray ++ Builtin.zeroCells z.cells m ++ Builtin.zeroCells z.cells (c' - (i + m)) = (olds ++ (Builtin.zeroCells z.cells m ++ Builtin.zeroCells z.cells (c' - (i + m))).toList).toArray := by
    apply Array.ext'
    simp
  have hlen : i * inf.size + (Builtin.zeroCells z.cells m ++ Builtin.zeroCells z.cells (c' - (i + m))).toList.length = c' * inf.size := by
    simp only [Array.length_toList, Array.size_append, size_zeroCells, hzs]
    rw [← Nat.add_mul, ← Nat.add_mul]
    congr 1
    omega
  have hexec : (execOp a.eval ⟨some d, .call ⟨.builtin .append, #[x, y], #[t, ti]⟩, t', pos, after, gd⟩).run P W = .ok (.value (.slice (some ⟨W.heap.size, 0, none⟩) (i + m) c')) (W.drew.alloc (.cells (olds ++ (Builtin.zeroCells z.cells m ++ Builtin.zeroCells z.cells (c' - (i + m))).toList).toArray e)) := by
    rw [hC] at hr
    simp [execOp, resolve, invoke, builtin, st.eval hx, st.eval hy, hr]
  unfold Oper.wp
  rw [hexec, Oper.upon_value]
  exact h W.heap.size _ c' (by omega) hle hlen _ _ ((sd.alloc _ e).put hd _)
end
section
variable {W0 : World} {gs : List Nat} {n : Nat} {E : List (Nat × Value)} {L : List Rs} {K : Act → World → Prop}
/-- What follows, in any world, from what is known of frozen blocks. -/
theorem VK.know {ids : List Nat} {H : World → Prop} (p : Prop) (hm : Rs.frz ids H ∈ L) (f : ∀ W, H W → p) (h : p → VK W0 gs n K E L) : VK W0 gs n K E L := fun a W s => h (f W (Rd.frz s.own hm)) a W s
end
theorem take_ins {A Y B R : List Value} {k : Nat} (h : A.length + (Y.length + B.length) = k) : (A ++ (Y ++ (B ++ R))).take k = A ++ (Y ++ B) := by
  rw [← List.append_assoc Y B R, ← List.append_assoc A (Y ++ B) R]
  exact List.take_left' (by rw [List.length_append, List.length_append]; exact h)
theorem put_in {A T Y : List Value} {s : Nat} (hs : s + Y.length ≤ T.length) : Put (A ++ T) (A.length + s) Y (A ++ (T.take s ++ (Y ++ (T.drop s).drop Y.length))) := by
  refine put_mid ?_
  have := put_back (A := T.take s) (B := T.drop s) (ys := Y) (s := s) (by rw [List.length_take]; omega) (by rw [List.length_drop]; omega)
  rwa [List.take_append_drop] at this
end Go.Sx
