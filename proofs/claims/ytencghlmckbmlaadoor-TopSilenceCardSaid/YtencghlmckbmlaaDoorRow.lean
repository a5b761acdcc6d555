/- The row of TopSilence: what the laid variables give the walk, what the argument gives it, the statement, the card. -/
import Derived.Test.YtencghlmckbmlaaDoorSilence
import Derived.Test.YtencghlmckbmlaaDoorTie
import Derived.Test.YtencghlmckbmlaaDoorCards
import Derived.ProofKit
import Derived.LaidLaws
import Derived.Handed
import Derived.ReadsInBook
import Derived.OpenShut
import Derived.ChangeArms
import Derived.ChangeAnyMap
import Derived.Carry
import Derived.Lay
import Derived.Below
import Derived.SevenTiedAt
namespace Go.Proofs.YtencghlmckbmlaaDoor
open Go Go.Sx Go.ChangeShapes Go.WideShapes Go.ChangeAt Go.RowKit
set_option maxRecDepth 100000

theorem own : ownKnob Tryd.prog.godebug = none := by kernel_rfl
theorem laidOut : laidOutB Tryd.prog = true := by kernel_rfl
theorem u5 : Tryd.prog.underlying 5 = some (.int .u8) := by kernel_rfl
theorem u3 : Tryd.prog.underlying 3 = some (.int .i64) := by kernel_rfl
theorem u4 : Tryd.prog.underlying 4 = some .bool := by kernel_rfl
theorem u22 : Tryd.prog.underlying 22 = some (.int .u16) := by kernel_rfl
theorem u24 : Tryd.prog.underlying 24 = some (.int .u32) := by kernel_rfl
theorem u23 : Tryd.prog.underlying 23 = some (.slice 22) := by kernel_rfl
theorem u25 : Tryd.prog.underlying 25 = some (.slice 4) := by kernel_rfl
theorem u78 : Tryd.prog.underlying 78 = some (.map 5 76) := by kernel_rfl
theorem u76 : Tryd.prog.underlying 76 = some (.array 2 5) := by kernel_rfl
theorem u100 : Tryd.prog.underlying 100 = some (.array 4 3) := by kernel_rfl
theorem c3 : Tryd.prog.cellsOf 3 = 1 := by kernel_rfl
theorem c5 : Tryd.prog.cellsOf 5 = 1 := by kernel_rfl
theorem c22 : Tryd.prog.cellsOf 22 = 1 := by kernel_rfl
theorem c4 : Tryd.prog.cellsOf 4 = 1 := by kernel_rfl
theorem c76 : Tryd.prog.cellsOf 76 = 2 := by kernel_rfl
theorem c100 : Tryd.prog.cellsOf 100 = 4 := by kernel_rfl
theorem gSlots : Tryd.prog.globalNamed "hotspot/deferral.slots" = some 1 := by kernel_rfl
theorem gSubs : Tryd.prog.globalNamed "hotspot/exchange.subs" = some 0 := by kernel_rfl
theorem tSlots : (Tryd.prog.globals[1]?).map (·.type) = some 100 := by kernel_rfl
theorem tSubs : (Tryd.prog.globals[0]?).map (·.type) = some 78 := by kernel_rfl

/-- What a map that reads as a datum gives to a lookup, in this world and in each that holds the same map. -/
theorem look_laid {H : Type} {enc : TypeId × Value → H} {P : Program} {w : World} {base : Nat} {spare held : Bool} {t kt et : TypeId} {b : Nat} {key : Value} {kl : Lit} {d x : DataW H}
    (ht : P.underlying t = some (.map kt et)) (hkey : mapKey P kt key = some kl) (hd : DataW.Reads enc P w base spare held t (.map (some b)) d) (hx : ∀ zd, d.atKey kl zd = x) :
    ∃ v fuel, v.formed P et = true ∧ DataW.of enc P w base spare held fuel et v.cells.toList = some x ∧
      ∀ w' : World, w'.heap[b]? = w.heap[b]? → (Instr.lookup t (.map (some b)) key true).run P w' = .ok (.tuple #[v, .bool true]) w' := by
  obtain ⟨desc, hdesc, hik, hkl⟩ := mapKey_isKey hkey
  obtain ⟨fuel, h⟩ := hd
  cases fuel with
  | zero => simp [DataW.of] at h
  | succ fuel =>
    rcases of_map_full ht h with ⟨hcs, _⟩ | ⟨b', es, clock, entries, hcs, hb, he, hris, rfl⟩
    · simp [Value.cells] at hcs
    · simp [Value.cells] at hcs
      subst hcs
      have hxx : ∀ (y : MapEntry) (p : Lit × DataW H), (mapKey P kt y.key).bind (fun key => if Value.formed P et y.val = true then Option.map (fun d => (key, d)) (DataW.of enc P w base spare held fuel et y.val.cells.toList) else none) = some p →
          mapKey P kt y.key = some p.1 ∧ y.val.formed P et = true ∧ DataW.of enc P w base spare held fuel et y.val.cells.toList = some p.2 := by
        intro y p hp
        obtain ⟨key', hk', hz'⟩ := Option.bind_eq_some_iff.1 hp
        split at hz'
        · rename_i hf
          obtain ⟨q, hq, e⟩ := Option.map_eq_some_iff.1 hz'
          subst e
          exact ⟨hk', hf, hq⟩
        · cases hz'
      have hks : ∀ y ∈ es.toList, MapKept.IsKey desc y.key := by
        intro y hym
        obtain ⟨p, hp⟩ := WideShapes.mapM_each he y hym
        obtain ⟨desc', hd', hi', _⟩ := mapKey_isKey (hxx y p hp).1
        rw [hdesc] at hd'
        cases hd'
        exact hi'
      obtain ⟨hnone, hsome⟩ := atKey_sorted entries hris kl hkl
      rcases MapKept.findNow_spec hik es.toList 0 hks with ⟨h1, h2⟩ | ⟨j, e, h1, h2, h3⟩
      · exfalso
        have hn := hnone (fun p hp hpk => by
          obtain ⟨y, hym, hfx⟩ := mapM_mem he p hp
          exact h2 y hym (mapKey_inj (by rw [(hxx y p hfx).1, hpk]) hkey))
        have e1 := (hn .nil).symm.trans (hx .nil)
        have e2 := (hn (.agg [])).symm.trans (hx (.agg []))
        rw [← e1] at e2
        cases e2
      · obtain ⟨p, hp⟩ := WideShapes.mapM_each he e (List.mem_of_getElem? h2)
        have hpm : p ∈ entries := List.mem_of_getElem? ((mapM_some_get he j e h2).symm.trans hp)
        obtain ⟨g1, g2, g3⟩ := hxx e p hp
        have hpx : p.2 = x := by
          have := hsome p hpm (by rw [h3, hkey] at g1; exact (Option.some.inj g1).symm)
          exact (this .nil).symm.trans (hx .nil)
        refine ⟨e.val, fuel, g2, by rw [← hpx]; exact g3, fun w' hw' => ?_⟩
        have hb' : w'.heap[b]? = some (.map es clock) := hw'.trans hb
        simp [Instr.lookup, run_underlying ht, MapKept.run_getObj_map hb', MapKept.run_checkKey hdesc hik, MapKept.run_findKey hdesc h1, Result.andThen]

theorem trod_of {H : Type} {enc : TypeId × Value → H} {w : World} {base : Nat} {t : TypeId} {fuel : Nat} {cs : List Value} {x : DataW H} (hr : Tryd.prog.readableRec t = true) (hw : Tryd.prog.wideKeysFrom t = false) (hi : Tryd.prog.ifacesRec t = false)
    (hb : t < Tryd.prog.types.size ∧ t ∈ Tryd.prog.book t) (h : DataW.of enc Tryd.prog w base true false fuel t cs = some x) : ∃ ps, DataW.trod enc Tryd.prog w base (fun _ => true) false fuel t cs = some (x, ps) := by
  have e := DataW.trod_fst_book (enc := enc) (w := w) (base := base) (b := true) (held := false) laidOut hr hw (.inr hi) fuel t cs hb
  rw [h] at e
  obtain ⟨⟨d, ps⟩, h1, h2⟩ := Option.map_eq_some_iff.1 e
  exact ⟨ps, by rw [h1]; simp only at h2; rw [h2]⟩
theorem of_trod {H : Type} {enc : TypeId × Value → H} {w : World} {base : Nat} {t : TypeId} {fuel : Nat} {cs : List Value} {x : DataW H} {ps : List MemPlace} (hr : Tryd.prog.readableRec t = true) (hw : Tryd.prog.wideKeysFrom t = false) (hi : Tryd.prog.ifacesRec t = false)
    (hb : t < Tryd.prog.types.size ∧ t ∈ Tryd.prog.book t) (h : DataW.trod enc Tryd.prog w base (fun _ => true) false fuel t cs = some (x, ps)) : DataW.of enc Tryd.prog w base true false fuel t cs = some x := by
  have e := DataW.trod_fst_book (enc := enc) (w := w) (base := base) (b := true) (held := false) laidOut hr hw (.inr hi) fuel t cs hb
  rw [h] at e
  exact e.symm

/-- An array of integers whose datum is told. -/
theorem arr_cells {w : World} {base : Nat} {t e : TypeId} {k : IntKind} {n fuel : Nat} {cs : List Value} {zs : List Int} {ps : List MemPlace} (hu : Tryd.prog.underlying t = some (.array n e)) (he : Tryd.prog.underlying e = some (.int k)) (hc : Tryd.prog.cellsOf e = 1) (hcn : Tryd.prog.cellsOf t = n)
    (h : DataW.trod (fun _ => ()) Tryd.prog w base (fun _ => true) false fuel t cs = some (.agg (zs.map fun z => .lit (.int k z)), ps)) : cs = zs.map fun z => .int k z := by
  obtain ⟨xs, m, _, hx, hlen, hxl, hi⟩ := DataW.trod_array hu h
  simp only [Prod.mk.injEq, DataW.agg.injEq] at hx
  have hzl : zs.length = n := by
    have := congrArg List.length hx.1
    simp at this
    omega
  apply List.ext_getElem?
  intro i
  by_cases hin : i < n
  · have h1 := hi i hin
    rw [hc, Nat.mul_one] at h1
    have hics : i < cs.length := by omega
    have e1 : (cs.drop i).take 1 = [cs[i]] := by rw [List.drop_eq_getElem_cons hics]; rfl
    rw [e1] at h1
    have hix : i < xs.length := by omega
    rw [List.getElem?_eq_getElem hix] at h1
    obtain ⟨z, hz1, hz2, _⟩ := DataW.trod_int he h1
    have hz3 : cs[i] = .int k z := by simpa using hz1
    have hz4 : (xs.map (·.1))[i]? = some (.lit (.int k z)) := by
      rw [List.getElem?_map, List.getElem?_eq_getElem hix, hz2]
      rfl
    rw [← hx.1, List.getElem?_map] at hz4
    have hiz : i < zs.length := by omega
    rw [List.getElem?_eq_getElem hiz] at hz4
    simp at hz4
    rw [List.getElem?_eq_getElem hics, hz3, List.getElem?_map, List.getElem?_eq_getElem hiz, Option.map_some, hz4]
  · rw [List.getElem?_eq_none (by omega), List.getElem?_eq_none (by simp; omega)]

theorem laid_facts {W : World} (h : laidMet Tryd.prog Rows.topSilenceRow.laid W) : Subs W ∧ Rd W (some ⟨1, 0, none⟩) [.int .i64 7, .int .i64 3, .int .i64 2, .int .i64 2] := by
  obtain ⟨ps, ⟨g, t, cs, fuel, p, q, hg, ht, hvar, hd, hrest, _⟩, _⟩ := h
  obtain ⟨g2, t2, cs2, fuel2, p2, q2, hg2, ht2, hvar2, hd2, _, _⟩ := hrest
  obtain rfl := Option.some.inj (gSlots.symm.trans hg)
  obtain rfl := Option.some.inj (tSlots.symm.trans ht)
  obtain rfl := Option.some.inj (gSubs.symm.trans hg2)
  obtain rfl := Option.some.inj (tSubs.symm.trans ht2)
  have hcs : cs.toList = [7, 3, 2, 2].map fun z => Value.int .i64 z := arr_cells u100 u3 c3 c100 hd
  refine ⟨?_, ?_⟩
  · rcases _root_.Go.open_anymap u78 hd2 with ⟨_, hx⟩ | ⟨b, es, clock, entries, hcs2, hb, _, _, _⟩
    · simp only [Prod.mk.injEq] at hx
      exact absurd hx.1 (by intro e; cases e)
    · have hreads : DataW.Reads (fun _ => ()) Tryd.prog W 0 true false 78 (.map (some b)) Rows.laid_hotspot_exchange_subs := ⟨fuel2, by
        have := of_trod (by kernel_rfl) (by kernel_rfl) (by kernel_rfl) ⟨of_decide_eq_true (by kernel_rfl), of_decide_eq_true (by kernel_rfl)⟩ hd2
        rw [hcs2] at this
        exact this⟩
      have hblt : b < W.heap.size := (Array.getElem?_eq_some_iff.1 hb).1
      have hcell : W.cell? ⟨0, 0, none⟩ = some (.map (some b)) := by
        have := World.var?_cell hg2 hvar2 0
        have e : cs2[0]? = some (.map (some b)) := by
          have : cs2.toList[0]? = some (.map (some b)) := by rw [hcs2]; rfl
          simpa using this
        simpa [e] using this
      refine ⟨.map (some b), hcell, fun k a c hk W' ho => ?_⟩
      have key : ∀ (k a c : Int), mapKey Tryd.prog 5 (.int .u8 k) = some (.int .u8 k) → (∀ zd, (Rows.laid_hotspot_exchange_subs : DataW Unit).atKey (.int .u8 k) zd = .agg [.lit (.int .u8 a), .lit (.int .u8 c)]) →
          (Instr.lookup 78 (.map (some b)) (.int .u8 k) true).run Tryd.prog W' = .ok (.tuple #[.agg #[.int .u8 a, .int .u8 c], .bool true]) W' := by
        intro k a c hkey hx
        obtain ⟨v, fu, hf, hof, hrun⟩ := look_laid u78 hkey hreads hx
        obtain ⟨ps', htr⟩ := trod_of (by kernel_rfl) (by kernel_rfl) (by kernel_rfl) ⟨of_decide_eq_true (by kernel_rfl), of_decide_eq_true (by kernel_rfl)⟩ hof
        have hc2 : v.cells.toList = [a, c].map fun z => Value.int .u8 z := arr_cells (zs := [a, c]) u76 u5 c5 c76 htr
        have hv : v = .agg #[.int .u8 a, .int .u8 c] := by
          cases v with
          | agg l =>
            simp only [Value.cells] at hc2
            have : l = #[.int .u8 a, .int .u8 c] := by
              apply Array.ext'
              exact hc2
            rw [this]
          | _ => simp [Value.formed, u76] at hf
        rw [hrun W' (ho.block b hblt (by simp)), hv]
      simp only [List.mem_cons, Prod.mk.injEq, List.not_mem_nil, or_false] at hk
      rcases hk with ⟨rfl, rfl, rfl⟩ | ⟨rfl, rfl, rfl⟩ | ⟨rfl, rfl, rfl⟩ | ⟨rfl, rfl, rfl⟩ | ⟨rfl, rfl, rfl⟩ | ⟨rfl, rfl, rfl⟩ | ⟨rfl, rfl, rfl⟩ <;> exact key _ _ _ (by kernel_rfl) (fun zd => rfl)
  · intro j u hj
    refine ⟨1, 0, rfl, ?_⟩
    have := World.var?_cell hg hvar j
    have e : cs[j]? = some u := by
      have : cs.toList[j]? = some u := by rw [hcs]; exact hj
      simpa using this
    simpa [e] using this

/-! ### A world in which the listed variables hold what is laid -/
def subsObj : Obj := .map #[⟨.int .u8 1, .agg #[.int .u8 1, .int .u8 11], 0⟩, ⟨.int .u8 2, .agg #[.int .u8 1, .int .u8 12], 1⟩, ⟨.int .u8 3, .agg #[.int .u8 1, .int .u8 12], 2⟩, ⟨.int .u8 4, .agg #[.int .u8 2, .int .u8 8], 3⟩,
  ⟨.int .u8 5, .agg #[.int .u8 1, .int .u8 13], 4⟩, ⟨.int .u8 6, .agg #[.int .u8 1, .int .u8 8], 5⟩, ⟨.int .u8 7, .agg #[.int .u8 1, .int .u8 9], 6⟩] 7
noncomputable def laidWorld (os : Os) : World :=
  let w0 := World.holding Tryd.prog os ⟨#[], #[], []⟩
  { w0 with heap := ((w0.heap.modify 0 fun
      | .cells _ t frozen => .cells #[.map (some w0.heap.size)] t frozen
      | o => o).modify 1 fun
      | .cells _ t frozen => .cells #[.int .i64 7, .int .i64 3, .int .i64 2, .int .i64 2] t frozen
      | o => o).push subsObj }
def nilArg : Value := .agg #[.int .u8 0, .int .u8 0, .int .u8 0, .int .u16 0, .slice none 0 0, .int .u32 0, .slice none 0 0]
theorem laid_met (os : Os) (args : Array Value) : laidMet Tryd.prog Rows.topSilenceRow.laid ((laidWorld os).forCall (fun _ _ => 0) ⟨#[], args, []⟩).memory :=
  laidMet_of_run' 8 (by kernel_rfl) (by kernel_rfl)

/-! ### What the argument gives -/
section
variable {H : Type} {enc : TypeId × Value → H} {W : World} {base : Nat} {spare : Nat → Bool} {held : Bool}
theorem list_of {α : Type} {p : Nat → α → Prop} : ∀ n, (∀ i, i < n → ∃ a, p i a) → ∃ l : List α, l.length = n ∧ ∀ i a, l[i]? = some a → p i a
  | 0, _ => ⟨[], rfl, fun i a h => by simp at h⟩
  | n + 1, h => by
    obtain ⟨l, hl, hp⟩ := list_of n (fun i hi => h i (by omega))
    obtain ⟨a, ha⟩ := h n (by omega)
    refine ⟨l ++ [a], by simp [hl], fun i b hb => ?_⟩
    by_cases hi : i < n
    · rw [List.getElem?_append_left (by omega)] at hb
      exact hp i b hb
    · rw [List.getElem?_append_right (by omega)] at hb
      have : i - l.length = 0 := by
        have := (List.getElem?_eq_some_iff.1 hb).1
        simp at this
        omega
      rw [this] at hb
      simp at hb
      subst hb
      have : i = n := by omega
      rw [this]
      exact ha

theorem open_one {P : Program} {t e : TypeId} {fuel : Nat} {cs : List Value} {x : DataW H × List MemPlace} (ht : P.underlying t = some (.slice e)) (hc : P.cellsOf e = 1) (h : DataW.trod enc P W base spare held fuel t cs = some x) :
    ∃ a len cap, cs = [.slice a len cap] ∧ ∀ i, i < len → ∃ b v y n, a = some b ∧ W.cell? (b.add i) = some v ∧ DataW.trod enc P W base spare held n e [v] = some y := by
  rcases DataW.trod_slice ht h with ⟨rfl, _⟩ | ⟨a, len, cap, elems, rest, n, _, rfl, rfl, hb, hl, hm, hlen, hel, hsp, hns⟩
  · exact ⟨none, 0, 0, rfl, fun i hi => by omega⟩
  · refine ⟨some a, len, cap, rfl, fun i hi => ?_⟩
    have h1 := hel i hi
    rw [List.getElem?_eq_getElem (by omega), hc, Nat.mul_one] at h1
    obtain ⟨cs', hcs, ht'⟩ := Option.bind_eq_some_iff.1 h1
    obtain ⟨_, hcl, hat⟩ := World.cells?_some hcs
    match cs', hcl with
    | [v], _ =>
      have hv := hat (i := 0) (by first | omega | simp)
      refine ⟨a, v, _, n, rfl, ?_, ht'⟩
      simpa [Addr.add] using hv
end

theorem seven {l : List Value} (h : l.length = 7) : ∃ x0 x1 x2 x3 x4 x5 x6, l = [x0, x1, x2, x3, x4, x5, x6] := by
  match l, h with
  | [x0, x1, x2, x3, x4, x5, x6], _ => exact ⟨x0, x1, x2, x3, x4, x5, x6, rfl⟩
theorem u27 : Tryd.prog.underlying 27 = some (.struct (Tryd.prog.fieldsOf 27)) := by kernel_rfl
theorem c27 : Tryd.prog.cellsOf 27 = 7 := by kernel_rfl
theorem c24 : Tryd.prog.cellsOf 24 = 1 := by kernel_rfl
theorem c23 : Tryd.prog.cellsOf 23 = 1 := by kernel_rfl
theorem c25 : Tryd.prog.cellsOf 25 = 1 := by kernel_rfl
theorem flds : ((Tryd.prog.fieldsOf 27).map fun f => (f.type, f.offset)) = #[(5, 0), (5, 1), (5, 2), (22, 3), (23, 4), (24, 5), (25, 6)] := by kernel_rfl
theorem fld {i t o : Nat} (h : #[(5, 0), (5, 1), (5, 2), (22, 3), (23, 4), (24, 5), (25, 6)][i]? = some (t, o)) : ∃ f : Field, (Tryd.prog.fieldsOf 27)[i]? = some f ∧ f.type = t ∧ f.offset = o := by
  rw [← flds, Array.getElem?_map] at h
  obtain ⟨f, h1, h2⟩ := Option.map_eq_some_iff.1 h
  simp only [Prod.mk.injEq] at h2
  exact ⟨f, h1, h2.1, h2.2⟩
theorem wf_bd {k : IntKind} {n : Int} (h : (Lit.int k n).wf = true) : klo k ≤ n ∧ n ≤ khi k := by
  have h1 : k.min = klo k := by cases k <;> rfl
  have h2 : k.max = khi k := by cases k <;> rfl
  simp only [Lit.wf, Bool.and_eq_true, decide_eq_true_eq, h1, h2] at h
  exact h

set_option maxRecDepth 100000 in
theorem lifted (os : Os) (started : os.Started) (H : Type) (enc : TypeId × Value → H) :
    ReturnsInHanded {} Tryd.checked os 3 .any (fun w args => (Rows.topSilenceSpec.pre enc Tryd.prog Tryd.f3 Rows.topSilenceRow.domain false w args ∧ laidMet Tryd.prog Rows.topSilenceRow.laid w) ∧ sizedMet enc Tryd.prog Tryd.f3 (OpenSpec.ofChange Rows.topSilenceSpec) false w args)
      (Rows.topSilenceSpec.post enc Tryd.prog Tryd.f3 false true false false) := by
  refine returnsInHanded_of_change_and (C := Tryd.checked) (X := fun w _ => laidMet Tryd.prog Rows.topSilenceRow.laid w) (fun _ _ _ hh h => h.of_heap hh) own started (by kernel_rfl) Tryd.func3
    (ChangeSpec.witness_shaped (enc := enc) (C := Tryd.checked) (os := os) (X := fun w _ => laidMet Tryd.prog Rows.topSilenceRow.laid w) false (laidWorld os) #[nilArg] 8 rfl (World.shaped_of_ZipB (by kernel_rfl) (by kernel_rfl)) (by kernel_rfl) (by kernel_rfl) (by kernel_rfl) (laid_met os _)) ?_
  intro W base args ds gs before hval0 hW _ _ hL _
  have hval : ∀ (j : Nat) t v, Tryd.f3.params[j]? = some t → args[j]? = some v → Value.okWide Tryd.prog W .any base t v := hval0
  have hW' := hW
  obtain ⟨p, q, hA0, hV, rfl, hfz, hnd⟩ := hW
  have hA : DataW.TrodAll enc Tryd.prog W 0 (fun _ => true) true Tryd.f3.params.toList args.toList ds p := hA0
  rw [Tryd.params3] at hA hval
  obtain ⟨v0, d0, rfl, rfl, h0⟩ := trodAll_one hA
  obtain ⟨rfl, rfl⟩ := trodVars_none hV
  have k0 := h0
  have lt0 : ∀ x ∈ p, x.block < W.heap.size := by obtain ⟨m, hm⟩ := k0; exact DataW.trod_lt m _ _ _ hm
  obtain ⟨cs, rfl, hsz⟩ := okWide_struct u27 (hval 0 27 v0 rfl rfl)
  obtain ⟨l⟩ := cs
  have hl7 : l.length = 7 := hsz.trans c27
  obtain ⟨x0, x1, x2, x3, x4, x5, x6, rfl⟩ := seven hl7
  obtain ⟨fuel, hf⟩ := h0
  obtain ⟨ys, m, _, _, _, hyl, hg⟩ := DataW.trod_struct u27 hf
  have hsz7 : (Tryd.prog.fieldsOf 27).size = 7 := by kernel_rfl
  have field : ∀ (i t o : Nat), #[(5, 0), (5, 1), (5, 2), (22, 3), (23, 4), (24, 5), (25, 6)][i]? = some (t, o) → i < 7 → Tryd.prog.cellsOf t = 1 →
      ∃ y, DataW.trod enc Tryd.prog W 0 (fun _ => true) true m t (([x0, x1, x2, x3, x4, x5, x6].drop o).take 1) = some y := by
    intro i t o hi hi7 hc
    obtain ⟨f, h1, rfl, rfl⟩ := fld hi
    have := hg i f h1
    rw [hc, List.getElem?_eq_getElem (by omega)] at this
    exact ⟨_, this⟩
  obtain ⟨_, e0⟩ := field 0 5 0 rfl (by decide) c5
  obtain ⟨_, e1⟩ := field 1 5 1 rfl (by decide) c5
  obtain ⟨_, e2⟩ := field 2 5 2 rfl (by decide) c5
  obtain ⟨_, e3⟩ := field 3 22 3 rfl (by decide) c22
  obtain ⟨_, e4⟩ := field 4 23 4 rfl (by decide) c23
  obtain ⟨_, e5⟩ := field 5 24 5 rfl (by decide) c24
  obtain ⟨_, e6⟩ := field 6 25 6 rfl (by decide) c25
  simp only [List.drop_succ_cons, List.drop_zero, List.take_succ_cons, List.take_zero] at e0 e1 e2 e3 e4 e5 e6
  obtain ⟨z0, w0, _, b0⟩ := DataW.trod_int u5 e0
  obtain ⟨z1, w1, _, b1⟩ := DataW.trod_int u5 e1
  obtain ⟨z2, w2, _, b2⟩ := DataW.trod_int u5 e2
  obtain ⟨z3, w3, _, b3⟩ := DataW.trod_int u22 e3
  obtain ⟨z5, w5, _, b5⟩ := DataW.trod_int u24 e5
  simp only [List.cons.injEq, and_true] at w0 w1 w2 w3 w5
  have b0 := wf_bd b0
  have b1 := wf_bd b1
  have b2 := wf_bd b2
  have b3 := wf_bd b3
  have b5 := wf_bd b5
  simp only [klo, khi] at b0 b1 b2 b3 b5
  obtain ⟨a4, n4, k4, w4, hb4⟩ := open_one u23 c22 e4
  obtain ⟨a6, n6, k6, w6, hb6⟩ := open_one u25 c4 e6
  simp only [List.cons.injEq, and_true] at w4 w6
  obtain ⟨n0, rfl⟩ := Int.eq_ofNat_of_zero_le b0.1
  obtain ⟨n1, rfl⟩ := Int.eq_ofNat_of_zero_le b1.1
  obtain ⟨n2, rfl⟩ := Int.eq_ofNat_of_zero_le b2.1
  obtain ⟨n3, rfl⟩ := Int.eq_ofNat_of_zero_le b3.1
  obtain ⟨n5, rfl⟩ := Int.eq_ofNat_of_zero_le b5.1
  subst w0; subst w1; subst w2; subst w3; subst w4; subst w5; subst w6
  obtain ⟨bl, hbl, hbp⟩ := list_of (p := fun i (z : Nat) => z ≤ 65535 ∧ ∃ b o, a4 = some ⟨b, o, none⟩ ∧ W.cell? ⟨b, o + i, none⟩ = some (.int .u16 (z : Int))) n4 (fun i hi => by
    obtain ⟨b, v, y, n, hab, hc, ht⟩ := hb4 i hi
    obtain ⟨b2, _, _, _, hab2, hc2, _⟩ := hb4 0 (by omega)
    obtain rfl : b = b2 := Option.some.inj (hab.symm.trans hab2)
    subst hab
    obtain ⟨z, hz, _, hw⟩ := DataW.trod_int u22 ht
    simp only [List.cons.injEq, and_true] at hz
    subst hz
    have hw := wf_bd hw
    simp only [klo, khi] at hw
    obtain ⟨z', rfl⟩ := Int.eq_ofNat_of_zero_le hw.1
    obtain ⟨b', o', spot⟩ := b
    have hsp : spot = none := by simpa [Addr.add] using World.cell?_spot hc2
    subst hsp
    exact ⟨z', by omega, b', o', rfl, by rw [Addr.add_lit] at hc; exact hc⟩)
  obtain ⟨hl, hhl, hhp⟩ := list_of (p := fun i (z : Bool) => ∃ b o, a6 = some ⟨b, o, none⟩ ∧ W.cell? ⟨b, o + i, none⟩ = some (.bool z)) n6 (fun i hi => by
    obtain ⟨b, v, y, n, hab, hc, ht⟩ := hb6 i hi
    obtain ⟨b2, _, _, _, hab2, hc2, _⟩ := hb6 0 (by omega)
    obtain rfl : b = b2 := Option.some.inj (hab.symm.trans hab2)
    subst hab
    obtain ⟨z, hz, _⟩ := DataW.trod_bool u4 ht
    simp only [List.cons.injEq, and_true] at hz
    subst hz
    obtain ⟨b', o', spot⟩ := b
    have hsp : spot = none := by simpa [Addr.add] using World.cell?_spot hc2
    subst hsp
    exact ⟨z, b', o', rfl, by rw [Addr.add_lit] at hc; exact hc⟩)
  obtain ⟨hsub, hsl⟩ := laid_facts hL
  have hrd1 : Rd W a4 (us bl) := by
    intro j u hj
    have hjl : j < bl.length := by
      have := (List.getElem?_eq_some_iff.1 hj).1
      simpa [us] using this
    rw [us_get bl j hjl] at hj
    obtain ⟨_, b, o, hp, hc⟩ := hbp j bl[j] (List.getElem?_eq_getElem hjl)
    simp only [Option.some.injEq] at hj
    subst hj
    exact ⟨b, o, hp, hc⟩
  have hrd2 : Rd W a6 (bls hl) := by
    intro j u hj
    have hjl : j < hl.length := by
      have := (List.getElem?_eq_some_iff.1 hj).1
      simpa [bls] using this
    rw [bls_get hl j hjl] at hj
    obtain ⟨b, o, hp, hc⟩ := hhp j hl[j] (List.getElem?_eq_getElem hjl)
    simp only [Option.some.injEq] at hj
    subst hj
    exact ⟨b, o, hp, hc⟩
  have hbl16 : ∀ b ∈ bl, b ≤ 65535 := by
    intro b hb
    obtain ⟨i, hi, rfl⟩ := List.getElem_of_mem hb
    exact (hbp i _ (List.getElem?_eq_getElem hi)).1
  have hwalk := silence_c n0 n1 n2 n3 n5 bl hl a4 a6 n4 n6 k4 k6 hbl hhl (by omega) (by omega) (by omega) (by omega) (by omega) hbl16 W ⟨List.nodup_nil, fun r hr => by cases hr⟩ ⟨hsub, hsl, hrd1, hrd2⟩
  clear hA0 hval0
  refine hwalk.mono fun e W' ⟨_, _, he, ho, _, _⟩ => ?_
  subst he
  have bel : Below W.heap.size W W' := ho.below
  exact ⟨_, rfl, _, _, _, [], _, [], hW', trodAll_mk1 (shut_bool u4 _), (trodAll_mk1 (Below.trod laidOut (by kernel_rfl) (of_decide_eq_true (by kernel_rfl)) k0 bel lt0)), rfl, bel.frame _, fun h => by cases h⟩

theorem topSilence_holds : Rows.TopSilenceSaid :=
  OpenClaim.holds_of_wide 3 Tryd.f3 rfl rfl rfl rfl rfl rfl rfl ⟨rfl, rfl, rfl, rfl, rfl⟩ rfl rfl rfl rfl rfl (by kernel_rfl) Tryd.func3 (by kernel_rfl)
    (of_decide_eq_true (by kernel_rfl)) (by unfold Func.isWrapper; first | (rw [if_pos (by decide +kernel)]; kernel_rfl) | (rw [if_neg (by decide +kernel)]; exact ⟨rfl, rfl⟩))
    (fun os started H enc _ => lifted os started H enc)

theorem params_not (t : TypeId) (j : Nat) (h : Tryd.f3.params[j]? = some t) : Tryd.prog.wantsStandIn t = false := by
  rw [Tryd.params3] at h
  have h3 : t = 27 := by
    rcases j with _ | j
    · simpa using h.symm
    · simp at h
  subst h3
  exact (show Tryd.prog.wantsStandIn 27 = false by kernel_rfl)
theorem topSilence_card_holds : Rows.TopSilenceCardSaid :=
  Claim7.holds_tied_plain_at .later [] [.data, .mapped] true (true, "e6f0a419ba0fd826e80823ff33ac538447dd424ffb09e6bc7b0596b3245db682") false
    topSilence_holds (fun _ h => by cases h) (by kernel_rfl) (fun _ h => by cases h) topSilence_row_tie rfl ⟨rfl, rfl⟩ (by kernel_rfl) rfl
    (fun f fn hf hfn => by
      obtain rfl : f = 3 := Option.some.inj ((show Tryd.prog.funcNamed "hotspot/hotspottop.TopSilence" = some 3 by kernel_rfl).symm.trans hf) |>.symm
      obtain rfl : fn = Tryd.f3 := (Option.some.inj (Tryd.func3.symm.trans hfn)).symm
      exact ⟨by kernel_rfl, fun j t ht => params_not t j ht⟩)
    (by kernel_rfl)
#print axioms topSilence_card_holds
end Go.Proofs.YtencghlmckbmlaaDoor
