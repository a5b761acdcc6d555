/- Further rules: loops told round by round, forgotten slots, copying, rows read in place, maps. Conditions: those of the rules. -/
import Derived.Test.YtencghlmckbmlaaGreatBytes
import Derived.LoopN
namespace Go.Sx
open Go Go.RowKit

section
variable {P : Program} {W0 : World} {gs : List Nat} {n : Nat} {E E' : List (Nat × Value)} {L L' : List Rs} {K : Act → World → Prop}
  {ops : Array Oper} {Q : Exit → Act → World → Prop} {rest : List Oper} {a : Act} {W : World}

theorem VK.keep (he : Env E E') (h : VK W0 gs n K E' L) : VK W0 gs n K E L := VK.env he.spec h

theorem VL.quietE {op : Op} {v v' : Value} {d : Nat} {t : TypeId} {pos : String} {after : Array Edge} (hd : d < n) (hq : Quiet P W0 gs E L op v) (he : v = v')
    (h : VK W0 gs n (wpList P ops Q rest) ((d, v') :: E) L) : VK W0 gs n (wpList P ops Q (⟨some d, op, t, pos, after, none⟩ :: rest)) E L := by
  subst he
  exact VL.quiet hd hq h
/-- A loop, round by round: at most m of them. -/
theorem VC.rounds {c : Code} (m : Nat) (h : VK W0 gs n (Code.rounds P c Q m) E L) : VK W0 gs n ((Code.loop c).wp P Q) E L := fun a W s => wp_loop_rounds m (h a W s)
theorem VC.rnd {c : Code} {m : Nat} (h : VK W0 gs n (c.wp P (Exit.then (Code.rounds P c Q m) Q)) E L) : VK W0 gs n (fun a W => Code.rounds P c Q (m + 1) a W) E L := h

/-- Nothing is appended. -/
theorem Q.append0 {t e : TypeId} {s by_ : Nat} {x y : Operand} {p : Option Addr} {m c c' : Nat} {ad : Option Addr} (ht : tySlice P t = some (e, s, by_)) (hx : ev E x = some (.slice p m c)) (hy : ev E y = some (.slice ad 0 c')) (hmc : m ≤ c) :
    Quiet P W0 gs E L (.call ⟨.builtin .append, #[x, y], #[t, t]⟩) (.slice p m c) := by
  intro a W dst ty pos after g he _ _
  obtain ⟨i, hu, hi', rfl, _⟩ := tySlice_spec ht
  have hl : ∀ ad : Addr, (loadCells ad 0).run P W = .ok #[] W := fun ad => by
    have := run_loadCells_list (P := P) W ad [] (fun j v hv => by simp at hv)
    simpa using this
  cases p <;> cases ad <;> simp [execOp, resolve, invoke, builtin, he x _ hx, he y _ hy, Builtin.append_, run_underlying hu, sizeOf, typeInfo, hi', Builtin.lenOf, Builtin.firstCells, hmc, storeCells, hl]

/-- What a row tells of its head: a row of some elements lies at the head of a block. -/
theorem VK.rowHead {p : Option Addr} {m c s : Nat} {e : TypeId} {xs : List Value} (hm : Rs.row (.slice p m c) e s m xs ∈ L) (h0 : 0 < m)
    (h : ∀ g, p = some ⟨g, 0, none⟩ → m ≤ c → c ≤ maxLen → VK W0 gs n K E L) : VK W0 gs n K E L := fun a W st => by
  have hr : W.ownsRow 0 e s (.slice p m c) m xs := st.own.all _ hm
  rcases hr.2 with ⟨hv, hm0⟩ | ⟨g, cap, cur, hv, _, hg, h1, h2, h3, h4⟩
  · omega
  · simp only [Value.slice.injEq] at hv
    obtain ⟨hp, _, rfl⟩ := hv
    exact h g hp h1 h2 a W st

/-- Two entries have no block in common. -/
inductive Two : List Rs → Rs → Rs → Prop
  | here {r r' : Rs} {L : List Rs} : r' ∈ L → Two (r :: L) r r'
  | swap {r r' : Rs} {L : List Rs} : r ∈ L → Two (r' :: L) r r'
  | there {r r' x : Rs} {L : List Rs} : Two L r r' → Two (x :: L) r r'
theorem Two.apart {L : List Rs} {r r' : Rs} (h : Two L r r') : (L.flatMap Rs.ids).Nodup → ∀ k ∈ r.ids, k ∉ r'.ids := by
  induction h with
  | @here r r' L hm =>
    intro hn k hk hk'
    rw [List.flatMap_cons, List.nodup_append] at hn
    exact hn.2.2 k hk k (List.mem_flatMap.2 ⟨_, hm, hk'⟩) rfl
  | @swap r r' L hm =>
    intro hn k hk hk'
    rw [List.flatMap_cons, List.nodup_append] at hn
    exact hn.2.2 k hk' k (List.mem_flatMap.2 ⟨_, hm, hk⟩) rfl
  | there _ ih =>
    intro hn
    rw [List.flatMap_cons, List.nodup_append] at hn
    exact ih hn.2.1
theorem VK.apart {r r' : Rs} (ht : Two L r r') (h : (∀ k ∈ r.ids, k ∉ r'.ids) → VK W0 gs n K E L) : VK W0 gs n K E L := fun a W st => h (ht.apart st.own.nodup) a W st

/-- A cell of a row that is owned. -/
theorem Q.loadRow {t e : TypeId} {s m c s' o g : Nat} {x : Operand} {xs : List Value} {v : Value} (ht : tySz P t = some (false, s)) (hx : ev E x = some (.pointer (some ⟨g, o, none⟩)))
    (hm : Rs.row (.slice (some ⟨g, 0, none⟩) m c) e s' m xs ∈ L) (hv : xs[o]? = some v) : Quiet P W0 gs E L (.load t x) v :=
  Q.load hx fun W _ hw => lies_one ht (by
    obtain ⟨b, o', hp, hc⟩ := Rd.row hw hm o v hv
    simp only [Option.some.injEq, Addr.mk.injEq] at hp
    obtain ⟨rfl, rfl, _⟩ := hp
    simpa using hc)
theorem Q.loadRowA {t e : TypeId} {s m c s' o g : Nat} {x : Operand} {xs ys : List Value} (ht : tySz P t = some (true, s)) (hx : ev E x = some (.pointer (some ⟨g, o, none⟩)))
    (hm : Rs.row (.slice (some ⟨g, 0, none⟩) m c) e s' m xs ∈ L) (hv : Seg xs o s ys) : Quiet P W0 gs E L (.load t x) (.agg ys.toArray) :=
  Q.load hx fun W _ hw => by
    obtain ⟨rfl, hj⟩ := hv.spec
    refine lies_agg ht fun j u hu => ?_
    obtain ⟨b, o', hp, hc⟩ := Rd.row hw hm (o + j) u (hj j u hu)
    simp only [Option.some.injEq, Addr.mk.injEq] at hp
    obtain ⟨rfl, rfl, _⟩ := hp
    simpa using hc

theorem Q.lookup {t : TypeId} {x y : Operand} {m key v : Value} {c : Bool} (hx : ev E x = some m) (hy : ev E y = some key) (h : ∀ W, Only gs W0 W → (Instr.lookup t m key c).run P W = .ok v W) :
    Quiet P W0 gs E L (.lookup t x y c) v := by
  intro a W dst ty pos after g he ho _
  simp [execOp, he x _ hx, he y _ hy, h W ho]

/-- 'copy' into a piece of a block that is owned. -/
theorem O.copy {t e : TypeId} {s by_ : Nat} {x y : Operand} {g o m c k c' d : Nat} {ad : Option Addr} {C C' news : List Value} {t' tb : TypeId} {ts : TypeId} {pos : String} {after : Array Edge} {gd : Option (Nat × Bool)}
    (ht : tySlice P t = some (e, s, by_)) (hx : ev E x = some (.slice (some ⟨g, o, none⟩) m c)) (hy : ev E y = some (.slice ad k c')) (hl : news.length = min k m * s) (h1 : news.all one = true) (hd : d < n)
    (hrd : ∀ W, Only gs W0 W → Own W L → Rd W ad news) (hu : Upd L (.blk g C tb) (.blk g C' tb) L') (hp : Put C o news C') (h : VK W0 gs n K ((d, .int .i64 (min k m : Nat)) :: E) L') :
    VO P W0 gs n Q ⟨some d, .call ⟨.builtin .copy, #[x, y], #[t, ts]⟩, t', pos, after, gd⟩ K E L := by
  intro a W st
  obtain ⟨i, hut, hi', rfl, _⟩ := tySlice_spec ht
  have hb : W.heap[g]? = some (.cells C.toArray tb (0, 0)) := st.own.all _ hu.mem
  have hr' := hrd W st.only st.own
  have hfc : (Builtin.firstCells i.size (min k m) (.slice ad k c')).run P W = .ok news.toArray W := by
    cases ad with
    | none =>
      have hn : news = [] := by
        cases news with
        | nil => rfl
        | cons u us =>
          obtain ⟨b, o, hp, _⟩ := hr' 0 u rfl
          cases hp
      subst hn
      rfl
    | some ad =>
      have hnews : ∀ j u, news[j]? = some u → W.cell? (ad.add j) = some u := by
        intro j u hj
        obtain ⟨b, o, hp, hc⟩ := hr' j u hj
        simp only [Option.some.injEq] at hp
        subst hp
        rw [Addr.add_lit]
        exact hc
      have := run_loadCells_list (P := P) W ad news hnews
      rw [hl] at this
      exact this
  obtain ⟨hle, hC⟩ := hp.spec
  have hsc : (storeCells ⟨g, o, none⟩ news).run P W = .ok () (W.setRow g C'.toArray) := by
    have := run_storeCells_at P g o tb news 0 C.toArray W hb (by simpa using hle) (fun u hu => one_oneCell (List.all_eq_true.1 h1 u hu))
    simp only [Nat.add_zero] at this
    rw [this, hC]
  have hexec : (execOp a.eval ⟨some d, .call ⟨.builtin .copy, #[x, y], #[t, ts]⟩, t', pos, after, gd⟩).run P W = .ok (.value (.int .i64 (min k m : Nat))) (W.setRow g C'.toArray) := by
    simp [execOp, resolve, invoke, builtin, st.eval hx, st.eval hy, Builtin.copy_, run_underlying hut, sizeOf, typeInfo, hi', Builtin.lenOf, hfc, hsc, goInt]
  unfold Oper.wp
  rw [hexec, Oper.upon_value]
  exact h _ _ ((st.setRow hu).put hd _)
/-- A slice literal without elements. -/
theorem O.buildSlice0 {t e : TypeId} {s by_ : Nat} {d : Nat} {t' : TypeId} {pos : String} {after : Array Edge} {gd : Option (Nat × Bool)}
    (ht : tySlice P t = some (e, s, by_)) (hd : d < n)
    (h : ∀ g, VK W0 gs n K ((d, .slice (some ⟨g, 0, none⟩) 0 0) :: E) (.blk g [] e :: L)) : VO P W0 gs n Q ⟨some d, .buildSlice t 0 #[], t', pos, after, gd⟩ K E L := by
  intro a W st
  obtain ⟨i, hu, hi, rfl, _⟩ := tySlice_spec ht
  have hr : (execOp a.eval ⟨some d, .buildSlice t 0 #[], t', pos, after, gd⟩).run P W = .ok (.value (.slice (some ⟨W.heap.size, 0, none⟩) 0 0)) (W.alloc (.cells [].toArray e)) := by
    have e0 : ∀ f : Nat → Value, Array.map f (Array.range 0) = #[] := fun f => by
      apply Array.ext'
      simp
    simp [execOp, Instr.buildSlice, run_underlying hu, sizeOf, typeInfo, hi, Instr.fill]
    rw [e0]
    rfl
  unfold Oper.wp
  rw [hr, Oper.upon_value]
  exact h _ _ _ ((st.alloc [] e).put hd _)

/-- What is appended is a piece of an own block. -/
theorem Rd.seg {g o k : Nat} {C xs : List Value} {t : TypeId} (hw : Own W L) (hm : Rs.blk g C t ∈ L) (hs : Seg C o k xs) : Rd W (some ⟨g, o, none⟩) xs := Rd.own hw hm hs.spec.2
theorem O.appendS {t e tb : TypeId} {s by_ : Nat} {z : Value} {x y : Operand} {p : Option Addr} {m c k c' g o : Nat} {C xs news : List Value} {d : Nat} {t' : TypeId} {pos : String} {after : Array Edge} {gd : Option (Nat × Bool)}
    (ht : tySlice P t = some (e, s, by_)) (hz : (P.info? e).bind (·.zero) = some z) (hzs : z.cells.size = s) (hs : 0 < s)
    (hx : ev E x = some (.slice p m c)) (hy : ev E y = some (.slice (some ⟨g, o, none⟩) k c')) (hm : Rs.blk g C tb ∈ L) (hseg : Seg C o (k * s) news) (h1 : news.all one = true) (hd : d < n)
    (h63 : m + k ≤ maxLen) (hby : (m + k) * by_ ≤ 140737488355328)
    {F : Rs → List Rs} (hF : At L (.row (.slice p m c) e s m xs) F)
    (h : ∀ p' c', m + k ≤ c' → VK W0 gs n K ((d, .slice p' (m + k) c') :: E) (F (.row (.slice p' (m + k) c') e s (m + k) (xs ++ news)))) :
    VO P W0 gs n Q ⟨some d, .call ⟨.builtin .append, #[x, y], #[t, t]⟩, t', pos, after, gd⟩ K E L :=
  O.append ht hz hzs hs hx hy hseg.spec.1 h1 hd h63 hby hF (fun _ _ hw => Rd.seg hw hm hseg) h

/-- A call of a function that is handed one entry of what is owned. -/
theorem O.callB {f : Operand} {xs : List Operand} {tys : Array TypeId} {k : FuncId} {vs : List Value} {r : Rs} {Lr : List Rs} {RO : World → Prop} {X : Type} {ψ : X → Prop} {rv : X → Value} {Lout : X → List Rs}
    {d : Nat} {t : TypeId} {pos : String} {after : Array Edge} {gd : Option (Nat × Bool)}
    (hk : okFunc P k = true) (hf : ev E f = some (.func (.func k) #[] #[])) (hxs : evs E xs = some vs) (hd : d < n) (hc : Does P k vs [r] RO ψ rv Lout) (hp : Pick L r Lr)
    (hro : ∀ W, Only gs W0 W → Own W L → RO W) (h : ∀ x, ψ x → VK W0 gs n K ((d, rv x) :: E) (Lout x ++ Lr)) :
    VO P W0 gs n Q ⟨some d, .call ⟨.value f, xs.toArray, tys⟩, t, pos, after, gd⟩ K E L :=
  O.call (first := []) (capt := []) (vs := vs) (Lin := [r]) (Lr := Lr) (by simpa using hc) hk hf hxs hd hp.perm hro h

theorem Rd.at {b o j : Nat} {xs : List Value} {v : Value} (h : Rd W (some ⟨b, o, none⟩) xs) (hj : xs[j]? = some v) : W.cell? ⟨b, o + j, none⟩ = some v := by
  obtain ⟨b', o', hp, hc⟩ := h j v hj
  simp only [Option.some.injEq, Addr.mk.injEq] at hp
  obtain ⟨rfl, rfl, _⟩ := hp
  exact hc
theorem Rd.rowP {m c s o k : Nat} {e : TypeId} {xs ys : List Value} {g : Nat} (hw : Own W L) (hm : Rs.row (.slice (some ⟨g, 0, none⟩) m c) e s m xs ∈ L) (hs : Seg xs o k ys) : Rd W (some ⟨g, o, none⟩) ys := by
  have := Rd.row hw hm
  intro j u hj
  have h2 := Rd.at this (hs.spec.2 j u hj)
  exact ⟨g, o, rfl, by simpa using h2⟩
/-- 'copy' out of a row that is owned. -/
theorem O.copyR {t e : TypeId} {s by_ : Nat} {x y : Operand} {g o m c k c' d g' o' m' c'' s' : Nat} {e' : TypeId} {C C' xs news : List Value} {t' tb : TypeId} {ts : TypeId} {pos : String} {after : Array Edge} {gd : Option (Nat × Bool)}
    (ht : tySlice P t = some (e, s, by_)) (hx : ev E x = some (.slice (some ⟨g, o, none⟩) m c)) (hy : ev E y = some (.slice (some ⟨g', o', none⟩) k c')) (hm : Rs.row (.slice (some ⟨g', 0, none⟩) m' c'') e' s' m' xs ∈ L)
    (hseg : Seg xs o' (min k m * s) news) (h1 : news.all one = true) (hd : d < n)
    (hu : Upd L (.blk g C tb) (.blk g C' tb) L') (hp : Put C o news C') (h : VK W0 gs n K ((d, .int .i64 (min k m : Nat)) :: E) L') :
    VO P W0 gs n Q ⟨some d, .call ⟨.builtin .copy, #[x, y], #[t, ts]⟩, t', pos, after, gd⟩ K E L :=
  O.copy ht hx hy hseg.spec.1 h1 hd (fun _ _ hw => Rd.rowP hw hm hseg) hu hp h
/-- Several entries are taken out. -/
inductive Picks : List Rs → List Rs → List Rs → Prop
  | nil {L : List Rs} : Picks L [] L
  | cons {L L1 L2 Lin : List Rs} {r : Rs} : Pick L r L1 → Picks L1 Lin L2 → Picks L (r :: Lin) L2
theorem zKs {L Lin L2 : List Rs} (h : Picks L Lin L2 := by repeat (first | exact Picks.nil | apply Picks.cons | exact Pick.here | apply Pick.there)) : Picks L Lin L2 := h
theorem Picks.perm {L Lin L2 : List Rs} (h : Picks L Lin L2) : L.Perm (Lin ++ L2) := by
  induction h with
  | nil => exact List.Perm.refl _
  | cons h1 _ ih => exact h1.perm.trans (ih.cons _)

/-- A call of a function value, or of a method bound to its receiver, that is handed entries of what is owned. -/
theorem O.callP {f : Operand} {xs : List Operand} {tys : Array TypeId} {k : FuncId} {first capt vs : List Value} {Lin Lr : List Rs} {RO : World → Prop} {X : Type} {ψ : X → Prop} {rv : X → Value} {Lout : X → List Rs}
    {d : Nat} {t : TypeId} {pos : String} {after : Array Edge} {gd : Option (Nat × Bool)}
    (hk : okFunc P k = true) (hf : ev E f = some (.func (.func k) first.toArray capt.toArray)) (hxs : evs E xs = some vs) (hd : d < n) (hc : Does P k (first ++ vs ++ capt) Lin RO ψ rv Lout) (hp : Picks L Lin Lr)
    (hro : ∀ W, Only gs W0 W → Own W L → RO W) (h : ∀ x, ψ x → VK W0 gs n K ((d, rv x) :: E) (Lout x ++ Lr)) :
    VO P W0 gs n Q ⟨some d, .call ⟨.value f, xs.toArray, tys⟩, t, pos, after, gd⟩ K E L :=
  O.call (first := first) (capt := capt) (vs := vs) hc hk hf hxs hd hp.perm hro h

theorem Put.app {C C' xs D : List Value} {o : Nat} (h : Put C o xs C') : Put (C ++ D) o xs (C' ++ D) := by
  induction h with
  | nil => exact .nil
  | here _ ih => exact .here ih
  | skip _ ih => exact .skip ih
theorem Put.length {C C' xs : List Value} {o : Nat} (h : Put C o xs C') : C'.length = C.length := by
  induction h with
  | nil => rfl
  | here _ ih => simp [ih]
  | skip _ ih => simp [ih]

/-- A store into a row that is owned. -/
theorem O.storeRow {e te : TypeId} {b : Bool} {g o m c s : Nat} {x y : Operand} {v : Value} {xs xs' ys : List Value} {t : TypeId} {pos : String} {after : Array Edge} {gd : Option (Nat × Bool)} {F : Rs → List Rs}
    (ht : tySz P e = some (b, ys.length)) (hx : ev E x = some (.pointer (some ⟨g, o, none⟩))) (hy : ev E y = some v) (hv : v.cells.toList = ys) (h1 : ys.all one = true)
    (hF : At L (.row (.slice (some ⟨g, 0, none⟩) m c) te s m xs) F) (hp : Put xs o ys xs') (h : VK W0 gs n K E (F (.row (.slice (some ⟨g, 0, none⟩) m c) te s m xs'))) :
    VO P W0 gs n Q ⟨none, .store e x y, t, pos, after, gd⟩ K E L := by
  have hm : Rs.row (.slice (some ⟨g, 0, none⟩) m c) te s m xs ∈ L := (hF.upd (.row (.slice (some ⟨g, 0, none⟩) m c) te s m xs)).mem
  intro a W st
  have hr : W.ownsRow 0 te s (.slice (some ⟨g, 0, none⟩) m c) m xs := st.own.all _ hm
  rcases hr.2 with ⟨hv', _⟩ | ⟨g', cap, cur, hv', _, hg, h1', h2', h3', h4'⟩
  · cases hv'
  · simp only [Value.slice.injEq, Option.some.injEq, Addr.mk.injEq] at hv'
    obtain ⟨⟨rfl, _, _⟩, _, rfl⟩ := hv'
    have hcur : cur.toList = xs ++ cur.toList.drop (m * s) := by
      rw [← h4']
      exact (List.take_append_drop _ _).symm
    have hp' : Put cur.toList o ys (xs' ++ cur.toList.drop (m * s)) := by
      rw [hcur]
      have := hp.app (D := cur.toList.drop (m * s))
      rw [← hcur] at this ⊢
      exact this
    have hlen : xs.length = m * s := hr.1
    have hst : (execOp a.eval ⟨none, .store e x y, t, pos, after, gd⟩).run P W = .ok .skip (W.setRow g (xs' ++ cur.toList.drop (m * s)).toArray) := by
      have hg' : W.heap[g]? = some (.cells cur.toList.toArray te (0, 0)) := by rw [Array.toArray_toList]; exact hg
      simp [execOp, st.eval hx, st.eval hy, Instr.storeAt, Instr.sureAddr, run_storeVar ht hv h1 hg' hp']
    unfold Oper.wp
    rw [hst, Oper.upon_skip]
    have hin : g ∈ L.flatMap Rs.ids := List.mem_flatMap.2 ⟨_, hm, by simp [Rs.ids, Value.ownBlock]⟩
    have hu := hF.upd (.row (.slice (some ⟨g, 0, none⟩) m c) te s m xs')
    have hids : (F (.row (.slice (some ⟨g, 0, none⟩) m c) te s m xs')).flatMap Rs.ids = L.flatMap Rs.ids := by
      obtain ⟨A, B, hA, hB⟩ := hu.split
      rw [hB, hA]
      simp [Rs.ids]
    have hgw : (W.setRow g (xs' ++ cur.toList.drop (m * s)).toArray).heap[g]? = some (.cells (xs' ++ cur.toList.drop (m * s)).toArray te (0, 0)) := setRow_heap W g _ _ te _ hg
    refine h _ _ (st.world (only_setRow st.only (st.fresh g hin) _) (own_upd st.own hu ?_ (.inl rfl) fun k hk _ => setRow_other W g k _ (by simpa [Rs.ids, Value.ownBlock] using hk)) (by rw [hids]; exact st.fresh) fun D _ hd => ⟨setRow_other W g D _ (fun e => hd (by rw [e]; exact hin)), by rw [hids]; exact hd⟩)
    refine ⟨by rw [hp.length]; exact hlen, .inr ⟨g, c, _, rfl, Nat.zero_le _, hgw, h1', h2', ?_, ?_⟩⟩
    · have := hp'.length
      simp only [List.size_toArray]
      rw [this, Array.length_toList]
      exact h3'
    · have : xs'.length = m * s := by rw [hp.length]; exact hlen
      simp [← this]

/-- Where the ways of a piece of code meet. -/
theorem VC.seqJ {x y : Code} {X : Type} (Ef : X → List (Nat × Value)) (Lf : X → List Rs) (φ : X → Prop)
    (h1 : VK W0 gs n (x.wp P (Exit.then (fun a W => ∃ z, φ z ∧ St W0 gs n (Ef z) (Lf z) a W) Q)) E L) (h2 : ∀ z, φ z → VK W0 gs n (y.wp P Q) (Ef z) (Lf z)) : VK W0 gs n ((Code.seq x y).wp P Q) E L :=
  VC.seq fun a W s => Go.wp_mono (h1 a W s) (by
    intro e a w hq
    cases e with
    | normal =>
      obtain ⟨z, hz, sz⟩ := hq
      exact h2 z hz a w sz
    | _ => exact hq)
end
end Go.Sx
