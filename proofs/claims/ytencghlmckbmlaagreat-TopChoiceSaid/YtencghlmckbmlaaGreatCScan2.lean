/- The contracts of package scan: a candidate is put in its place. Conditions: those that each bears. -/
import Derived.Test.YtencghlmckbmlaaGreatRows
import Derived.Test.YtencghlmckbmlaaGreatCScan
import Derived.Test.YtencghlmckbmlaaGreatCRadio2
namespace Go.Proofs.YtencghlmckbmlaaGreat
open Go Go.RowKit Go.Sx
set_option maxRecDepth 100000

theorem eg44 : Tryz.prog.eqGuardType Tryz.prog.depth 44 = false := by kernel_rfl
theorem flt44 : flat Tryz.prog 6 44 = some [.int .u8, .int .u8, .int .u8, .int .u8, .int .u8, .int .u8] := by kernel_rfl
theorem lay117 : laysOf Tryz.prog 117 = some ([.int .u8 0, .int .u8 0, .int .u8 0, .int .u8 0, .int .u8 0, .int .u8 0, .int .i64 0, .int .i64 0, .int .i64 0, .int .i64 0, .int .i64 0, .string ByteArray.empty, .bool false], [(0, 6), (6, 1), (7, 1), (8, 1), (9, 1), (10, 1), (11, 1), (12, 1)]) := by kernel_rfl
theorem lay83 : laysOf Tryz.prog 83 = some ([.slice none 0 0], [(0, 1)]) := by kernel_rfl
theorem ok83 : okFunc Tryz.prog 83 = true := by kernel_rfl
theorem ok85 : okFunc Tryz.prog 85 = true := by kernel_rfl
theorem ok86 : okFunc Tryz.prog 86 = true := by kernel_rfl
theorem ok88 : okFunc Tryz.prog 88 = true := by kernel_rfl
theorem ok90 : okFunc Tryz.prog 90 = true := by kernel_rfl
theorem ty111 : tySz Tryz.prog 111 = some (true, 4) := by kernel_rfl
theorem ty83 : tySz Tryz.prog 83 = some (true, 1) := by kernel_rfl
theorem zo81 : tyZero Tryz.prog 81 = some [.slice none 0 0] := by kernel_rfl
theorem zo83 : tyZero Tryz.prog 83 = some [.slice none 0 0] := by kernel_rfl

/-- the new table -/
def insAt (l : List Cd) (i : Nat) (x : Cd) : List Cd := l.take i ++ x :: l.drop i
theorem insAt_len (l : List Cd) (i : Nat) (x : Cd) (h : i ≤ l.length) : (insAt l i x).length = l.length + 1 := by
  simp [insAt]
  omega
theorem insAt_mem (l : List Cd) (i : Nat) (x q : Cd) : q ∈ insAt l i x ↔ q = x ∨ q ∈ l := by
  have h : l = l.take i ++ l.drop i := (List.take_append_drop i l).symm
  conv => rhs; rw [h]
  simp only [insAt, List.mem_append, List.mem_cons]
  constructor
  · rintro (h | h | h)
    · exact .inr (.inl h)
    · exact .inl h
    · exact .inr (.inr h)
  · rintro (h | h | h)
    · exact .inr (.inl h)
    · exact .inl h
    · exact .inr (.inr h)
theorem insAt_cells (l : List Cd) (i : Nat) (x : Cd) : (insAt l i x).flatMap cdC = (l.take i).flatMap cdC ++ (cdC x ++ (l.drop i).flatMap cdC) := by
  simp [insAt]
theorem cells_split (l : List Cd) (i : Nat) : l.flatMap cdC = (l.take i).flatMap cdC ++ (l.drop i).flatMap cdC := by
  conv => lhs; rw [← List.take_append_drop i l]
  rw [List.flatMap_append]
theorem drop_len (l : List Cd) (i : Nat) : ((l.drop i).flatMap cdC).length = (l.length - i) * 13 := by
  rw [fm_length cdC_len, List.length_drop]
theorem take_len (l : List Cd) (i : Nat) (h : i ≤ l.length) : ((l.take i).flatMap cdC).length = i * 13 := fm_take_len cdC_len l i h
def isGe (l : List Cd) (a : Nat) (q : Nat) : Bool := decide (a ≤ (l.map Cd.a).getD q 0)
theorem isGe_at {l : List Cd} {a q : Nat} (h : q < l.length) : isGe l a q = decide (a ≤ l[q].a) := by simp [isGe, List.getD, h]
/-- where a search by halves ends -/
theorem bsr_lo (pr : Nat → Bool) (n : Nat) (hmono : ∀ i j, i ≤ j → j < n → pr i = true → pr j = true) : ∀ (f i j : Nat), i ≤ j → j ≤ n → j - i ≤ f → (∀ k, k < i → pr k = false) → (∀ k, j ≤ k → k < n → pr k = true) →
    (∀ k, k < bsr pr f i j → pr k = false) ∧ (∀ k, bsr pr f i j ≤ k → k < n → pr k = true)
  | 0, i, j, hij, _, hf, h1, h2 => by
    obtain rfl : i = j := by omega
    exact ⟨h1, h2⟩
  | f + 1, i, j, hij, hj, hf, h1, h2 => by
    simp only [bsr]
    by_cases h : i < j
    · rw [if_pos h]
      cases hp : pr ((i + j) / 2) with
      | true =>
        rw [if_pos rfl]
        exact bsr_lo pr n hmono f i ((i + j) / 2) (by omega) (by omega) (by omega) h1 fun k hk hn => hmono _ k hk hn hp
      | false =>
        rw [if_neg (by simp)]
        refine bsr_lo pr n hmono f ((i + j) / 2 + 1) j (by omega) hj (by omega) (fun k hk => ?_) h2
        cases hq : pr k with
        | false => rfl
        | true =>
          have := hmono k ((i + j) / 2) (by omega) (by omega) hq
          rw [hp] at this
          cases this
    · rw [if_neg h]
      obtain rfl : i = j := by omega
      exact ⟨h1, h2⟩
structure Place (l : List Cd) (a i : Nat) : Prop where
  le : i ≤ l.length
  lo : ∀ k (hk : k < l.length), k < i → l[k].a < a
  hi : ∀ k (hk : k < l.length), i ≤ k → a ≤ l[k].a
theorem place_of {l : List Cd} (h : CdsOk l) (a : Nat) : Place l a (bsr (isGe l a) l.length 0 l.length) := by
  obtain ⟨h1, h2⟩ := bsr_lo (isGe l a) l.length (fun i j hij hj hp => by
    rw [isGe_at hj]
    rw [isGe_at (by omega)] at hp
    have hp := of_decide_eq_true hp
    rcases Nat.lt_or_ge i j with hlt | hge
    · have := h.srt i j (by omega) hj hlt
      exact decide_eq_true (by omega)
    · obtain rfl : i = j := by omega
      exact decide_eq_true hp) l.length 0 l.length (Nat.zero_le _) (Nat.le_refl _) (by omega) (fun k hk => by omega) (fun k h1 h2 => by omega)
  refine ⟨bsr_le _ _ _ _ (Nat.zero_le _), fun k hk hlt => ?_, fun k hk hge => ?_⟩
  · have := h1 k hlt
    rw [isGe_at hk] at this
    have := of_decide_eq_false this
    omega
  · have := h2 k hge hk
    rw [isGe_at hk] at this
    exact of_decide_eq_true this
theorem insAt_ok {l : List Cd} (h : CdsOk l) {x : Cd} (hx : CdOk x) (hno : ∀ c ∈ l, c.a ≠ x.a) {i : Nat} (hp : Place l x.a i) : CdsOk (insAt l i x) where
  ok := by
    intro c hc
    rcases (insAt_mem l i x c).1 hc with rfl | hc
    · exact hx
    · exact h.ok c hc
  srt := by
    intro j k hj hk hjk
    have hil := hp.le
    have hlen := insAt_len l i x hil
    have hat : ∀ m (hm : m < (insAt l i x).length), (m < i ∧ ∃ h1 : m < l.length, (insAt l i x)[m] = l[m]) ∨ (m = i ∧ (insAt l i x)[m] = x) ∨ (i < m ∧ ∃ h1 : m - 1 < l.length, (insAt l i x)[m] = l[m - 1]) := by
      intro m hm
      have htl : (l.take i).length = i := by rw [List.length_take]; omega
      rcases Nat.lt_trichotomy m i with h1 | h1 | h1
      · refine .inl ⟨h1, by omega, ?_⟩
        simp only [insAt]
        rw [List.getElem_append_left (by omega), List.getElem_take]
      · subst h1
        refine .inr (.inl ⟨rfl, ?_⟩)
        simp only [insAt]
        rw [List.getElem_append_right (by omega)]
        simp [htl]
      · refine .inr (.inr ⟨h1, by omega, ?_⟩)
        have e : m = i + 1 + (m - 1 - i) := by omega
        have h2 : (insAt l i x)[m]? = l[m - 1]? := by
          simp only [insAt]
          rw [List.getElem?_append_right (by omega), htl, show m - i = (m - 1 - i) + 1 by omega, List.getElem?_cons_succ, List.getElem?_drop, show i + (m - 1 - i) = m - 1 by omega]
        rw [List.getElem?_eq_getElem hm, List.getElem?_eq_getElem (by omega)] at h2
        exact Option.some.inj h2
    have hne : ∀ m (hm : m < l.length), l[m].a ≠ x.a := fun m hm => hno _ (List.getElem_mem hm)
    rcases hat j hj with ⟨j1, j2, j3⟩ | ⟨j1, j3⟩ | ⟨j1, j2, j3⟩ <;> rcases hat k hk with ⟨k1, k2, k3⟩ | ⟨k1, k3⟩ | ⟨k1, k2, k3⟩ <;> rw [j3, k3]
    · exact h.srt j k j2 k2 hjk
    · exact hp.lo j j2 j1
    · exact h.srt j (k - 1) j2 k2 (by omega)
    · omega
    · omega
    · have := hp.hi (k - 1) k2 (by omega)
      have := hne (k - 1) k2
      omega
    · omega
    · omega
    · exact h.srt (j - 1) (k - 1) j2 k2 (by omega)
/-- a table, and where it lies -/
structure Tx where
  p : Option Addr
  c : Nat
  l : List Cd

theorem ext_ov (args : Array Value) (W : World) : (callFunc 162 args).run Tryz.prog W = ((Extern.SlicesOverlaps.overlaps #[81, 81] #[4] args).run Tryz.prog W).andThen fun v w' => .ok (.value v) w' :=
  run_callFunc_extern Tryz.func162 (by kernel_rfl) (by kernel_rfl) (by kernel_rfl) (e := Extern.SlicesOverlaps.overlaps #[81, 81] #[4]) (by kernel_rfl) args W

theorem insend_c (p : Option Addr) (n c gv : Nat) (xs ys : List Value) (hy : ys.length = 13) (hy1 : ys.all one = true) (hn : n ≤ 1000) (hc : n ≤ c) :
  Does Tryz.prog 90 [.slice p n c, .int .i64 (n : Int), .slice (some ⟨gv, 0, none⟩) 1 1] [.row (.slice p n c) 117 13 n xs, .blk gv ys 117] (fun _ => True) (X := Option Addr × Nat) (fun x => n + 1 ≤ x.2) (fun x => .slice x.1 (n + 1) x.2) (fun x => [.row (.slice x.1 (n + 1) x.2) 117 13 (n + 1) (xs ++ ys)]) := by
 refine Does.enter Tryz.func90 rfl (m := 95) rfl (by simp) ?_
 intro W0 hro
 refine VC.seq ?_
 refine VC.region ?_
 refine VL.q (Q.assign rfl) ?_
 refine VL.nil ?_
 refine VE.seq ?_
 refine VC.seq ?_
 refine VC.region ?_
 refine VL.q (Q.move rfl) ?_
 refine VL.q (Q.move rfl) ?_
 refine VL.q (Q.slcP sl81 (l := n) (h := n) rfl ⟨_, _, rfl, rfl⟩ rfl (by omega) hc) ?_
 refine VL.nil ?_
 refine VE.seq ?_
 refine VC.seq ?_
 refine VC.region ?_
 refine VL.q (Q.move rfl) ?_
 refine VL.q (Q.len sl81 rfl) ?_
 refine VL.q (Q.assign rfl) ?_
 refine VL.nil ?_
 refine VE.seq ?_
 refine VC.seq ?_
 refine VC.seq ?_
 refine VC.region ?_
 refine VL.q (Q.move rfl) ?_
 refine VL.quietE (v' := .bool false) (by decide) (Q.eq rfl rfl) (by rfl) ?_
 refine VL.nil ?_
 refine VE.seq ?_
 refine VC.condF rfl ?_
 refine VC.skip ?_
 refine VE.seq ?_
 refine VC.seq ?_
 refine VC.region ?_
 refine VL.q (Q.move rfl) ?_
 refine VL.q (Q.len sl81 rfl) ?_
 refine VL.q (Q.assign rfl) ?_
 refine VL.nil ?_
 refine VE.seq ?_
 refine VC.seq ?_
 refine VC.seq ?_
 refine VC.region ?_
 refine VL.q (Q.move rfl) ?_
 refine VL.q (Q.move rfl) ?_
 refine VL.quietE (v' := .bool true) (by decide) (Q.eq rfl rfl) (congrArg Value.bool (decide_eq_true (by omega))) ?_
 refine VL.nil ?_
 refine VE.seq ?_
 refine VC.condT rfl ?_
 refine VC.seq ?_
 refine VC.region ?_
 refine VL.q (Q.move rfl) ?_
 refine VL.q (Q.move rfl) ?_
 refine VL.eff (O.append sl81 ze117 rfl (by decide) rfl rfl (by omega) hy1 (by decide) (by unfold maxLen; omega) (by omega) zA (fun _ _ hw => Rd.seg (k := 13) hw zM (by rw [← hy]; exact Seg.all)) ?_)
 intro p25 c25 hc25
 refine VL.q (Q.assign rfl) ?_
 refine VL.nil ?_
 refine VE.seq ?_
 refine VC.ret ?_
 refine VE.then_ret ?_
 exact VE.ret rfl (.tmp rfl .nil) (p25, c25) hc25 rfl zB

theorem insmid_c (g c gv i n : Nat) (A B ys : List Value) (hA : A.length = i * 13) (hB : B.length = (n - i) * 13) (hi : i < n) (hn : n ≤ 100) (hA1 : A.all one = true) (hB1 : B.all one = true) (hy : ys.length = 13) (hy1 : ys.all one = true) (hc : n ≤ c) (hg : gv ≠ g) :
  Does Tryz.prog 90 [.slice (some ⟨g, 0, none⟩) n c, .int .i64 (i : Int), .slice (some ⟨gv, 0, none⟩) 1 1] [.row (.slice (some ⟨g, 0, none⟩) n c) 117 13 n (A ++ B), .blk gv ys 117] (fun _ => True) (X := Nat × Nat) (fun x => n + 1 ≤ x.2) (fun x => .slice (some ⟨x.1, 0, none⟩) (n + 1) x.2) (fun x => [.row (.slice (some ⟨x.1, 0, none⟩) (n + 1) x.2) 117 13 (n + 1) (A ++ (ys ++ B))]) := by
 refine Does.enter Tryz.func90 rfl (m := 95) rfl (by simp) ?_
 intro W0 hro
 refine VC.seq ?_
 refine VC.region ?_
 refine VL.q (Q.assign rfl) ?_
 refine VL.nil ?_
 refine VE.seq ?_
 refine VC.seq ?_
 refine VC.region ?_
 refine VL.q (Q.move rfl) ?_
 refine VL.q (Q.move rfl) ?_
 refine VL.q (Q.slcL sl81 (l := i) (h := n) rfl ⟨_, _, rfl, by omega⟩ rfl (by omega) (by omega) (by omega)) ?_
 refine VL.nil ?_
 refine VE.seq ?_
 refine VC.seq ?_
 refine VC.region ?_
 refine VL.q (Q.move rfl) ?_
 refine VL.q (Q.len sl81 rfl) ?_
 refine VL.q (Q.assign rfl) ?_
 refine VL.nil ?_
 refine VE.seq ?_
 refine VC.seq ?_
 refine VC.seq ?_
 refine VC.region ?_
 refine VL.q (Q.move rfl) ?_
 refine VL.quietE (v' := .bool false) (by decide) (Q.eq rfl rfl) (by rfl) ?_
 refine VL.nil ?_
 refine VE.seq ?_
 refine VC.condF rfl ?_
 refine VC.skip ?_
 refine VE.seq ?_
 refine VC.seq ?_
 refine VC.region ?_
 refine VL.q (Q.move rfl) ?_
 refine VL.q (Q.len sl81 rfl) ?_
 refine VL.q (Q.assign rfl) ?_
 refine VL.nil ?_
 refine VE.seq ?_
 refine VC.seq ?_
 refine VC.seq ?_
 refine VC.region ?_
 refine VL.q (Q.move rfl) ?_
 refine VL.q (Q.move rfl) ?_
 refine VL.quietE (v' := .bool false) (by decide) (Q.eq rfl rfl) (congrArg Value.bool (by simp; omega)) ?_
 refine VL.nil ?_
 refine VE.seq ?_
 refine VC.condF rfl ?_
 refine VC.skip ?_
 refine VE.seq ?_
 refine VC.seq ?_
 refine VC.seq ?_
 refine VC.region ?_
 refine VL.q (Q.move rfl) ?_
 refine VL.q (Q.move rfl) ?_
 refine VL.q ((by first | exact Q.addI rfl rfl (by omega) (by omega) | exact Q.add rfl rfl)) ?_
 refine VL.q (Q.move rfl) ?_
 refine VL.q (Q.cap sl81 rfl) ?_
 refine VL.q (Q.gt rfl rfl) ?_
 refine VL.nil ?_
 refine VE.seq ?_
 refine VC.cond rfl ?_ ?_
 ·
  intro h31
  have hlt : c < n + 1 := by have := of_decide_eq_true h31; omega
  refine VC.seq ?_
  refine VC.region ?_
  refine VL.q (Q.move rfl) ?_
  refine VL.q (Q.move rfl) ?_
  refine VL.q (Q.slc0 sl81 (h := i) rfl ⟨_, _, rfl, rfl⟩ (by omega)) ?_
  refine VL.q (Q.move rfl) ?_
  refine VL.q (Q.move rfl) ?_
  refine VL.q ((by first | exact Q.addI rfl rfl (by omega) (by omega) | exact Q.add rfl rfl)) ?_
  refine VL.q (Q.move rfl) ?_
  refine VL.quietE (v' := .int .i64 ((n + 1 - i : Nat) : Int)) (by decide) ((by first | exact Q.subI rfl rfl (by omega) (by omega) | exact Q.sub rfl rfl)) (congrArg (Value.int .i64) (by omega)) ?_
  refine VL.eff (O.appendMakeI (m := n + 1 - i) (olds := A) sl81 ti3 ze117 rfl (by decide) rfl rfl hA (fun _ _ hw => by have := (Rd.row hw zM).take A.length; rwa [List.take_left] at this) (by omega) (by omega) (by omega) (by decide) (by decide) ?_)
  intro g40 D c40 hc40 hx40 hD40
  rw [show i + (n + 1 - i) = n + 1 from by omega]
  refine VL.q (Q.assign rfl) ?_
  refine VL.nil ?_
  refine VE.seq ?_
  refine VC.seq ?_
  refine VC.region ?_
  refine VL.q (Q.move rfl) ?_
  refine VL.q (Q.move rfl) ?_
  refine VL.q (Q.slcL sl81 (l := i) (h := n + 1) rfl ⟨_, _, rfl, by omega⟩ rfl (by omega) (by omega) (by omega)) ?_
  refine VL.q (Q.move rfl) ?_
  refine VL.eff (O.copy (news := ys) (C' := A ++ (ys ++ D.drop ys.length)) sl81 rfl rfl (by rw [hy]; omega) hy1 (by decide) (fun _ _ hw => (Rd.seg (k := 13) hw zM (by rw [← hy]; exact Seg.all))) zU (by rw [Nat.zero_add]; exact put_back hA (by omega)) ?_)
  refine VL.nil ?_
  refine VE.seq ?_
  refine VC.seq ?_
  refine VA.start (Ls := []) (Cs := []) mixed ?_
  refine VA.tk 0 rfl (ztt ze) (List.nil_sublist _) Cells.nil (Quiet.c (Q.move rfl)) ?_
  refine VA.tk 1 rfl (ztt ze) (List.nil_sublist _) Cells.nil (Quiet.c (Q.move rfl)) ?_
  refine VA.tk 2 rfl (ztt ze) (List.nil_sublist _) Cells.nil (Quiet.c (Q.move rfl)) ?_
  refine VA.tk 3 rfl (ztt ze) (List.nil_sublist _) Cells.nil (Quiet.c ((by first | exact Q.addI rfl rfl (by omega) (by omega) | exact Q.add rfl rfl))) ?_
  refine VA.tk 4 rfl (ztt ze) (List.nil_sublist _) Cells.nil (Quiet.c (Q.slcL sl81 (l := i + 1) (h := n + 1) rfl ⟨_, _, rfl, by omega⟩ rfl (by omega) (by omega) (by omega))) ?_
  refine VA.tk 5 rfl (ztt ze) (List.nil_sublist _) Cells.nil (Quiet.c (Q.move rfl)) ?_
  refine VA.tk 6 rfl (ztt ze) (List.nil_sublist _) Cells.nil (Quiet.c (Q.move rfl)) ?_
  refine VA.tk 7 rfl (ztt ze) (List.nil_sublist _) Cells.nil (Quiet.c (Q.slcL sl81 (l := i) (h := n) rfl ⟨_, _, rfl, by omega⟩ rfl (by omega) (by omega) (by omega))) ?_
  refine VA.all (rs := [8]) (by kernel_rfl) (by simp) ?_
  refine VA.forall1 ?_
  ·
   refine VA.eff rfl ?_
   refine id (O.copy (news := B) (C' := A ++ (ys ++ (B ++ (D.drop ys.length).drop B.length))) sl81 rfl rfl (by rw [hB]; omega) hB1 (by decide) (fun _ _ hw => by have := (Rd.row hw zM).drop (i * 13); rw [← hA, List.drop_left] at this; rw [← hA]; exact this) zU (by rw [show 0 + (i + 1) * 13 = A.length + 13 from by omega]; exact put_mid (put_back hy (by rw [List.length_drop]; omega))) ?_)
   refine VA.next (List.nil_sublist _) Cells.nil ?_
   refine VA.done (by kernel_rfl) ?_
   refine VE.seq ?_
   refine VC.seq ?_
   refine VK.keep (by exact .cons (i := 0) rfl (.cons (i := 1) rfl (.cons (i := 2) rfl (.cons (i := 6) rfl (.cons (i := 7) rfl (.cons (i := 8) rfl (.cons (i := 9) rfl ( .nil)))))))) ?_
   refine VC.region ?_
   refine VL.q (Q.move rfl) ?_
   refine VL.q (Q.assign rfl) ?_
   refine VL.nil ?_
   refine VE.seq ?_
   refine VC.ret ?_
   refine VE.then_ret ?_
   refine VK.toRow (g := g40) (s := 13) (m := n + 1) (c := c40) zU (by simp only [List.length_append, List.length_drop]; omega) (by omega) hx40 ?_
   rw [(take_ins (A := A) (Y := ys) (B := B) (R := (D.drop ys.length).drop B.length) (k := (n + 1) * 13) (by omega))]
   exact VE.ret rfl (.tmp rfl .nil) (g40, c40) (by omega) rfl zB
 ·
  intro h31
  have hge : n + 1 ≤ c := by have := of_decide_eq_false h31; omega
  refine VK.openAt (g := g) (m := n) (c := c) (s := 13) (xs := A ++ B) zA ?_
  intro D hD _ hcc hcx
  rw [List.append_assoc]
  refine VC.skip ?_
  refine VE.seq ?_
  refine VC.seq ?_
  refine VC.region ?_
  refine VL.q (Q.move rfl) ?_
  refine VL.q (Q.move rfl) ?_
  refine VL.q (Q.move rfl) ?_
  refine VL.q ((by first | exact Q.addI rfl rfl (by omega) (by omega) | exact Q.add rfl rfl)) ?_
  refine VL.q (Q.slc0 sl81 (h := n + 1) rfl ⟨_, _, rfl, by omega⟩ (by omega)) ?_
  refine VL.q (Q.assign rfl) ?_
  refine VL.nil ?_
  refine VE.seq ?_
  refine VC.seq ?_
  refine VC.seq ?_
  refine VC.region ?_
  refine VL.q (Q.move rfl) ?_
  refine VL.q (Q.move rfl) ?_
  refine VL.q (Q.move rfl) ?_
  refine VL.q (Q.move rfl) ?_
  refine VL.q ((by first | exact Q.addI rfl rfl (by omega) (by omega) | exact Q.add rfl rfl)) ?_
  refine VL.q (Q.slcL sl81 (l := i + 1) (h := n + 1) rfl ⟨_, _, rfl, by omega⟩ rfl (by omega) (by omega) (by omega)) ?_
  refine VL.q (Q.ext (v := .bool false) rfl rfl (fun W _ hw => by rw [ext_ov]; have h3 := own_overlaps (tR := 4) (o := 0) (o' := 0 + (i + 1) * 13) (m := 1) (c := 1) (m' := n + 1 - (i + 1)) (c' := c - (i + 1)) sl81 hw (g := gv) (g' := g) (C := ys) (C' := A ++ (B ++ D)) zM zM hg (by rw [List.length_append, List.length_append]; omega); exact (congrArg (fun r => Result.andThen r _) h3))) ?_
  refine VL.quietE (v' := .bool true) (by decide) (Q.not rfl) (by rfl) ?_
  refine VL.nil ?_
  refine VE.seq ?_
  refine VC.condT rfl ?_
  refine VC.seq ?_
  refine VA.start (Ls := []) (Cs := []) mixed ?_
  refine VA.tk 0 rfl (ztt ze) (List.nil_sublist _) Cells.nil (Quiet.c (Q.move rfl)) ?_
  refine VA.tk 1 rfl (ztt ze) (List.nil_sublist _) Cells.nil (Quiet.c (Q.move rfl)) ?_
  refine VA.tk 2 rfl (ztt ze) (List.nil_sublist _) Cells.nil (Quiet.c (Q.move rfl)) ?_
  refine VA.tk 3 rfl (ztt ze) (List.nil_sublist _) Cells.nil (Quiet.c ((by first | exact Q.addI rfl rfl (by omega) (by omega) | exact Q.add rfl rfl))) ?_
  refine VA.tk 4 rfl (ztt ze) (List.nil_sublist _) Cells.nil (Quiet.c (Q.slcL sl81 (l := i + 1) (h := n + 1) rfl ⟨_, _, rfl, by omega⟩ rfl (by omega) (by omega) (by omega))) ?_
  refine VA.tk 5 rfl (ztt ze) (List.nil_sublist _) Cells.nil (Quiet.c (Q.move rfl)) ?_
  refine VA.tk 6 rfl (ztt ze) (List.nil_sublist _) Cells.nil (Quiet.c (Q.move rfl)) ?_
  refine VA.tk 7 rfl (ztt ze) (List.nil_sublist _) Cells.nil (Quiet.c (Q.slcL sl81 (l := i) (h := n + 1) rfl ⟨_, _, rfl, by omega⟩ rfl (by omega) (by omega) (by omega))) ?_
  refine VA.all (rs := [8]) (by kernel_rfl) (by simp) ?_
  refine VA.forall1 ?_
  ·
   refine VA.eff rfl ?_
   refine id (O.copy (news := B) (C' := A ++ ((B ++ D).take 13 ++ (B ++ ((B ++ D).drop 13).drop B.length))) sl81 rfl rfl (by rw [hB]; omega) hB1 (by decide) (fun _ _ hw => by have := Rd.seg (o := A.length) (k := B.length) hw zM seg_mid; rw [Nat.zero_add, ← hA]; exact this) zU (by rw [show 0 + (i + 1) * 13 = A.length + 13 from by omega]; exact put_in (by rw [List.length_append]; omega)) ?_)
   refine VA.next (List.nil_sublist _) Cells.nil ?_
   refine VA.done (by kernel_rfl) ?_
   refine VE.seq ?_
   refine VC.seq ?_
   refine VK.keep (by exact .cons (i := 0) rfl (.cons (i := 1) rfl (.cons (i := 2) rfl (.cons (i := 6) rfl (.cons (i := 7) rfl (.cons (i := 8) rfl ( .nil))))))) ?_
   refine VC.region ?_
   refine VL.q (Q.move rfl) ?_
   refine VL.q (Q.move rfl) ?_
   refine VL.q (Q.slcL sl81 (l := i) (h := n + 1) rfl ⟨_, _, rfl, by omega⟩ rfl (by omega) (by omega) (by omega)) ?_
   refine VL.q (Q.move rfl) ?_
   refine VL.eff (O.copy (news := ys) (C' := A ++ (ys ++ (B ++ ((B ++ D).drop 13).drop B.length))) sl81 rfl rfl (by rw [hy]; omega) hy1 (by decide) (fun _ _ hw => (Rd.seg (k := 13) hw zM (by rw [← hy]; exact Seg.all))) zU (by rw [show 0 + i * 13 = A.length + 0 from by omega]; exact put_mid (put_over (by rw [List.length_take, List.length_append]; omega))) ?_)
   refine VL.nil ?_
   refine VE.seq ?_
   refine VC.seq ?_
   refine VC.region ?_
   refine VL.q (Q.move rfl) ?_
   refine VL.q (Q.assign rfl) ?_
   refine VL.nil ?_
   refine VE.seq ?_
   refine VC.ret ?_
   refine VE.then_ret ?_
   refine VK.toRow (g := g) (s := 13) (m := n + 1) (c := c) zU (by simp only [List.length_append, List.length_drop]; omega) hge hcx ?_
   rw [(take_ins (A := A) (Y := ys) (B := B) (R := ((B ++ D).drop 13).drop B.length) (k := (n + 1) * 13) (by omega))]
   exact VE.ret rfl (.tmp rfl .nil) (g, c) hge rfl zB

theorem learn1_c (gl ga : Nat) (p : Option Addr) (n c : Nat) (l : List Cd) (hl : l.length = n) (hok : CdsOk l) (a : Nat) (ha : a ≤ 255) (q : Nat) (hq : q < n) :
  Does Tryz.prog 88 [.int .i64 (q : Int), .pointer (some ⟨gl, 0, none⟩), .pointer (some ⟨ga, 0, none⟩)] [] (fun W => W.cell? ⟨gl, 0, none⟩ = some (.slice p n c) ∧ Rd W (some ⟨ga, 0, none⟩) (nodeC a) ∧ Rd W p (l.flatMap cdC)) (X := Unit) (fun _ => True) (fun _ => .bool (isGe l a q)) (fun _ => []) := by
 subst hl
 refine Does.enter Tryz.func88 rfl (m := 13) rfl (by simp) ?_
 intro W0 hro
 obtain ⟨b0, o0, rfl⟩ := hro.2.2.pos (by rw [fm_length cdC_len]; omega)
 refine VC.seq ?_
 refine VC.region ?_
 refine VL.q (Q.assign rfl) ?_
 refine VL.nil ?_
 refine VE.seq ?_
 refine VC.seq ?_
 refine VA.start (Ls := []) (Cs := []) mixed ?_
 refine VA.tk 0 rfl (zt ze) (List.nil_sublist _) Cells.nil (Quiet.c (Q.load0 (v := .slice (some ⟨b0, o0, none⟩) l.length c) ty81 rfl hro.1 (by simp))) ?_
 refine VA.tk 1 rfl (zt ze) (List.nil_sublist _) Cells.nil (Quiet.c (Q.move rfl)) ?_
 refine VA.tk 2 rfl (zt ze) (List.nil_sublist _) Cells.nil (Quiet.c (Q.indexAddr sl81 (j := q) rfl rfl rfl hq)) ?_
 refine VA.tk 3 rfl (zt ze) (List.nil_sublist _) Cells.nil (Quiet.c (Q.fieldAddr fa117_0 rfl)) ?_
 refine VA.tk 4 rfl (zt ze) (List.nil_sublist _) Cells.nil (Quiet.c (Q.load0A (xs := nodeC l[q].a) ty44 rfl (Rd.sg2 hro.2.2 (fm_sub cdC_len l (q) hq (o := 0) (ys := nodeC l[q].a) zS)) (by simp))) ?_
 refine VA.tk 5 rfl (zt ze) (List.nil_sublist _) Cells.nil (Quiet.c (Q.load0A (xs := nodeC a) ty44 rfl (fun j u hj => Rd.at hro.2.1 hj) (by simp))) ?_
 refine VA.all (rs := [6]) (by kernel_rfl) (by simp) ?_
 refine VA.forall1 ?_
 ·
  refine VA.eff rfl ?_
  refine id (O.call0 ok89 rfl rfl (by decide) (scompare_c l[q].a a (hok.ok _ (List.getElem_mem _)).a ha) (fun _ _ _ => trivial) ?_)
  intro x11 y11
  refine VA.next (List.nil_sublist _) Cells.nil ?_
  refine VA.tk 7 rfl (zt ze) (List.nil_sublist _) Cells.nil (Quiet.c (Quiet.to (v' := .bool (isGe l a q)) (Q.ge rfl rfl) (congrArg Value.bool (by rw [cmpN_ge2, isGe_at hq])))) ?_
  refine VA.tk 8 rfl (zt ze) (List.nil_sublist _) Cells.nil (Quiet.c (Q.assign rfl)) ?_
  refine VA.done (by kernel_rfl) ?_
  refine VE.seq ?_
  refine VC.ret ?_
  refine VE.ret rfl (.tmp rfl .nil) () ?_ ?_ (List.nil_sublist _)
  ·
   trivial
  ·
   first | rfl | (exfalso; simp at *; omega)

theorem learn_c (p : Option Addr) (n c : Nat) (l : List Cd) (hl : l.length = n) (hn : n ≤ 60) (hok : CdsOk l) (a : Nat) (ha : a ≤ 255) (iv : Nat) (hiv : 1 ≤ iv ∧ iv ≤ 65535) (pe : Option Addr) (ce : Nat) (els : List El) (nm : List UInt8) (ld : UInt8) (sec : Bool) (hsay : Says els nm ld sec) (hnm : nm.length ≤ 32) (ch lv hd : Int) (hch : 1 ≤ ch ∧ ch ≤ 64) (hlv : -2000 ≤ lv ∧ lv ≤ 2000) (hhd : 0 ≤ hd ∧ hd ≤ 1099511627776) (hno : ∀ q ∈ l, q.a ≠ a) :
  Does Tryz.prog 27 [.agg #[.slice p n c], .agg #[.int .u8 2, .int .u8 0, .int .u8 0, .int .u8 0, .int .u8 1, .int .u8 (a : Int)], .agg #[.int .u64 7, .int .u16 (iv : Int), .int .u16 0, .slice pe els.length ce], .int .i64 ch, .int .i64 lv, .int .i64 hd] [] (fun W => Rd W p (l.flatMap cdC) ∧ RdE pe els W) (X := Tx) (fun x => CdsOk x.l ∧ (∀ q, q ∈ x.l ↔ q = (⟨a, ch, lv, (ld.toNat : Int), hd, (iv : Int), strOf nm, sec⟩ : Cd) ∨ q ∈ l) ∧ x.l.length = l.length + 1) (fun x => .tuple #[.agg #[.slice x.p x.l.length x.c], .int .i64 0]) (fun x => [.row (.slice x.p x.l.length x.c) 117 13 x.l.length (x.l.flatMap cdC)]) := by
 subst hl
 have hbl := byte_bd ld
 refine Does.enter Tryz.func27 rfl (m := 85) rfl (by simp) ?_
 intro W0 hro
 refine VC.seq ?_
 refine VC.region ?_
 refine VL.eff (O.box rfl rfl (by decide) ?_)
 intro g6
 refine VL.eff (O.box rfl rfl (by decide) ?_)
 intro g7
 refine VL.eff (O.box rfl rfl (by decide) ?_)
 intro g8
 refine VL.eff (O.alloc zo83 (by decide) ?_)
 intro g12
 refine VL.q (Q.assign rfl) ?_
 refine VL.nil ?_
 refine VE.seq ?_
 refine VC.seq ?_
 refine VC.seq ?_
 refine VC.region ?_
 refine VL.q (Q.loadA ty83 rfl zM zS) ?_
 refine VL.eff (O.call0 ok83 rfl rfl (by decide) (scheck_c p l.length c l rfl hn hok) (fun _ ho _ => hro.1.only0 ho) ?_)
 intro x20 y20
 refine VL.q (Q.assign rfl) ?_
 refine VL.nil ?_
 refine VE.seq ?_
 refine VC.seq ?_
 refine VC.region ?_
 refine VL.q (Q.move rfl) ?_
 refine VL.quietE (v' := .bool false) (by decide) (Q.ne rfl rfl) (by rfl) ?_
 refine VL.nil ?_
 refine VE.seq ?_
 refine VC.condF rfl ?_
 refine VC.skip ?_
 refine VE.seq ?_
 refine VC.seq ?_
 refine VC.region ?_
 refine VL.q (Q.loadA ty44 rfl zM zS) ?_
 refine VL.q (Q.move rfl) ?_
 refine VL.q (Q.move rfl) ?_
 refine VL.q (Q.move rfl) ?_
 refine VL.q (Q.build lay117 zF) ?_
 refine VL.eff (O.alloc zo117 (by decide) ?_)
 intro g15
 refine VL.eff (O.store ty117 rfl rfl rfl rfl zU zP ?_)
 refine VL.nil ?_
 refine VE.seq ?_
 refine VC.seq ?_
 refine VC.seq ?_
 refine VC.region ?_
 refine VL.q (Q.indexAddrA ar44 (j := 0) rfl rfl rfl (by omega)) ?_
 refine VL.q (Q.load1 ty5 rfl zM rfl) ?_
 refine VL.quietE (v' := .int .u8 0) (by decide) (Q.and rfl rfl (by omega) (by simp only [khi]; omega) (by omega) (by simp only [khi]; omega)) (by rfl) ?_
 refine VL.quietE (v' := .bool false) (by decide) (Q.eq rfl rfl) (by rfl) ?_
 refine VL.q (Q.move rfl) ?_
 refine VL.yes rfl rfl ?_
 refine VL.q (Q.loadA ty117 rfl zM zS) ?_
 refine VL.yes rfl rfl ?_
 refine VL.eff (O.call0 ok84 rfl rfl (by decide) (svalid_c ⟨a, ch, lv, 0, hd, 1, ByteArray.empty, false⟩ ⟨ha, hch, hlv, ⟨Int.le_refl _, by show (0 : Int) ≤ 255; decide⟩, hhd, ⟨Int.le_refl _, by show (1 : Int) ≤ 65535; decide⟩, by show ByteArray.empty.size ≤ 32; decide⟩) (fun _ _ _ => trivial) ?_)
 intro x36 y36
 refine VL.yes rfl rfl ?_
 refine VL.quietE (v' := .bool false) (by decide) (Q.not rfl) (by rfl) ?_
 refine VL.quietE (v' := .bool false) (by decide) (Q.pick_false rfl rfl) (by rfl) ?_
 refine VL.nil ?_
 refine VE.seq ?_
 refine VC.condF rfl ?_
 refine VC.skip ?_
 refine VE.seq ?_
 refine VC.seq ?_
 refine VC.seq ?_
 refine VC.region ?_
 refine VL.q (Q.loadA ty111 rfl zM zS) ?_
 refine VK.picks (Lin := [.blk g15 [.int .u8 2, .int .u8 0, .int .u8 0, .int .u8 0, .int .u8 1, .int .u8 (a : Int), .int .i64 ch, .int .i64 lv, .int .i64 0, .int .i64 hd, .int .i64 1, .string ByteArray.empty, .bool false] 117, .blk g12 [.slice none 0 0] 83, .blk g8 [.int .u64 7, .int .u16 (iv : Int), .int .u16 0, .slice pe els.length ce] 111, .blk g7 [.int .u8 2, .int .u8 0, .int .u8 0, .int .u8 0, .int .u8 1, .int .u8 (a : Int)] 44, .blk g6 [.slice p l.length c] 83]) zM2 ?_
 refine VK.freshR (r := .blk g15 [.int .u8 2, .int .u8 0, .int .u8 0, .int .u8 0, .int .u8 1, .int .u8 (a : Int), .int .i64 ch, .int .i64 lv, .int .i64 0, .int .i64 hd, .int .i64 1, .string ByteArray.empty, .bool false] 117) zM ?_
 intro f15
 refine VL.eff (O.callF ok85 rfl rfl (by decide) (sread_c W0 g15 a ch lv hd iv hiv pe ce els nm ld sec hsay hnm hro.2 (fun j hj => by simp only [Rs.ids, List.flatMap_cons, List.flatMap_nil, List.append_nil, List.mem_singleton] at hj; rw [hj]; exact (f15 g15 (by simp [Rs.ids])).elim (fun h => by cases h) id)) zM2 (fun _ ho _ => ho) ?_)
 intro x41 y41
 refine VL.quietE (v' := .bool false) (by decide) (Q.not rfl) (by rfl) ?_
 refine VL.nil ?_
 refine VE.seq ?_
 refine VC.condF rfl ?_
 refine VC.skip ?_
 refine VE.seq ?_
 refine VC.seq ?_
 refine VC.region ?_
 refine VL.q (Q.fieldAddr fa83_0 rfl) ?_
 refine VL.q (Q.load1 ty81 rfl zM rfl) ?_
 refine VL.eff (O.call0 ok86 rfl rfl (by decide) (clone_cand p l.length c (l.flatMap cdC) (fm_length cdC_len l) (fm_one cdC_one l) (by omega)) (fun _ ho _ => hro.1.only0 ho) ?_)
 rintro ⟨p46, c46⟩ y46
 refine VL.eff (O.alloc zo81 (by decide) ?_)
 intro g16
 refine VL.eff (O.store ty81 rfl rfl rfl rfl zU zP ?_)
 refine VL.nil ?_
 refine VE.seq ?_
 refine VC.seq ?_
 refine VC.region ?_
 refine VL.q (Q.load1 ty81 rfl zM rfl) ?_
 refine VL.q (Q.len sl81 rfl) ?_
 refine VL.q (Q.makeFunc rfl rfl) ?_
 refine VL.eff (O.call0 ok87 rfl rfl (by decide) (search_c l.length (by omega) 88 ok88 [.pointer (some ⟨g16, 0, none⟩), .pointer (some ⟨g7, 0, none⟩)] (isGe l a) (fun W => W.cell? ⟨g16, 0, none⟩ = some (.slice p46 l.length c46) ∧ Rd W (some ⟨g7, 0, none⟩) (nodeC a) ∧ Rd W p46 (l.flatMap cdC)) (fun _ _ h ho => ⟨only_cell ho h.1 (by simp), h.2.1.only0 ho, h.2.2.only0 ho⟩) (fun q hq => learn1_c g16 g7 p46 l.length c46 l rfl hok a ha q hq)) (fun _ _ hW => ⟨by rw [own_cell hW zM]; rfl, Rd.seg (k := 6) hW zM zS, Rd.row hW zM⟩) ?_)
 intro x50 y50
 obtain ⟨i, hi50⟩ : ∃ i, i = (bsr (isGe l a) l.length 0 l.length) := ⟨_, rfl⟩
 have hpl : Place l a i := hi50 ▸ place_of hok a
 rw [← hi50]
 have hile := hpl.le
 refine VL.q (Q.assign rfl) ?_
 refine VL.nil ?_
 refine VE.seq ?_
 refine VC.seq ?_
 refine VC.seq ?_
 refine VK.keep (by exact .cons (i := 7) rfl (.cons (i := 12) rfl (.cons (i := 13) rfl (.cons (i := 15) rfl (.cons (i := 16) rfl (.cons (i := 17) rfl ( .nil))))))) ?_
 refine VA.start (Ls := [.blk g16 [.slice p46 l.length c46] 81, .row (.slice p46 l.length c46) 117 13 l.length (l.flatMap cdC), .blk g7 [.int .u8 2, .int .u8 0, .int .u8 0, .int .u8 0, .int .u8 1, .int .u8 (a : Int)] 44]) (Cs := []) mixed ?_
 refine VA.tk 0 rfl (ztt ze) zB Cells.nil (Quiet.c (Q.move rfl)) ?_
 refine VA.tk 1 rfl (ztt ze) zB Cells.nil (Quiet.c (Q.load1 ty81 rfl zM rfl)) ?_
 refine VA.tk 2 rfl (ztt ze) zB Cells.nil (Quiet.c (Q.len sl81 rfl)) ?_
 refine VA.tk 3 rfl (ztt ze) zB Cells.nil (Quiet.c (Q.lt rfl rfl)) ?_
 refine VA.tk 4 rfl (ztt ze) zB Cells.nil (Quiet.c (Q.move rfl)) ?_
 refine VK.case 55 rfl ?_ ?_
 ·
  intro h55
  have hilt : i < l.length := by have := of_decide_eq_true h55; omega
  refine VK.rowHead (m := l.length) (p := p46) (c := c46) zM (by omega) ?_
  intro gr hgr _ _
  subst hgr
  refine VA.tkY 5 rfl (ztt ze) zB Cells.nil (Quiet.c (Q.load1 ty81 rfl zM rfl)) ?_
  refine VA.tkY 6 rfl (ztt ze) zB Cells.nil (Quiet.c (Q.move rfl)) ?_
  refine VA.tkY 7 rfl (ztt ze) zB Cells.nil (Quiet.c (Q.indexAddr sl81 (j := i) rfl rfl rfl hilt)) ?_
  refine VA.tkY 8 rfl (ztt ze) zB Cells.nil (Quiet.c (Q.fieldAddr fa117_0 rfl)) ?_
  refine VA.tkY 9 rfl (ztt ze) zB Cells.nil (Quiet.c (Q.loadRowA (ys := nodeC l[i].a) ty44 rfl zM (by rw [Nat.zero_add]; exact fm_sub cdC_len l i hilt (o := 0) zS))) ?_
  refine VA.tkY 10 rfl (ztt ze) zB Cells.nil (Quiet.c (Q.loadA ty44 rfl zM zS)) ?_
  refine VA.tkY 11 rfl (ztt ze) zB Cells.nil (Quiet.c (Quiet.to (v' := .bool false) (Q.eqS flt44 (by decide) ty44 eg44 rfl rfl rfl rfl) (congrArg Value.bool ((node_eq l[i].a a).trans (decide_eq_false (hno _ (List.getElem_mem hilt))))))) ?_
  refine VA.tk 12 rfl (ztt ze) zB Cells.nil (Quiet.c (Q.pick_true rfl rfl)) ?_
  refine VA.done (by kernel_rfl) ?_
  refine VE.seq ?_
  refine VC.condF rfl ?_
  refine VC.skip ?_
  refine VE.seq ?_
  refine VC.seq ?_
  refine VC.region ?_
  refine VL.q (Q.load1 ty81 rfl zM rfl) ?_
  refine VL.q (Q.move rfl) ?_
  refine VL.q (Q.loadA ty117 rfl zM zS) ?_
  refine VL.eff (O.buildSlice sl81 ze117 (by decide) zF (by decide) ?_)
  intro g73
  rw [cells_split l i]
  refine VK.apart (r := .blk g73 [.int .u8 2, .int .u8 0, .int .u8 0, .int .u8 0, .int .u8 1, .int .u8 (a : Int), .int .i64 ch, .int .i64 lv, .int .i64 (ld.toNat : Int), .int .i64 hd, .int .i64 (iv : Int), .string (strOf nm), .bool sec] 117) (r' := .row (.slice (some ⟨gr, 0, none⟩) l.length c46) 117 13 l.length ((l.take i).flatMap cdC ++ (l.drop i).flatMap cdC)) (Two.here zM) ?_
  intro hap
  have hne : g73 ≠ gr := by simpa [Rs.ids, Value.ownBlock] using hap
  refine VL.eff (O.callF ok90 rfl rfl (by decide) (insmid_c gr c46 g73 i l.length ((l.take i).flatMap cdC) ((l.drop i).flatMap cdC) [.int .u8 2, .int .u8 0, .int .u8 0, .int .u8 0, .int .u8 1, .int .u8 (a : Int), .int .i64 ch, .int .i64 lv, .int .i64 (ld.toNat : Int), .int .i64 hd, .int .i64 (iv : Int), .string (strOf nm), .bool sec] (take_len l i (by omega)) (drop_len l i) hilt (by omega) (fm_one cdC_one _) (fm_one cdC_one _) rfl rfl (by have := y46; omega) hne) zM2 (fun _ _ _ => trivial) ?_)
  rintro ⟨g74, c74⟩ y74
  have h74 : ∃ q74, some (⟨g74, 0, none⟩ : Addr) = q74 := ⟨_, rfl⟩
  obtain ⟨q74, h74⟩ := h74
  rw [h74]
  rw [show (l.take i).flatMap cdC ++ ([.int .u8 2, .int .u8 0, .int .u8 0, .int .u8 0, .int .u8 1, .int .u8 (a : Int), .int .i64 ch, .int .i64 lv, .int .i64 (ld.toNat : Int), .int .i64 hd, .int .i64 (iv : Int), .string (strOf nm), .bool sec] ++ (l.drop i).flatMap cdC) = (insAt l i (⟨a, ch, lv, (ld.toNat : Int), hd, (iv : Int), strOf nm, sec⟩ : Cd)).flatMap cdC from (insAt_cells l i (⟨a, ch, lv, (ld.toNat : Int), hd, (iv : Int), strOf nm, sec⟩ : Cd)).symm]
  refine VL.eff (O.store ty81 rfl rfl rfl rfl zU zP ?_)
  refine VL.nil ?_
  refine VE.seq ?_
  refine VC.seq ?_
  refine VC.seq ?_
  refine VC.region ?_
  refine VL.q (Q.load1 ty81 rfl zM rfl) ?_
  refine VL.q (Q.len sl81 rfl) ?_
  refine VL.quietE (v' := .bool false) (by decide) (Q.gt rfl rfl) (congrArg Value.bool (decide_eq_false (by omega))) ?_
  refine VL.nil ?_
  refine VE.seq ?_
  refine VC.condF rfl ?_
  refine VC.skip ?_
  refine VE.seq ?_
  refine VC.seq ?_
  refine VC.region ?_
  refine VL.q (Q.load1 ty81 rfl zM rfl) ?_
  refine VL.q (Q.build lay83 zF) ?_
  refine VL.eff (O.store ty83 rfl rfl rfl rfl zU zP ?_)
  refine VL.q (Q.assign rfl) ?_
  refine VL.nil ?_
  refine VE.seq ?_
  refine VC.ret ?_
  rw [← insAt_len l i (⟨a, ch, lv, (ld.toNat : Int), hd, (iv : Int), strOf nm, sec⟩ : Cd) hile]
  exact VE.ret rfl (.cell ty83 rfl zM rfl (.tmp rfl .nil)) ⟨q74, c74, insAt l i (⟨a, ch, lv, (ld.toNat : Int), hd, (iv : Int), strOf nm, sec⟩ : Cd)⟩ ⟨insAt_ok hok ⟨ha, hch, hlv, by show (0 : Int) ≤ (ld.toNat : Int) ∧ (ld.toNat : Int) ≤ 255; omega, hhd, by show (1 : Int) ≤ (iv : Int) ∧ (iv : Int) ≤ 65535; omega, by show (strOf nm).size ≤ 32; rw [strOf_eq]; simpa [ByteArray.size] using hnm⟩ hno hpl, insAt_mem l i _, rfl⟩ rfl zB
 ·
  intro h55
  have hie : i = l.length := by have := of_decide_eq_false h55; omega
  refine VA.tkN 5 (.inl rfl) (ztt ze) zB Cells.nil ?_
  refine VA.tkN 6 (.inl rfl) (ztt ze) zB Cells.nil ?_
  refine VA.tkN 7 (.inl rfl) (ztt ze) zB Cells.nil ?_
  refine VA.tkN 8 (.inl rfl) (ztt ze) zB Cells.nil ?_
  refine VA.tkN 9 (.inl rfl) (ztt ze) zB Cells.nil ?_
  refine VA.tkN 10 (.inl rfl) (ztt ze) zB Cells.nil ?_
  refine VA.tkN 11 (.inl rfl) (ztt ze) zB Cells.nil ?_
  refine VA.tk 12 rfl (ztt ze) zB Cells.nil (Quiet.c (Q.pick_false rfl rfl)) ?_
  refine VA.done (by kernel_rfl) ?_
  refine VE.seq ?_
  refine VC.condF rfl ?_
  refine VC.skip ?_
  refine VE.seq ?_
  refine VC.seq ?_
  refine VC.region ?_
  refine VL.q (Q.load1 ty81 rfl zM rfl) ?_
  refine VL.q (Q.move rfl) ?_
  refine VL.q (Q.loadA ty117 rfl zM zS) ?_
  refine VL.eff (O.buildSlice sl81 ze117 (by decide) zF (by decide) ?_)
  intro g73_1
  rw [hie]
  refine VL.eff (O.callF ok90 rfl rfl (by decide) (insend_c p46 l.length c46 g73_1 (l.flatMap cdC) [.int .u8 2, .int .u8 0, .int .u8 0, .int .u8 0, .int .u8 1, .int .u8 (a : Int), .int .i64 ch, .int .i64 lv, .int .i64 (ld.toNat : Int), .int .i64 hd, .int .i64 (iv : Int), .string (strOf nm), .bool sec] rfl rfl (by omega) (by have := y46; omega)) zM2 (fun _ _ _ => trivial) ?_)
  rintro ⟨q74, c74⟩ y74
  rw [show l.flatMap cdC ++ [.int .u8 2, .int .u8 0, .int .u8 0, .int .u8 0, .int .u8 1, .int .u8 (a : Int), .int .i64 ch, .int .i64 lv, .int .i64 (ld.toNat : Int), .int .i64 hd, .int .i64 (iv : Int), .string (strOf nm), .bool sec] = (insAt l i (⟨a, ch, lv, (ld.toNat : Int), hd, (iv : Int), strOf nm, sec⟩ : Cd)).flatMap cdC from by rw [insAt_cells, hie, List.take_length, List.drop_length]; simp [cdC]]
  refine VL.eff (O.store ty81 rfl rfl rfl rfl zU zP ?_)
  refine VL.nil ?_
  refine VE.seq ?_
  refine VC.seq ?_
  refine VC.seq ?_
  refine VC.region ?_
  refine VL.q (Q.load1 ty81 rfl zM rfl) ?_
  refine VL.q (Q.len sl81 rfl) ?_
  refine VL.quietE (v' := .bool false) (by decide) (Q.gt rfl rfl) (congrArg Value.bool (decide_eq_false (by omega))) ?_
  refine VL.nil ?_
  refine VE.seq ?_
  refine VC.condF rfl ?_
  refine VC.skip ?_
  refine VE.seq ?_
  refine VC.seq ?_
  refine VC.region ?_
  refine VL.q (Q.load1 ty81 rfl zM rfl) ?_
  refine VL.q (Q.build lay83 zF) ?_
  refine VL.eff (O.store ty83 rfl rfl rfl rfl zU zP ?_)
  refine VL.q (Q.assign rfl) ?_
  refine VL.nil ?_
  refine VE.seq ?_
  refine VC.ret ?_
  rw [← insAt_len l i (⟨a, ch, lv, (ld.toNat : Int), hd, (iv : Int), strOf nm, sec⟩ : Cd) hile]
  exact VE.ret rfl (.cell ty83 rfl zM rfl (.tmp rfl .nil)) ⟨q74, c74, insAt l i (⟨a, ch, lv, (ld.toNat : Int), hd, (iv : Int), strOf nm, sec⟩ : Cd)⟩ ⟨insAt_ok hok ⟨ha, hch, hlv, by show (0 : Int) ≤ (ld.toNat : Int) ∧ (ld.toNat : Int) ≤ 255; omega, hhd, by show (1 : Int) ≤ (iv : Int) ∧ (iv : Int) ≤ 65535; omega, by show (strOf nm).size ≤ 32; rw [strOf_eq]; simpa [ByteArray.size] using hnm⟩ hno hpl, insAt_mem l i _, rfl⟩ rfl zB

end Go.Proofs.YtencghlmckbmlaaGreat
