/- Pieces of sending a frame up the mesh. Conditions: those that each bears. -/
import Derived.Test.YtencghlmckbmlaaGreatRows
import Derived.Test.YtencghlmckbmlaaGreatZUp0
namespace Go.Proofs.YtencghlmckbmlaaGreat
open Go Go.RowKit Go.Sx
set_option maxRecDepth 100000

theorem ar56 : tyArr Tryz.prog 56 = some (6, 55, 9) := by kernel_rfl
theorem fa59_2 : tyField Tryz.prog 59 2 = some 102 := by kernel_rfl
theorem ok47 : okFunc Tryz.prog 47 = true := by kernel_rfl
theorem ok50 : okFunc Tryz.prog 50 = true := by kernel_rfl

open Go.Mesh
theorem Q.convStrP {P : Program} {W0 : World} {gs : List Nat} {E : List (Nat × Value)} {L : List Rs} {ts td e : TypeId} {x : Operand} {p : Option Addr} {m c s by_ : Nat} {l : List UInt8} (ht : tySlice P ts = some (e, s, by_)) (he : tyInt P e = some .u8) (hd : P.underlying td = some .string) (hx : ev E x = some (.slice p m c)) (hl : l.length = m)
    (hrd : ∀ W, Only gs W0 W → Own W L → Rd W p (bs l)) : Quiet P W0 gs E L (.convert ts td x) (.string (strOf l)) := by
  by_cases h0 : l = []
  · subst h0
    have hm : m = 0 := by simpa using hl.symm
    subst hm
    intro a W dst ty pos after g hev ho hw
    obtain ⟨i, hu, _⟩ := tySlice_spec ht
    have hue : P.underlying e = some (.int .u8) := by
      unfold tyInt at he
      split at he
      · simp only [Option.some.injEq] at he
        subst he
        assumption
      · cases he
    cases p with
    | none => simp [execOp, hev x _ hx, run_convert_bytes_string W ts td e _ _ _ hu hue hd, Conv.bytesToString, strOf]
    | some q =>
      have hcells : (loadCells q 0).run P W = .ok (([] : List Int).map (Value.int .u8)).toArray W := by
        have := run_loadCells_list (P := P) W q [] (fun j v hv => by simp at hv)
        simpa using this
      simp [execOp, hev x _ hx, run_convert_bytes_string W ts td e _ _ _ hu hue hd, run_bytesToString W _ _ _ _ hcells, strOf]
  · intro a W dst ty pos after g hev ho hw
    have hr := hrd W ho hw
    obtain ⟨b, o, rfl⟩ := hr.pos (by rw [bs_length]; exact List.length_pos_iff.2 h0)
    exact Q.convStr ht he hd hx hl hrd a W dst ty pos after g hev ho hw
def updY (Y : Lay) (k : Nat) (q1 q2 : Option Addr × Nat) : Lay := { Y with sv := upd Y.sv k q1, nv := upd Y.nv k q2 }
theorem fwdC_at (F : Fwd) (Y : Lay) (k : Nat) (q1 q2 : Option Addr × Nat) : fwdC F (updY Y k q1 q2) k = [.int .u8 2, .int .u8 0, .int .u8 0, .int .u8 0, .int .u8 2, .int .u8 (k : Int), .int .i64 (F.fseq k : Int), .slice q1.1 (F.seen k).length q1.2, .slice q2.1 (lst (F.next k)).length q2.2] := by simp [fwdC, updY, upd]
theorem fwdC_else {F F' : Fwd} {Y : Lay} {k j : Nat} {q1 q2 : Option Addr × Nat} (hj : j ≠ k) (h1 : F'.fseq j = F.fseq j) (h2 : F'.seen j = F.seen j) (h3 : F'.next j = F.next j) : fwdC F' (updY Y k q1 q2) j = fwdC F Y j := by
  unfold fwdC
  rw [h1, h2, h3]
  simp [updY, upd, hj]
theorem held_fwd {M : Core} {F F' : Fwd} {Y : Lay} {R : List Rs} (h : Held M F Y R) {k : Nat} (hs : ∀ j, j ≠ k → F'.seen j = F.seen j) (hn : ∀ j, j ≠ k → F'.next j = F.next j) (q1 q2 : Option Addr × Nat) (hc : (F'.seen k).length ≤ q1.2) :
    Held M F' (updY Y k q1 q2) (sRow q1 (F'.seen k) :: nRow q2 (F'.next k) :: R) where
  tr := fun i hi => .tail _ (.tail _ (h.tr i hi))
  sn := fun i hi => by
    by_cases e : i = k
    · subst e; simp [updY, upd]
    · simp only [updY, upd, if_neg e]
      rw [hs i e]
      exact .tail _ (.tail _ (h.sn i hi))
  sc := fun i hi => by
    by_cases e : i = k
    · subst e; simpa [updY, upd] using hc
    · simp only [updY, upd, if_neg e]
      rw [hs i e]
      exact h.sc i hi
  nx := fun i hi => by
    by_cases e : i = k
    · subst e; simp [updY, upd]
    · simp only [updY, upd, if_neg e]
      rw [hn i e]
      exact .tail _ (.tail _ (h.nx i hi))
  bd := fun x hx => .tail _ (.tail _ (h.bd x hx))
  ml := h.ml
theorem seen_ln {n : Nat} {M : Core} {F : Fwd} (h : FInv n M F) {i : Nat} (hi : i < 6) (hn : n ≤ 119) : (F.seen i).length ≤ 125 := by
  have := h.ln i hi
  omega

structure WS where
  st : Nat
  f : Nat
  a : Nat
  vis : Nat → Bool
  Y : Lay
  R : List Rs
  pd : Option Addr
  cd : Nat

theorem up_send (i r : Nat) (W0 : World) (gs : List Nat) (g : Nat) (M : Core) (F : Fwd) (n : Nat) (hF : FInv n M F) (hF1 : FInv n M (setF M F r 6)) (hn : n ≤ 118) (hi : i < 6) (hr : r < 2) (p : Option Addr) (m c : Nat) (l : List UInt8) (hl : l.length = m) (hm : m ≤ 100) (g8 : Nat) (Y1 : Lay) (R1 : List Rs) (hH1 : Held M (setF M F r 6) Y1 R1) (hir : i ≠ r) (hmk : (i, F.fseq i) ∉ F.seen i) (hrd : ∀ W, Only gs W0 W → Rd W p (bs l)) (b17 : Bool) (QQ : Exit → Act → World → Prop) (hS : Still QQ) (hn0 : ∀ z : Option (Nat × ((Option Addr × Nat) × ((Option Addr × Nat) × (Option Addr × Nat)))) × (Nat × Nat), (match z.1 with | none => setN M F r 6 i r = none | some y => setN M F r 6 i r = some y.1 ∧ (F.seen i ++ [(i, (F.fseq i))]).length ≤ y.2.1.2 ∧ m ≤ y.2.2.2.2) → VK W0 gs 200 (fun a W => QQ .normal a W) [(18, .pointer (some ⟨z.2.1, 0, none⟩)), (19, .pointer (some ⟨z.2.2, 0, none⟩)), (20, .int .i64 (match z.1 with | none => 6 | some _ => 0)), (0, .pointer (some ⟨g, 0, none⟩)), (1, .int .i64 (i : Int)), (2, .int .i64 (r : Int)), (4, .slice p m c), (8, .pointer (some ⟨g8, 0, none⟩)), (17, .bool b17)] (match z.1 with | none => .blk z.2.1 [.int .u8 0, .int .u8 0, .int .u8 0, .int .u8 0, .int .u8 0, .int .u8 0, .int .i64 0, .slice none 0 0, .slice none 0 0] 55 :: .blk z.2.2 [.int .u8 0, .int .u8 0, .int .u8 0, .int .u8 0, .int .u8 0, .int .u8 0, .int .u8 0, .int .u8 0, .int .u8 0, .int .u8 0, .int .u8 0, .int .u8 0, .int .u8 0, .int .u8 0, .int .u8 0, .int .u8 0, .int .u8 0, .int .u8 0, .int .u8 0, .int .u8 0, .int .u8 0, .int .u8 0, .int .u8 0, .int .u8 0, .int .u8 0, .int .u8 0, .int .u8 0, .int .u8 0, .int .u8 0, .int .u8 0, .int .u8 0, .int .u8 0, .int .u8 0, .int .u8 0, .int .u8 0, .int .u8 0, .int .i64 0, .int .i64 0, .slice none 0 0] 156 :: .blk g8 [.int .u8 2, .int .u8 9, .int .u8 9, .int .u8 9, .int .u8 9, .int .u8 9] 44 :: mBlk g M (setF M F r 6) Y1 :: mRow Y1 :: R1 | some (v, q1, q2, qd) => .blk z.2.1 [.int .u8 2, .int .u8 0, .int .u8 0, .int .u8 0, .int .u8 2, .int .u8 (i : Int), .int .i64 ((F.fseq i + 1 : Nat) : Int), .slice q1.1 (F.seen i ++ [(i, (F.fseq i))]).length q1.2, .slice q2.1 (lst (setN M F r 6 i)).length q2.2] 55 :: .blk z.2.2 [.int .u8 2, .int .u8 0, .int .u8 0, .int .u8 0, .int .u8 2, .int .u8 (i : Int), .int .u8 2, .int .u8 0, .int .u8 0, .int .u8 0, .int .u8 2, .int .u8 (v : Int), .int .u8 2, .int .u8 0, .int .u8 0, .int .u8 0, .int .u8 2, .int .u8 (i : Int), .int .u8 2, .int .u8 0, .int .u8 0, .int .u8 0, .int .u8 2, .int .u8 (r : Int), .int .u8 2, .int .u8 0, .int .u8 0, .int .u8 0, .int .u8 2, .int .u8 (i : Int), .int .u8 2, .int .u8 9, .int .u8 9, .int .u8 9, .int .u8 9, .int .u8 9, .int .i64 ((F.fseq i) : Int), .int .i64 (31 : Int), .slice qd.1 m qd.2] 156 :: sRow q1 (F.seen i ++ [(i, (F.fseq i))]) :: nRow q2 (setN M F r 6 i) :: .row (.slice qd.1 m qd.2) 5 1 m (bs l) :: .blk g8 [.int .u8 2, .int .u8 9, .int .u8 9, .int .u8 9, .int .u8 9, .int .u8 9] 44 :: mBlk g M (setF M F r 6) Y1 :: mRow Y1 :: R1)) :
  VK W0 gs 200 ((bodyAt Tryz.f11 [1, 1, 1, 1, 0]).wp Tryz.prog QQ) [(0, .pointer (some ⟨g, 0, none⟩)), (1, .int .i64 (i : Int)), (2, .int .i64 (r : Int)), (4, .slice p m c), (8, .pointer (some ⟨g8, 0, none⟩)), (17, .bool b17)] (.blk g8 [.int .u8 2, .int .u8 9, .int .u8 9, .int .u8 9, .int .u8 9, .int .u8 9] 44 :: mBlk g M (setF M F r 6) Y1 :: mRow Y1 :: R1) := by
 refine VA.start (Ls := [.blk g8 [.int .u8 2, .int .u8 9, .int .u8 9, .int .u8 9, .int .u8 9, .int .u8 9] 44, mBlk g M (setF M F r 6) Y1]) (Cs := []) mixed ?_
 refine VA.tk 0 rfl hS zB Cells.nil (Quiet.c (Q.move rfl)) ?_
 refine VA.tk 1 rfl hS zB Cells.nil (Quiet.c (Q.move rfl)) ?_
 refine VA.tk 2 rfl hS zB Cells.nil (Quiet.c (Q.nilCheck rfl)) ?_
 refine VA.tk 3 rfl hS zB Cells.nil (Quiet.c (Q.fieldAddr fa59_2 rfl)) ?_
 refine VA.tk 4 rfl hS zB Cells.nil (Quiet.c (Q.indexAddrA ar56 (j := i) rfl rfl rfl hi)) ?_
 refine VA.tk 5 rfl hS zB Cells.nil (Quiet.c (Q.loadA (xs := fwdC (setF M F r 6) Y1 i) ty55 rfl zM (mesh_fwd M (setF M F r 6) Y1 hi))) ?_
 refine VA.tk 6 rfl hS zB Cells.nil (Quiet.c (Q.move rfl)) ?_
 refine VA.tk 8 rfl hS zB Cells.nil (Quiet.c (Q.move rfl)) ?_
 refine VA.tk 10 rfl hS zB Cells.nil (Quiet.c (Q.loadA ty44 rfl zM zS)) ?_
 refine VA.tk 11 rfl hS zB Cells.nil (Quiet.c (Q.move rfl)) ?_
 refine VA.all (rs := [7, 17, 18]) (by kernel_rfl) (by simp) ?_
 refine VA.forall3 ?_ ?_ ?_
 ·
  refine VA.eff rfl ?_
  refine id (O.call0 ok35 rfl rfl (by decide) (nodeOf_c r (by omega)) (fun _ _ _ => trivial) ?_)
  intro x86 y86
  refine VA.next zB Cells.nil ?_
  refine VA.all (rs := [9, 17, 18]) (by kernel_rfl) (by simp) ?_
  refine VA.forall3 ?_ ?_ ?_
  ·
   refine VA.eff rfl ?_
   refine id (O.call0 ok35 rfl rfl (by decide) (nodeOf_c i (by omega)) (fun _ _ _ => trivial) ?_)
   intro x88 y88
   refine VA.next zB Cells.nil ?_
   refine VA.all (rs := [12, 17, 18]) (by kernel_rfl) (by simp) ?_
   refine VA.forall3 ?_ ?_ ?_
   ·
    refine VA.eff rfl ?_
    refine id (O.call0 ok47 rfl rfl (by decide) (send2_c i (F.fseq i) (Y1.sv i) (F.seen i) (Y1.nv i) (setN M F r 6 i) (hF1.ok (by omega) hi) (hH1.sc i hi) p m c l hl (by omega) r hr (fun e => hir e.symm) hmk (by have := hF.fs i; omega)) (fun _ ho hw => ⟨⟨Rd.row hw (by repeat (first | exact (hH1.sn i hi) | apply List.Mem.tail)), Rd.row hw (by repeat (first | exact (hH1.nx i hi) | apply List.Mem.tail))⟩, hrd _ ho⟩) ?_)
    intro x91 y91
    rcases x91 with _ | ⟨v, q1, q2, qd⟩
    ·
     have hsd := y91
     refine VA.next zB Cells.nil ?_
     refine VA.tk 13 rfl hS zB Cells.nil (Quiet.c (Q.move rfl)) ?_
     refine VA.tk 14 rfl hS zB Cells.nil (Quiet.c (Q.extract rfl rfl)) ?_
     refine VA.tk 15 rfl hS zB Cells.nil (Quiet.c (Q.extract rfl rfl)) ?_
     refine VA.tk 16 rfl hS zB Cells.nil (Quiet.c (Q.extract rfl rfl)) ?_
     refine VA.all (rs := [17, 18]) (by kernel_rfl) (by simp) ?_
     refine VA.forall2 ?_ ?_
     ·
      refine VA.eff rfl ?_
      refine id (O.alloc zo55 (by decide) ?_)
      intro g18
      refine VA.next zB Cells.nil ?_
      refine VA.all (rs := [18]) (by kernel_rfl) (by simp) ?_
      refine VA.forall1 ?_
      ·
       refine VA.eff rfl ?_
       refine id (O.alloc zo156 (by decide) ?_)
       intro g19
       refine VA.next zB Cells.nil ?_
       refine VA.all (rs := [19]) (by kernel_rfl) (by simp) ?_
       refine VA.forall1 ?_
       ·
        refine VA.eff rfl ?_
        refine id (O.store ty55 rfl rfl rfl rfl zU zP ?_)
        refine VA.next zB Cells.nil ?_
        refine VA.all (rs := [20]) (by kernel_rfl) (by simp) ?_
        refine VA.forall1 ?_
        ·
         refine VA.eff rfl ?_
         refine id (O.store ty156 rfl rfl rfl rfl zU zP ?_)
         refine VA.next zB Cells.nil ?_
         refine VA.tk 21 rfl hS zB Cells.nil (Quiet.c (Q.assign rfl)) ?_
         refine VA.done (by kernel_rfl) ?_
         exact VK.fin hn0 (none, (g18, g19)) hsd
     ·
      refine VA.eff rfl ?_
      refine id (O.alloc zo156 (by decide) ?_)
      intro g19_1
      refine VA.next zB Cells.nil ?_
      refine VA.all (rs := [17]) (by kernel_rfl) (by simp) ?_
      refine VA.forall1 ?_
      ·
       refine VA.eff rfl ?_
       refine id (O.alloc zo55 (by decide) ?_)
       intro g18_1
       refine VA.next zB Cells.nil ?_
       refine VA.all (rs := [19]) (by kernel_rfl) (by simp) ?_
       refine VA.forall1 ?_
       ·
        refine VA.eff rfl ?_
        refine id (O.store ty55 rfl rfl rfl rfl zU zP ?_)
        refine VA.next zB Cells.nil ?_
        refine VA.all (rs := [20]) (by kernel_rfl) (by simp) ?_
        refine VA.forall1 ?_
        ·
         refine VA.eff rfl ?_
         refine id (O.store ty156 rfl rfl rfl rfl zU zP ?_)
         refine VA.next zB Cells.nil ?_
         refine VA.tk 21 rfl hS zB Cells.nil (Quiet.c (Q.assign rfl)) ?_
         refine VA.done (by kernel_rfl) ?_
         exact VK.fin hn0 (none, (g18_1, g19_1)) hsd
    ·
     have hsd := y91
     refine VA.next zB Cells.nil ?_
     refine VA.tk 13 rfl hS zB Cells.nil (Quiet.c (Q.move rfl)) ?_
     refine VA.tk 14 rfl hS zB Cells.nil (Quiet.c (Q.extract rfl rfl)) ?_
     refine VA.tk 15 rfl hS zB Cells.nil (Quiet.c (Q.extract rfl rfl)) ?_
     refine VA.tk 16 rfl hS zB Cells.nil (Quiet.c (Q.extract rfl rfl)) ?_
     refine VA.all (rs := [17, 18]) (by kernel_rfl) (by simp) ?_
     refine VA.forall2 ?_ ?_
     ·
      refine VA.eff rfl ?_
      refine id (O.alloc zo55 (by decide) ?_)
      intro g18
      refine VA.next zB Cells.nil ?_
      refine VA.all (rs := [18]) (by kernel_rfl) (by simp) ?_
      refine VA.forall1 ?_
      ·
       refine VA.eff rfl ?_
       refine id (O.alloc zo156 (by decide) ?_)
       intro g19
       refine VA.next zB Cells.nil ?_
       refine VA.all (rs := [19]) (by kernel_rfl) (by simp) ?_
       refine VA.forall1 ?_
       ·
        refine VA.eff rfl ?_
        refine id (O.store ty55 rfl rfl rfl rfl zU zP ?_)
        refine VA.next zB Cells.nil ?_
        refine VA.all (rs := [20]) (by kernel_rfl) (by simp) ?_
        refine VA.forall1 ?_
        ·
         refine VA.eff rfl ?_
         refine id (O.store ty156 rfl rfl rfl rfl zU zP ?_)
         refine VA.next zB Cells.nil ?_
         refine VA.tk 21 rfl hS zB Cells.nil (Quiet.c (Q.assign rfl)) ?_
         refine VA.done (by kernel_rfl) ?_
         exact VK.fin hn0 (some (v, q1, q2, qd), (g18, g19)) hsd
     ·
      refine VA.eff rfl ?_
      refine id (O.alloc zo156 (by decide) ?_)
      intro g19_1
      refine VA.next zB Cells.nil ?_
      refine VA.all (rs := [17]) (by kernel_rfl) (by simp) ?_
      refine VA.forall1 ?_
      ·
       refine VA.eff rfl ?_
       refine id (O.alloc zo55 (by decide) ?_)
       intro g18_1
       refine VA.next zB Cells.nil ?_
       refine VA.all (rs := [19]) (by kernel_rfl) (by simp) ?_
       refine VA.forall1 ?_
       ·
        refine VA.eff rfl ?_
        refine id (O.store ty55 rfl rfl rfl rfl zU zP ?_)
        refine VA.next zB Cells.nil ?_
        refine VA.all (rs := [20]) (by kernel_rfl) (by simp) ?_
        refine VA.forall1 ?_
        ·
         refine VA.eff rfl ?_
         refine id (O.store ty156 rfl rfl rfl rfl zU zP ?_)
         refine VA.next zB Cells.nil ?_
         refine VA.tk 21 rfl hS zB Cells.nil (Quiet.c (Q.assign rfl)) ?_
         refine VA.done (by kernel_rfl) ?_
         exact VK.fin hn0 (some (v, q1, q2, qd), (g18_1, g19_1)) hsd
   ·
    refine VA.eff rfl ?_
    refine id (O.alloc zo55 (by decide) ?_)
    intro g18
    refine VA.next zB Cells.nil ?_
    refine VA.all (rs := [12, 18]) (by kernel_rfl) (by simp) ?_
    refine VA.forall2 ?_ ?_
    ·
     refine VA.eff rfl ?_
     refine id (O.call0 ok47 rfl rfl (by decide) (send2_c i (F.fseq i) (Y1.sv i) (F.seen i) (Y1.nv i) (setN M F r 6 i) (hF1.ok (by omega) hi) (hH1.sc i hi) p m c l hl (by omega) r hr (fun e => hir e.symm) hmk (by have := hF.fs i; omega)) (fun _ ho hw => ⟨⟨Rd.row hw (by repeat (first | exact (hH1.sn i hi) | apply List.Mem.tail)), Rd.row hw (by repeat (first | exact (hH1.nx i hi) | apply List.Mem.tail))⟩, hrd _ ho⟩) ?_)
     intro x91_1 y91_1
     rcases x91_1 with _ | ⟨v, q1, q2, qd⟩
     ·
      have hsd := y91_1
      refine VA.next zB Cells.nil ?_
      refine VA.tk 13 rfl hS zB Cells.nil (Quiet.c (Q.move rfl)) ?_
      refine VA.tk 14 rfl hS zB Cells.nil (Quiet.c (Q.extract rfl rfl)) ?_
      refine VA.tk 15 rfl hS zB Cells.nil (Quiet.c (Q.extract rfl rfl)) ?_
      refine VA.tk 16 rfl hS zB Cells.nil (Quiet.c (Q.extract rfl rfl)) ?_
      refine VA.all (rs := [18]) (by kernel_rfl) (by simp) ?_
      refine VA.forall1 ?_
      ·
       refine VA.eff rfl ?_
       refine id (O.alloc zo156 (by decide) ?_)
       intro g19
       refine VA.next zB Cells.nil ?_
       refine VA.all (rs := [19]) (by kernel_rfl) (by simp) ?_
       refine VA.forall1 ?_
       ·
        refine VA.eff rfl ?_
        refine id (O.store ty55 rfl rfl rfl rfl zU zP ?_)
        refine VA.next zB Cells.nil ?_
        refine VA.all (rs := [20]) (by kernel_rfl) (by simp) ?_
        refine VA.forall1 ?_
        ·
         refine VA.eff rfl ?_
         refine id (O.store ty156 rfl rfl rfl rfl zU zP ?_)
         refine VA.next zB Cells.nil ?_
         refine VA.tk 21 rfl hS zB Cells.nil (Quiet.c (Q.assign rfl)) ?_
         refine VA.done (by kernel_rfl) ?_
         exact VK.fin hn0 (none, (g18, g19)) hsd
     ·
      have hsd := y91_1
      refine VA.next zB Cells.nil ?_
      refine VA.tk 13 rfl hS zB Cells.nil (Quiet.c (Q.move rfl)) ?_
      refine VA.tk 14 rfl hS zB Cells.nil (Quiet.c (Q.extract rfl rfl)) ?_
      refine VA.tk 15 rfl hS zB Cells.nil (Quiet.c (Q.extract rfl rfl)) ?_
      refine VA.tk 16 rfl hS zB Cells.nil (Quiet.c (Q.extract rfl rfl)) ?_
      refine VA.all (rs := [18]) (by kernel_rfl) (by simp) ?_
      refine VA.forall1 ?_
      ·
       refine VA.eff rfl ?_
       refine id (O.alloc zo156 (by decide) ?_)
       intro g19
       refine VA.next zB Cells.nil ?_
       refine VA.all (rs := [19]) (by kernel_rfl) (by simp) ?_
       refine VA.forall1 ?_
       ·
        refine VA.eff rfl ?_
        refine id (O.store ty55 rfl rfl rfl rfl zU zP ?_)
        refine VA.next zB Cells.nil ?_
        refine VA.all (rs := [20]) (by kernel_rfl) (by simp) ?_
        refine VA.forall1 ?_
        ·
         refine VA.eff rfl ?_
         refine id (O.store ty156 rfl rfl rfl rfl zU zP ?_)
         refine VA.next zB Cells.nil ?_
         refine VA.tk 21 rfl hS zB Cells.nil (Quiet.c (Q.assign rfl)) ?_
         refine VA.done (by kernel_rfl) ?_
         exact VK.fin hn0 (some (v, q1, q2, qd), (g18, g19)) hsd
    ·
     refine VA.eff rfl ?_
     refine id (O.alloc zo156 (by decide) ?_)
     intro g19
     refine VA.next zB Cells.nil ?_
     refine VA.all (rs := [12]) (by kernel_rfl) (by simp) ?_
     refine VA.forall1 ?_
     ·
      refine VA.eff rfl ?_
      refine id (O.call0 ok47 rfl rfl (by decide) (send2_c i (F.fseq i) (Y1.sv i) (F.seen i) (Y1.nv i) (setN M F r 6 i) (hF1.ok (by omega) hi) (hH1.sc i hi) p m c l hl (by omega) r hr (fun e => hir e.symm) hmk (by have := hF.fs i; omega)) (fun _ ho hw => ⟨⟨Rd.row hw (by repeat (first | exact (hH1.sn i hi) | apply List.Mem.tail)), Rd.row hw (by repeat (first | exact (hH1.nx i hi) | apply List.Mem.tail))⟩, hrd _ ho⟩) ?_)
      intro x91_2 y91_2
      rcases x91_2 with _ | ⟨v, q1, q2, qd⟩
      ·
       have hsd := y91_2
       refine VA.next zB Cells.nil ?_
       refine VA.tk 13 rfl hS zB Cells.nil (Quiet.c (Q.move rfl)) ?_
       refine VA.tk 14 rfl hS zB Cells.nil (Quiet.c (Q.extract rfl rfl)) ?_
       refine VA.tk 15 rfl hS zB Cells.nil (Quiet.c (Q.extract rfl rfl)) ?_
       refine VA.tk 16 rfl hS zB Cells.nil (Quiet.c (Q.extract rfl rfl)) ?_
       refine VA.all (rs := [19]) (by kernel_rfl) (by simp) ?_
       refine VA.forall1 ?_
       ·
        refine VA.eff rfl ?_
        refine id (O.store ty55 rfl rfl rfl rfl zU zP ?_)
        refine VA.next zB Cells.nil ?_
        refine VA.all (rs := [20]) (by kernel_rfl) (by simp) ?_
        refine VA.forall1 ?_
        ·
         refine VA.eff rfl ?_
         refine id (O.store ty156 rfl rfl rfl rfl zU zP ?_)
         refine VA.next zB Cells.nil ?_
         refine VA.tk 21 rfl hS zB Cells.nil (Quiet.c (Q.assign rfl)) ?_
         refine VA.done (by kernel_rfl) ?_
         exact VK.fin hn0 (none, (g18, g19)) hsd
      ·
       have hsd := y91_2
       refine VA.next zB Cells.nil ?_
       refine VA.tk 13 rfl hS zB Cells.nil (Quiet.c (Q.move rfl)) ?_
       refine VA.tk 14 rfl hS zB Cells.nil (Quiet.c (Q.extract rfl rfl)) ?_
       refine VA.tk 15 rfl hS zB Cells.nil (Quiet.c (Q.extract rfl rfl)) ?_
       refine VA.tk 16 rfl hS zB Cells.nil (Quiet.c (Q.extract rfl rfl)) ?_
       refine VA.all (rs := [19]) (by kernel_rfl) (by simp) ?_
       refine VA.forall1 ?_
       ·
        refine VA.eff rfl ?_
        refine id (O.store ty55 rfl rfl rfl rfl zU zP ?_)
        refine VA.next zB Cells.nil ?_
        refine VA.all (rs := [20]) (by kernel_rfl) (by simp) ?_
        refine VA.forall1 ?_
        ·
         refine VA.eff rfl ?_
         refine id (O.store ty156 rfl rfl rfl rfl zU zP ?_)
         refine VA.next zB Cells.nil ?_
         refine VA.tk 21 rfl hS zB Cells.nil (Quiet.c (Q.assign rfl)) ?_
         refine VA.done (by kernel_rfl) ?_
         exact VK.fin hn0 (some (v, q1, q2, qd), (g18, g19)) hsd
   ·
    refine VA.eff rfl ?_
    refine id (O.alloc zo156 (by decide) ?_)
    intro g19_1
    refine VA.next zB Cells.nil ?_
    refine VA.all (rs := [12, 17]) (by kernel_rfl) (by simp) ?_
    refine VA.forall2 ?_ ?_
    ·
     refine VA.eff rfl ?_
     refine id (O.call0 ok47 rfl rfl (by decide) (send2_c i (F.fseq i) (Y1.sv i) (F.seen i) (Y1.nv i) (setN M F r 6 i) (hF1.ok (by omega) hi) (hH1.sc i hi) p m c l hl (by omega) r hr (fun e => hir e.symm) hmk (by have := hF.fs i; omega)) (fun _ ho hw => ⟨⟨Rd.row hw (by repeat (first | exact (hH1.sn i hi) | apply List.Mem.tail)), Rd.row hw (by repeat (first | exact (hH1.nx i hi) | apply List.Mem.tail))⟩, hrd _ ho⟩) ?_)
     intro x91_3 y91_3
     rcases x91_3 with _ | ⟨v, q1, q2, qd⟩
     ·
      have hsd := y91_3
      refine VA.next zB Cells.nil ?_
      refine VA.tk 13 rfl hS zB Cells.nil (Quiet.c (Q.move rfl)) ?_
      refine VA.tk 14 rfl hS zB Cells.nil (Quiet.c (Q.extract rfl rfl)) ?_
      refine VA.tk 15 rfl hS zB Cells.nil (Quiet.c (Q.extract rfl rfl)) ?_
      refine VA.tk 16 rfl hS zB Cells.nil (Quiet.c (Q.extract rfl rfl)) ?_
      refine VA.all (rs := [17]) (by kernel_rfl) (by simp) ?_
      refine VA.forall1 ?_
      ·
       refine VA.eff rfl ?_
       refine id (O.alloc zo55 (by decide) ?_)
       intro g18_1
       refine VA.next zB Cells.nil ?_
       refine VA.all (rs := [19]) (by kernel_rfl) (by simp) ?_
       refine VA.forall1 ?_
       ·
        refine VA.eff rfl ?_
        refine id (O.store ty55 rfl rfl rfl rfl zU zP ?_)
        refine VA.next zB Cells.nil ?_
        refine VA.all (rs := [20]) (by kernel_rfl) (by simp) ?_
        refine VA.forall1 ?_
        ·
         refine VA.eff rfl ?_
         refine id (O.store ty156 rfl rfl rfl rfl zU zP ?_)
         refine VA.next zB Cells.nil ?_
         refine VA.tk 21 rfl hS zB Cells.nil (Quiet.c (Q.assign rfl)) ?_
         refine VA.done (by kernel_rfl) ?_
         exact VK.fin hn0 (none, (g18_1, g19_1)) hsd
     ·
      have hsd := y91_3
      refine VA.next zB Cells.nil ?_
      refine VA.tk 13 rfl hS zB Cells.nil (Quiet.c (Q.move rfl)) ?_
      refine VA.tk 14 rfl hS zB Cells.nil (Quiet.c (Q.extract rfl rfl)) ?_
      refine VA.tk 15 rfl hS zB Cells.nil (Quiet.c (Q.extract rfl rfl)) ?_
      refine VA.tk 16 rfl hS zB Cells.nil (Quiet.c (Q.extract rfl rfl)) ?_
      refine VA.all (rs := [17]) (by kernel_rfl) (by simp) ?_
      refine VA.forall1 ?_
      ·
       refine VA.eff rfl ?_
       refine id (O.alloc zo55 (by decide) ?_)
       intro g18_1
       refine VA.next zB Cells.nil ?_
       refine VA.all (rs := [19]) (by kernel_rfl) (by simp) ?_
       refine VA.forall1 ?_
       ·
        refine VA.eff rfl ?_
        refine id (O.store ty55 rfl rfl rfl rfl zU zP ?_)
        refine VA.next zB Cells.nil ?_
        refine VA.all (rs := [20]) (by kernel_rfl) (by simp) ?_
        refine VA.forall1 ?_
        ·
         refine VA.eff rfl ?_
         refine id (O.store ty156 rfl rfl rfl rfl zU zP ?_)
         refine VA.next zB Cells.nil ?_
         refine VA.tk 21 rfl hS zB Cells.nil (Quiet.c (Q.assign rfl)) ?_
         refine VA.done (by kernel_rfl) ?_
         exact VK.fin hn0 (some (v, q1, q2, qd), (g18_1, g19_1)) hsd
    ·
     refine VA.eff rfl ?_
     refine id (O.alloc zo55 (by decide) ?_)
     intro g18_1
     refine VA.next zB Cells.nil ?_
     refine VA.all (rs := [12]) (by kernel_rfl) (by simp) ?_
     refine VA.forall1 ?_
     ·
      refine VA.eff rfl ?_
      refine id (O.call0 ok47 rfl rfl (by decide) (send2_c i (F.fseq i) (Y1.sv i) (F.seen i) (Y1.nv i) (setN M F r 6 i) (hF1.ok (by omega) hi) (hH1.sc i hi) p m c l hl (by omega) r hr (fun e => hir e.symm) hmk (by have := hF.fs i; omega)) (fun _ ho hw => ⟨⟨Rd.row hw (by repeat (first | exact (hH1.sn i hi) | apply List.Mem.tail)), Rd.row hw (by repeat (first | exact (hH1.nx i hi) | apply List.Mem.tail))⟩, hrd _ ho⟩) ?_)
      intro x91_4 y91_4
      rcases x91_4 with _ | ⟨v, q1, q2, qd⟩
      ·
       have hsd := y91_4
       refine VA.next zB Cells.nil ?_
       refine VA.tk 13 rfl hS zB Cells.nil (Quiet.c (Q.move rfl)) ?_
       refine VA.tk 14 rfl hS zB Cells.nil (Quiet.c (Q.extract rfl rfl)) ?_
       refine VA.tk 15 rfl hS zB Cells.nil (Quiet.c (Q.extract rfl rfl)) ?_
       refine VA.tk 16 rfl hS zB Cells.nil (Quiet.c (Q.extract rfl rfl)) ?_
       refine VA.all (rs := [19]) (by kernel_rfl) (by simp) ?_
       refine VA.forall1 ?_
       ·
        refine VA.eff rfl ?_
        refine id (O.store ty55 rfl rfl rfl rfl zU zP ?_)
        refine VA.next zB Cells.nil ?_
        refine VA.all (rs := [20]) (by kernel_rfl) (by simp) ?_
        refine VA.forall1 ?_
        ·
         refine VA.eff rfl ?_
         refine id (O.store ty156 rfl rfl rfl rfl zU zP ?_)
         refine VA.next zB Cells.nil ?_
         refine VA.tk 21 rfl hS zB Cells.nil (Quiet.c (Q.assign rfl)) ?_
         refine VA.done (by kernel_rfl) ?_
         exact VK.fin hn0 (none, (g18_1, g19_1)) hsd
      ·
       have hsd := y91_4
       refine VA.next zB Cells.nil ?_
       refine VA.tk 13 rfl hS zB Cells.nil (Quiet.c (Q.move rfl)) ?_
       refine VA.tk 14 rfl hS zB Cells.nil (Quiet.c (Q.extract rfl rfl)) ?_
       refine VA.tk 15 rfl hS zB Cells.nil (Quiet.c (Q.extract rfl rfl)) ?_
       refine VA.tk 16 rfl hS zB Cells.nil (Quiet.c (Q.extract rfl rfl)) ?_
       refine VA.all (rs := [19]) (by kernel_rfl) (by simp) ?_
       refine VA.forall1 ?_
       ·
        refine VA.eff rfl ?_
        refine id (O.store ty55 rfl rfl rfl rfl zU zP ?_)
        refine VA.next zB Cells.nil ?_
        refine VA.all (rs := [20]) (by kernel_rfl) (by simp) ?_
        refine VA.forall1 ?_
        ·
         refine VA.eff rfl ?_
         refine id (O.store ty156 rfl rfl rfl rfl zU zP ?_)
         refine VA.next zB Cells.nil ?_
         refine VA.tk 21 rfl hS zB Cells.nil (Quiet.c (Q.assign rfl)) ?_
         refine VA.done (by kernel_rfl) ?_
         exact VK.fin hn0 (some (v, q1, q2, qd), (g18_1, g19_1)) hsd
  ·
   refine VA.eff rfl ?_
   refine id (O.alloc zo55 (by decide) ?_)
   intro g18_2
   refine VA.next zB Cells.nil ?_
   refine VA.all (rs := [9, 18]) (by kernel_rfl) (by simp) ?_
   refine VA.forall2 ?_ ?_
   ·
    refine VA.eff rfl ?_
    refine id (O.call0 ok35 rfl rfl (by decide) (nodeOf_c i (by omega)) (fun _ _ _ => trivial) ?_)
    intro x88_1 y88_1
    refine VA.next zB Cells.nil ?_
    refine VA.all (rs := [12, 18]) (by kernel_rfl) (by simp) ?_
    refine VA.forall2 ?_ ?_
    ·
     refine VA.eff rfl ?_
     refine id (O.call0 ok47 rfl rfl (by decide) (send2_c i (F.fseq i) (Y1.sv i) (F.seen i) (Y1.nv i) (setN M F r 6 i) (hF1.ok (by omega) hi) (hH1.sc i hi) p m c l hl (by omega) r hr (fun e => hir e.symm) hmk (by have := hF.fs i; omega)) (fun _ ho hw => ⟨⟨Rd.row hw (by repeat (first | exact (hH1.sn i hi) | apply List.Mem.tail)), Rd.row hw (by repeat (first | exact (hH1.nx i hi) | apply List.Mem.tail))⟩, hrd _ ho⟩) ?_)
     intro x91_5 y91_5
     rcases x91_5 with _ | ⟨v, q1, q2, qd⟩
     ·
      have hsd := y91_5
      refine VA.next zB Cells.nil ?_
      refine VA.tk 13 rfl hS zB Cells.nil (Quiet.c (Q.move rfl)) ?_
      refine VA.tk 14 rfl hS zB Cells.nil (Quiet.c (Q.extract rfl rfl)) ?_
      refine VA.tk 15 rfl hS zB Cells.nil (Quiet.c (Q.extract rfl rfl)) ?_
      refine VA.tk 16 rfl hS zB Cells.nil (Quiet.c (Q.extract rfl rfl)) ?_
      refine VA.all (rs := [18]) (by kernel_rfl) (by simp) ?_
      refine VA.forall1 ?_
      ·
       refine VA.eff rfl ?_
       refine id (O.alloc zo156 (by decide) ?_)
       intro g19_2
       refine VA.next zB Cells.nil ?_
       refine VA.all (rs := [19]) (by kernel_rfl) (by simp) ?_
       refine VA.forall1 ?_
       ·
        refine VA.eff rfl ?_
        refine id (O.store ty55 rfl rfl rfl rfl zU zP ?_)
        refine VA.next zB Cells.nil ?_
        refine VA.all (rs := [20]) (by kernel_rfl) (by simp) ?_
        refine VA.forall1 ?_
        ·
         refine VA.eff rfl ?_
         refine id (O.store ty156 rfl rfl rfl rfl zU zP ?_)
         refine VA.next zB Cells.nil ?_
         refine VA.tk 21 rfl hS zB Cells.nil (Quiet.c (Q.assign rfl)) ?_
         refine VA.done (by kernel_rfl) ?_
         exact VK.fin hn0 (none, (g18_2, g19_2)) hsd
     ·
      have hsd := y91_5
      refine VA.next zB Cells.nil ?_
      refine VA.tk 13 rfl hS zB Cells.nil (Quiet.c (Q.move rfl)) ?_
      refine VA.tk 14 rfl hS zB Cells.nil (Quiet.c (Q.extract rfl rfl)) ?_
      refine VA.tk 15 rfl hS zB Cells.nil (Quiet.c (Q.extract rfl rfl)) ?_
      refine VA.tk 16 rfl hS zB Cells.nil (Quiet.c (Q.extract rfl rfl)) ?_
      refine VA.all (rs := [18]) (by kernel_rfl) (by simp) ?_
      refine VA.forall1 ?_
      ·
       refine VA.eff rfl ?_
       refine id (O.alloc zo156 (by decide) ?_)
       intro g19_2
       refine VA.next zB Cells.nil ?_
       refine VA.all (rs := [19]) (by kernel_rfl) (by simp) ?_
       refine VA.forall1 ?_
       ·
        refine VA.eff rfl ?_
        refine id (O.store ty55 rfl rfl rfl rfl zU zP ?_)
        refine VA.next zB Cells.nil ?_
        refine VA.all (rs := [20]) (by kernel_rfl) (by simp) ?_
        refine VA.forall1 ?_
        ·
         refine VA.eff rfl ?_
         refine id (O.store ty156 rfl rfl rfl rfl zU zP ?_)
         refine VA.next zB Cells.nil ?_
         refine VA.tk 21 rfl hS zB Cells.nil (Quiet.c (Q.assign rfl)) ?_
         refine VA.done (by kernel_rfl) ?_
         exact VK.fin hn0 (some (v, q1, q2, qd), (g18_2, g19_2)) hsd
    ·
     refine VA.eff rfl ?_
     refine id (O.alloc zo156 (by decide) ?_)
     intro g19_2
     refine VA.next zB Cells.nil ?_
     refine VA.all (rs := [12]) (by kernel_rfl) (by simp) ?_
     refine VA.forall1 ?_
     ·
      refine VA.eff rfl ?_
      refine id (O.call0 ok47 rfl rfl (by decide) (send2_c i (F.fseq i) (Y1.sv i) (F.seen i) (Y1.nv i) (setN M F r 6 i) (hF1.ok (by omega) hi) (hH1.sc i hi) p m c l hl (by omega) r hr (fun e => hir e.symm) hmk (by have := hF.fs i; omega)) (fun _ ho hw => ⟨⟨Rd.row hw (by repeat (first | exact (hH1.sn i hi) | apply List.Mem.tail)), Rd.row hw (by repeat (first | exact (hH1.nx i hi) | apply List.Mem.tail))⟩, hrd _ ho⟩) ?_)
      intro x91_6 y91_6
      rcases x91_6 with _ | ⟨v, q1, q2, qd⟩
      ·
       have hsd := y91_6
       refine VA.next zB Cells.nil ?_
       refine VA.tk 13 rfl hS zB Cells.nil (Quiet.c (Q.move rfl)) ?_
       refine VA.tk 14 rfl hS zB Cells.nil (Quiet.c (Q.extract rfl rfl)) ?_
       refine VA.tk 15 rfl hS zB Cells.nil (Quiet.c (Q.extract rfl rfl)) ?_
       refine VA.tk 16 rfl hS zB Cells.nil (Quiet.c (Q.extract rfl rfl)) ?_
       refine VA.all (rs := [19]) (by kernel_rfl) (by simp) ?_
       refine VA.forall1 ?_
       ·
        refine VA.eff rfl ?_
        refine id (O.store ty55 rfl rfl rfl rfl zU zP ?_)
        refine VA.next zB Cells.nil ?_
        refine VA.all (rs := [20]) (by kernel_rfl) (by simp) ?_
        refine VA.forall1 ?_
        ·
         refine VA.eff rfl ?_
         refine id (O.store ty156 rfl rfl rfl rfl zU zP ?_)
         refine VA.next zB Cells.nil ?_
         refine VA.tk 21 rfl hS zB Cells.nil (Quiet.c (Q.assign rfl)) ?_
         refine VA.done (by kernel_rfl) ?_
         exact VK.fin hn0 (none, (g18_2, g19_2)) hsd
      ·
       have hsd := y91_6
       refine VA.next zB Cells.nil ?_
       refine VA.tk 13 rfl hS zB Cells.nil (Quiet.c (Q.move rfl)) ?_
       refine VA.tk 14 rfl hS zB Cells.nil (Quiet.c (Q.extract rfl rfl)) ?_
       refine VA.tk 15 rfl hS zB Cells.nil (Quiet.c (Q.extract rfl rfl)) ?_
       refine VA.tk 16 rfl hS zB Cells.nil (Quiet.c (Q.extract rfl rfl)) ?_
       refine VA.all (rs := [19]) (by kernel_rfl) (by simp) ?_
       refine VA.forall1 ?_
       ·
        refine VA.eff rfl ?_
        refine id (O.store ty55 rfl rfl rfl rfl zU zP ?_)
        refine VA.next zB Cells.nil ?_
        refine VA.all (rs := [20]) (by kernel_rfl) (by simp) ?_
        refine VA.forall1 ?_
        ·
         refine VA.eff rfl ?_
         refine id (O.store ty156 rfl rfl rfl rfl zU zP ?_)
         refine VA.next zB Cells.nil ?_
         refine VA.tk 21 rfl hS zB Cells.nil (Quiet.c (Q.assign rfl)) ?_
         refine VA.done (by kernel_rfl) ?_
         exact VK.fin hn0 (some (v, q1, q2, qd), (g18_2, g19_2)) hsd
   ·
    refine VA.eff rfl ?_
    refine id (O.alloc zo156 (by decide) ?_)
    intro g19_3
    refine VA.next zB Cells.nil ?_
    refine VA.all (rs := [9]) (by kernel_rfl) (by simp) ?_
    refine VA.forall1 ?_
    ·
     refine VA.eff rfl ?_
     refine id (O.call0 ok35 rfl rfl (by decide) (nodeOf_c i (by omega)) (fun _ _ _ => trivial) ?_)
     intro x88_2 y88_2
     refine VA.next zB Cells.nil ?_
     refine VA.all (rs := [12]) (by kernel_rfl) (by simp) ?_
     refine VA.forall1 ?_
     ·
      refine VA.eff rfl ?_
      refine id (O.call0 ok47 rfl rfl (by decide) (send2_c i (F.fseq i) (Y1.sv i) (F.seen i) (Y1.nv i) (setN M F r 6 i) (hF1.ok (by omega) hi) (hH1.sc i hi) p m c l hl (by omega) r hr (fun e => hir e.symm) hmk (by have := hF.fs i; omega)) (fun _ ho hw => ⟨⟨Rd.row hw (by repeat (first | exact (hH1.sn i hi) | apply List.Mem.tail)), Rd.row hw (by repeat (first | exact (hH1.nx i hi) | apply List.Mem.tail))⟩, hrd _ ho⟩) ?_)
      intro x91_7 y91_7
      rcases x91_7 with _ | ⟨v, q1, q2, qd⟩
      ·
       have hsd := y91_7
       refine VA.next zB Cells.nil ?_
       refine VA.tk 13 rfl hS zB Cells.nil (Quiet.c (Q.move rfl)) ?_
       refine VA.tk 14 rfl hS zB Cells.nil (Quiet.c (Q.extract rfl rfl)) ?_
       refine VA.tk 15 rfl hS zB Cells.nil (Quiet.c (Q.extract rfl rfl)) ?_
       refine VA.tk 16 rfl hS zB Cells.nil (Quiet.c (Q.extract rfl rfl)) ?_
       refine VA.all (rs := [19]) (by kernel_rfl) (by simp) ?_
       refine VA.forall1 ?_
       ·
        refine VA.eff rfl ?_
        refine id (O.store ty55 rfl rfl rfl rfl zU zP ?_)
        refine VA.next zB Cells.nil ?_
        refine VA.all (rs := [20]) (by kernel_rfl) (by simp) ?_
        refine VA.forall1 ?_
        ·
         refine VA.eff rfl ?_
         refine id (O.store ty156 rfl rfl rfl rfl zU zP ?_)
         refine VA.next zB Cells.nil ?_
         refine VA.tk 21 rfl hS zB Cells.nil (Quiet.c (Q.assign rfl)) ?_
         refine VA.done (by kernel_rfl) ?_
         exact VK.fin hn0 (none, (g18_2, g19_3)) hsd
      ·
       have hsd := y91_7
       refine VA.next zB Cells.nil ?_
       refine VA.tk 13 rfl hS zB Cells.nil (Quiet.c (Q.move rfl)) ?_
       refine VA.tk 14 rfl hS zB Cells.nil (Quiet.c (Q.extract rfl rfl)) ?_
       refine VA.tk 15 rfl hS zB Cells.nil (Quiet.c (Q.extract rfl rfl)) ?_
       refine VA.tk 16 rfl hS zB Cells.nil (Quiet.c (Q.extract rfl rfl)) ?_
       refine VA.all (rs := [19]) (by kernel_rfl) (by simp) ?_
       refine VA.forall1 ?_
       ·
        refine VA.eff rfl ?_
        refine id (O.store ty55 rfl rfl rfl rfl zU zP ?_)
        refine VA.next zB Cells.nil ?_
        refine VA.all (rs := [20]) (by kernel_rfl) (by simp) ?_
        refine VA.forall1 ?_
        ·
         refine VA.eff rfl ?_
         refine id (O.store ty156 rfl rfl rfl rfl zU zP ?_)
         refine VA.next zB Cells.nil ?_
         refine VA.tk 21 rfl hS zB Cells.nil (Quiet.c (Q.assign rfl)) ?_
         refine VA.done (by kernel_rfl) ?_
         exact VK.fin hn0 (some (v, q1, q2, qd), (g18_2, g19_3)) hsd
  ·
   refine VA.eff rfl ?_
   refine id (O.alloc zo156 (by decide) ?_)
   intro g19_4
   refine VA.next zB Cells.nil ?_
   refine VA.all (rs := [9, 17]) (by kernel_rfl) (by simp) ?_
   refine VA.forall2 ?_ ?_
   ·
    refine VA.eff rfl ?_
    refine id (O.call0 ok35 rfl rfl (by decide) (nodeOf_c i (by omega)) (fun _ _ _ => trivial) ?_)
    intro x88_3 y88_3
    refine VA.next zB Cells.nil ?_
    refine VA.all (rs := [12, 17]) (by kernel_rfl) (by simp) ?_
    refine VA.forall2 ?_ ?_
    ·
     refine VA.eff rfl ?_
     refine id (O.call0 ok47 rfl rfl (by decide) (send2_c i (F.fseq i) (Y1.sv i) (F.seen i) (Y1.nv i) (setN M F r 6 i) (hF1.ok (by omega) hi) (hH1.sc i hi) p m c l hl (by omega) r hr (fun e => hir e.symm) hmk (by have := hF.fs i; omega)) (fun _ ho hw => ⟨⟨Rd.row hw (by repeat (first | exact (hH1.sn i hi) | apply List.Mem.tail)), Rd.row hw (by repeat (first | exact (hH1.nx i hi) | apply List.Mem.tail))⟩, hrd _ ho⟩) ?_)
     intro x91_8 y91_8
     rcases x91_8 with _ | ⟨v, q1, q2, qd⟩
     ·
      have hsd := y91_8
      refine VA.next zB Cells.nil ?_
      refine VA.tk 13 rfl hS zB Cells.nil (Quiet.c (Q.move rfl)) ?_
      refine VA.tk 14 rfl hS zB Cells.nil (Quiet.c (Q.extract rfl rfl)) ?_
      refine VA.tk 15 rfl hS zB Cells.nil (Quiet.c (Q.extract rfl rfl)) ?_
      refine VA.tk 16 rfl hS zB Cells.nil (Quiet.c (Q.extract rfl rfl)) ?_
      refine VA.all (rs := [17]) (by kernel_rfl) (by simp) ?_
      refine VA.forall1 ?_
      ·
       refine VA.eff rfl ?_
       refine id (O.alloc zo55 (by decide) ?_)
       intro g18_3
       refine VA.next zB Cells.nil ?_
       refine VA.all (rs := [19]) (by kernel_rfl) (by simp) ?_
       refine VA.forall1 ?_
       ·
        refine VA.eff rfl ?_
        refine id (O.store ty55 rfl rfl rfl rfl zU zP ?_)
        refine VA.next zB Cells.nil ?_
        refine VA.all (rs := [20]) (by kernel_rfl) (by simp) ?_
        refine VA.forall1 ?_
        ·
         refine VA.eff rfl ?_
         refine id (O.store ty156 rfl rfl rfl rfl zU zP ?_)
         refine VA.next zB Cells.nil ?_
         refine VA.tk 21 rfl hS zB Cells.nil (Quiet.c (Q.assign rfl)) ?_
         refine VA.done (by kernel_rfl) ?_
         exact VK.fin hn0 (none, (g18_3, g19_4)) hsd
     ·
      have hsd := y91_8
      refine VA.next zB Cells.nil ?_
      refine VA.tk 13 rfl hS zB Cells.nil (Quiet.c (Q.move rfl)) ?_
      refine VA.tk 14 rfl hS zB Cells.nil (Quiet.c (Q.extract rfl rfl)) ?_
      refine VA.tk 15 rfl hS zB Cells.nil (Quiet.c (Q.extract rfl rfl)) ?_
      refine VA.tk 16 rfl hS zB Cells.nil (Quiet.c (Q.extract rfl rfl)) ?_
      refine VA.all (rs := [17]) (by kernel_rfl) (by simp) ?_
      refine VA.forall1 ?_
      ·
       refine VA.eff rfl ?_
       refine id (O.alloc zo55 (by decide) ?_)
       intro g18_3
       refine VA.next zB Cells.nil ?_
       refine VA.all (rs := [19]) (by kernel_rfl) (by simp) ?_
       refine VA.forall1 ?_
       ·
        refine VA.eff rfl ?_
        refine id (O.store ty55 rfl rfl rfl rfl zU zP ?_)
        refine VA.next zB Cells.nil ?_
        refine VA.all (rs := [20]) (by kernel_rfl) (by simp) ?_
        refine VA.forall1 ?_
        ·
         refine VA.eff rfl ?_
         refine id (O.store ty156 rfl rfl rfl rfl zU zP ?_)
         refine VA.next zB Cells.nil ?_
         refine VA.tk 21 rfl hS zB Cells.nil (Quiet.c (Q.assign rfl)) ?_
         refine VA.done (by kernel_rfl) ?_
         exact VK.fin hn0 (some (v, q1, q2, qd), (g18_3, g19_4)) hsd
    ·
     refine VA.eff rfl ?_
     refine id (O.alloc zo55 (by decide) ?_)
     intro g18_3
     refine VA.next zB Cells.nil ?_
     refine VA.all (rs := [12]) (by kernel_rfl) (by simp) ?_
     refine VA.forall1 ?_
     ·
      refine VA.eff rfl ?_
      refine id (O.call0 ok47 rfl rfl (by decide) (send2_c i (F.fseq i) (Y1.sv i) (F.seen i) (Y1.nv i) (setN M F r 6 i) (hF1.ok (by omega) hi) (hH1.sc i hi) p m c l hl (by omega) r hr (fun e => hir e.symm) hmk (by have := hF.fs i; omega)) (fun _ ho hw => ⟨⟨Rd.row hw (by repeat (first | exact (hH1.sn i hi) | apply List.Mem.tail)), Rd.row hw (by repeat (first | exact (hH1.nx i hi) | apply List.Mem.tail))⟩, hrd _ ho⟩) ?_)
      intro x91_9 y91_9
      rcases x91_9 with _ | ⟨v, q1, q2, qd⟩
      ·
       have hsd := y91_9
       refine VA.next zB Cells.nil ?_
       refine VA.tk 13 rfl hS zB Cells.nil (Quiet.c (Q.move rfl)) ?_
       refine VA.tk 14 rfl hS zB Cells.nil (Quiet.c (Q.extract rfl rfl)) ?_
       refine VA.tk 15 rfl hS zB Cells.nil (Quiet.c (Q.extract rfl rfl)) ?_
       refine VA.tk 16 rfl hS zB Cells.nil (Quiet.c (Q.extract rfl rfl)) ?_
       refine VA.all (rs := [19]) (by kernel_rfl) (by simp) ?_
       refine VA.forall1 ?_
       ·
        refine VA.eff rfl ?_
        refine id (O.store ty55 rfl rfl rfl rfl zU zP ?_)
        refine VA.next zB Cells.nil ?_
        refine VA.all (rs := [20]) (by kernel_rfl) (by simp) ?_
        refine VA.forall1 ?_
        ·
         refine VA.eff rfl ?_
         refine id (O.store ty156 rfl rfl rfl rfl zU zP ?_)
         refine VA.next zB Cells.nil ?_
         refine VA.tk 21 rfl hS zB Cells.nil (Quiet.c (Q.assign rfl)) ?_
         refine VA.done (by kernel_rfl) ?_
         exact VK.fin hn0 (none, (g18_3, g19_4)) hsd
      ·
       have hsd := y91_9
       refine VA.next zB Cells.nil ?_
       refine VA.tk 13 rfl hS zB Cells.nil (Quiet.c (Q.move rfl)) ?_
       refine VA.tk 14 rfl hS zB Cells.nil (Quiet.c (Q.extract rfl rfl)) ?_
       refine VA.tk 15 rfl hS zB Cells.nil (Quiet.c (Q.extract rfl rfl)) ?_
       refine VA.tk 16 rfl hS zB Cells.nil (Quiet.c (Q.extract rfl rfl)) ?_
       refine VA.all (rs := [19]) (by kernel_rfl) (by simp) ?_
       refine VA.forall1 ?_
       ·
        refine VA.eff rfl ?_
        refine id (O.store ty55 rfl rfl rfl rfl zU zP ?_)
        refine VA.next zB Cells.nil ?_
        refine VA.all (rs := [20]) (by kernel_rfl) (by simp) ?_
        refine VA.forall1 ?_
        ·
         refine VA.eff rfl ?_
         refine id (O.store ty156 rfl rfl rfl rfl zU zP ?_)
         refine VA.next zB Cells.nil ?_
         refine VA.tk 21 rfl hS zB Cells.nil (Quiet.c (Q.assign rfl)) ?_
         refine VA.done (by kernel_rfl) ?_
         exact VK.fin hn0 (some (v, q1, q2, qd), (g18_3, g19_4)) hsd
   ·
    refine VA.eff rfl ?_
    refine id (O.alloc zo55 (by decide) ?_)
    intro g18_4
    refine VA.next zB Cells.nil ?_
    refine VA.all (rs := [9]) (by kernel_rfl) (by simp) ?_
    refine VA.forall1 ?_
    ·
     refine VA.eff rfl ?_
     refine id (O.call0 ok35 rfl rfl (by decide) (nodeOf_c i (by omega)) (fun _ _ _ => trivial) ?_)
     intro x88_4 y88_4
     refine VA.next zB Cells.nil ?_
     refine VA.all (rs := [12]) (by kernel_rfl) (by simp) ?_
     refine VA.forall1 ?_
     ·
      refine VA.eff rfl ?_
      refine id (O.call0 ok47 rfl rfl (by decide) (send2_c i (F.fseq i) (Y1.sv i) (F.seen i) (Y1.nv i) (setN M F r 6 i) (hF1.ok (by omega) hi) (hH1.sc i hi) p m c l hl (by omega) r hr (fun e => hir e.symm) hmk (by have := hF.fs i; omega)) (fun _ ho hw => ⟨⟨Rd.row hw (by repeat (first | exact (hH1.sn i hi) | apply List.Mem.tail)), Rd.row hw (by repeat (first | exact (hH1.nx i hi) | apply List.Mem.tail))⟩, hrd _ ho⟩) ?_)
      intro x91_10 y91_10
      rcases x91_10 with _ | ⟨v, q1, q2, qd⟩
      ·
       have hsd := y91_10
       refine VA.next zB Cells.nil ?_
       refine VA.tk 13 rfl hS zB Cells.nil (Quiet.c (Q.move rfl)) ?_
       refine VA.tk 14 rfl hS zB Cells.nil (Quiet.c (Q.extract rfl rfl)) ?_
       refine VA.tk 15 rfl hS zB Cells.nil (Quiet.c (Q.extract rfl rfl)) ?_
       refine VA.tk 16 rfl hS zB Cells.nil (Quiet.c (Q.extract rfl rfl)) ?_
       refine VA.all (rs := [19]) (by kernel_rfl) (by simp) ?_
       refine VA.forall1 ?_
       ·
        refine VA.eff rfl ?_
        refine id (O.store ty55 rfl rfl rfl rfl zU zP ?_)
        refine VA.next zB Cells.nil ?_
        refine VA.all (rs := [20]) (by kernel_rfl) (by simp) ?_
        refine VA.forall1 ?_
        ·
         refine VA.eff rfl ?_
         refine id (O.store ty156 rfl rfl rfl rfl zU zP ?_)
         refine VA.next zB Cells.nil ?_
         refine VA.tk 21 rfl hS zB Cells.nil (Quiet.c (Q.assign rfl)) ?_
         refine VA.done (by kernel_rfl) ?_
         exact VK.fin hn0 (none, (g18_4, g19_4)) hsd
      ·
       have hsd := y91_10
       refine VA.next zB Cells.nil ?_
       refine VA.tk 13 rfl hS zB Cells.nil (Quiet.c (Q.move rfl)) ?_
       refine VA.tk 14 rfl hS zB Cells.nil (Quiet.c (Q.extract rfl rfl)) ?_
       refine VA.tk 15 rfl hS zB Cells.nil (Quiet.c (Q.extract rfl rfl)) ?_
       refine VA.tk 16 rfl hS zB Cells.nil (Quiet.c (Q.extract rfl rfl)) ?_
       refine VA.all (rs := [19]) (by kernel_rfl) (by simp) ?_
       refine VA.forall1 ?_
       ·
        refine VA.eff rfl ?_
        refine id (O.store ty55 rfl rfl rfl rfl zU zP ?_)
        refine VA.next zB Cells.nil ?_
        refine VA.all (rs := [20]) (by kernel_rfl) (by simp) ?_
        refine VA.forall1 ?_
        ·
         refine VA.eff rfl ?_
         refine id (O.store ty156 rfl rfl rfl rfl zU zP ?_)
         refine VA.next zB Cells.nil ?_
         refine VA.tk 21 rfl hS zB Cells.nil (Quiet.c (Q.assign rfl)) ?_
         refine VA.done (by kernel_rfl) ?_
         exact VK.fin hn0 (some (v, q1, q2, qd), (g18_4, g19_4)) hsd
 ·
  refine VA.eff rfl ?_
  refine id (O.alloc zo55 (by decide) ?_)
  intro g18_5
  refine VA.next zB Cells.nil ?_
  refine VA.all (rs := [7, 18]) (by kernel_rfl) (by simp) ?_
  refine VA.forall2 ?_ ?_
  ·
   refine VA.eff rfl ?_
   refine id (O.call0 ok35 rfl rfl (by decide) (nodeOf_c r (by omega)) (fun _ _ _ => trivial) ?_)
   intro x86_1 y86_1
   refine VA.next zB Cells.nil ?_
   refine VA.all (rs := [9, 18]) (by kernel_rfl) (by simp) ?_
   refine VA.forall2 ?_ ?_
   ·
    refine VA.eff rfl ?_
    refine id (O.call0 ok35 rfl rfl (by decide) (nodeOf_c i (by omega)) (fun _ _ _ => trivial) ?_)
    intro x88_5 y88_5
    refine VA.next zB Cells.nil ?_
    refine VA.all (rs := [12, 18]) (by kernel_rfl) (by simp) ?_
    refine VA.forall2 ?_ ?_
    ·
     refine VA.eff rfl ?_
     refine id (O.call0 ok47 rfl rfl (by decide) (send2_c i (F.fseq i) (Y1.sv i) (F.seen i) (Y1.nv i) (setN M F r 6 i) (hF1.ok (by omega) hi) (hH1.sc i hi) p m c l hl (by omega) r hr (fun e => hir e.symm) hmk (by have := hF.fs i; omega)) (fun _ ho hw => ⟨⟨Rd.row hw (by repeat (first | exact (hH1.sn i hi) | apply List.Mem.tail)), Rd.row hw (by repeat (first | exact (hH1.nx i hi) | apply List.Mem.tail))⟩, hrd _ ho⟩) ?_)
     intro x91_11 y91_11
     rcases x91_11 with _ | ⟨v, q1, q2, qd⟩
     ·
      have hsd := y91_11
      refine VA.next zB Cells.nil ?_
      refine VA.tk 13 rfl hS zB Cells.nil (Quiet.c (Q.move rfl)) ?_
      refine VA.tk 14 rfl hS zB Cells.nil (Quiet.c (Q.extract rfl rfl)) ?_
      refine VA.tk 15 rfl hS zB Cells.nil (Quiet.c (Q.extract rfl rfl)) ?_
      refine VA.tk 16 rfl hS zB Cells.nil (Quiet.c (Q.extract rfl rfl)) ?_
      refine VA.all (rs := [18]) (by kernel_rfl) (by simp) ?_
      refine VA.forall1 ?_
      ·
       refine VA.eff rfl ?_
       refine id (O.alloc zo156 (by decide) ?_)
       intro g19_5
       refine VA.next zB Cells.nil ?_
       refine VA.all (rs := [19]) (by kernel_rfl) (by simp) ?_
       refine VA.forall1 ?_
       ·
        refine VA.eff rfl ?_
        refine id (O.store ty55 rfl rfl rfl rfl zU zP ?_)
        refine VA.next zB Cells.nil ?_
        refine VA.all (rs := [20]) (by kernel_rfl) (by simp) ?_
        refine VA.forall1 ?_
        ·
         refine VA.eff rfl ?_
         refine id (O.store ty156 rfl rfl rfl rfl zU zP ?_)
         refine VA.next zB Cells.nil ?_
         refine VA.tk 21 rfl hS zB Cells.nil (Quiet.c (Q.assign rfl)) ?_
         refine VA.done (by kernel_rfl) ?_
         exact VK.fin hn0 (none, (g18_5, g19_5)) hsd
     ·
      have hsd := y91_11
      refine VA.next zB Cells.nil ?_
      refine VA.tk 13 rfl hS zB Cells.nil (Quiet.c (Q.move rfl)) ?_
      refine VA.tk 14 rfl hS zB Cells.nil (Quiet.c (Q.extract rfl rfl)) ?_
      refine VA.tk 15 rfl hS zB Cells.nil (Quiet.c (Q.extract rfl rfl)) ?_
      refine VA.tk 16 rfl hS zB Cells.nil (Quiet.c (Q.extract rfl rfl)) ?_
      refine VA.all (rs := [18]) (by kernel_rfl) (by simp) ?_
      refine VA.forall1 ?_
      ·
       refine VA.eff rfl ?_
       refine id (O.alloc zo156 (by decide) ?_)
       intro g19_5
       refine VA.next zB Cells.nil ?_
       refine VA.all (rs := [19]) (by kernel_rfl) (by simp) ?_
       refine VA.forall1 ?_
       ·
        refine VA.eff rfl ?_
        refine id (O.store ty55 rfl rfl rfl rfl zU zP ?_)
        refine VA.next zB Cells.nil ?_
        refine VA.all (rs := [20]) (by kernel_rfl) (by simp) ?_
        refine VA.forall1 ?_
        ·
         refine VA.eff rfl ?_
         refine id (O.store ty156 rfl rfl rfl rfl zU zP ?_)
         refine VA.next zB Cells.nil ?_
         refine VA.tk 21 rfl hS zB Cells.nil (Quiet.c (Q.assign rfl)) ?_
         refine VA.done (by kernel_rfl) ?_
         exact VK.fin hn0 (some (v, q1, q2, qd), (g18_5, g19_5)) hsd
    ·
     refine VA.eff rfl ?_
     refine id (O.alloc zo156 (by decide) ?_)
     intro g19_5
     refine VA.next zB Cells.nil ?_
     refine VA.all (rs := [12]) (by kernel_rfl) (by simp) ?_
     refine VA.forall1 ?_
     ·
      refine VA.eff rfl ?_
      refine id (O.call0 ok47 rfl rfl (by decide) (send2_c i (F.fseq i) (Y1.sv i) (F.seen i) (Y1.nv i) (setN M F r 6 i) (hF1.ok (by omega) hi) (hH1.sc i hi) p m c l hl (by omega) r hr (fun e => hir e.symm) hmk (by have := hF.fs i; omega)) (fun _ ho hw => ⟨⟨Rd.row hw (by repeat (first | exact (hH1.sn i hi) | apply List.Mem.tail)), Rd.row hw (by repeat (first | exact (hH1.nx i hi) | apply List.Mem.tail))⟩, hrd _ ho⟩) ?_)
      intro x91_12 y91_12
      rcases x91_12 with _ | ⟨v, q1, q2, qd⟩
      ·
       have hsd := y91_12
       refine VA.next zB Cells.nil ?_
       refine VA.tk 13 rfl hS zB Cells.nil (Quiet.c (Q.move rfl)) ?_
       refine VA.tk 14 rfl hS zB Cells.nil (Quiet.c (Q.extract rfl rfl)) ?_
       refine VA.tk 15 rfl hS zB Cells.nil (Quiet.c (Q.extract rfl rfl)) ?_
       refine VA.tk 16 rfl hS zB Cells.nil (Quiet.c (Q.extract rfl rfl)) ?_
       refine VA.all (rs := [19]) (by kernel_rfl) (by simp) ?_
       refine VA.forall1 ?_
       ·
        refine VA.eff rfl ?_
        refine id (O.store ty55 rfl rfl rfl rfl zU zP ?_)
        refine VA.next zB Cells.nil ?_
        refine VA.all (rs := [20]) (by kernel_rfl) (by simp) ?_
        refine VA.forall1 ?_
        ·
         refine VA.eff rfl ?_
         refine id (O.store ty156 rfl rfl rfl rfl zU zP ?_)
         refine VA.next zB Cells.nil ?_
         refine VA.tk 21 rfl hS zB Cells.nil (Quiet.c (Q.assign rfl)) ?_
         refine VA.done (by kernel_rfl) ?_
         exact VK.fin hn0 (none, (g18_5, g19_5)) hsd
      ·
       have hsd := y91_12
       refine VA.next zB Cells.nil ?_
       refine VA.tk 13 rfl hS zB Cells.nil (Quiet.c (Q.move rfl)) ?_
       refine VA.tk 14 rfl hS zB Cells.nil (Quiet.c (Q.extract rfl rfl)) ?_
       refine VA.tk 15 rfl hS zB Cells.nil (Quiet.c (Q.extract rfl rfl)) ?_
       refine VA.tk 16 rfl hS zB Cells.nil (Quiet.c (Q.extract rfl rfl)) ?_
       refine VA.all (rs := [19]) (by kernel_rfl) (by simp) ?_
       refine VA.forall1 ?_
       ·
        refine VA.eff rfl ?_
        refine id (O.store ty55 rfl rfl rfl rfl zU zP ?_)
        refine VA.next zB Cells.nil ?_
        refine VA.all (rs := [20]) (by kernel_rfl) (by simp) ?_
        refine VA.forall1 ?_
        ·
         refine VA.eff rfl ?_
         refine id (O.store ty156 rfl rfl rfl rfl zU zP ?_)
         refine VA.next zB Cells.nil ?_
         refine VA.tk 21 rfl hS zB Cells.nil (Quiet.c (Q.assign rfl)) ?_
         refine VA.done (by kernel_rfl) ?_
         exact VK.fin hn0 (some (v, q1, q2, qd), (g18_5, g19_5)) hsd
   ·
    refine VA.eff rfl ?_
    refine id (O.alloc zo156 (by decide) ?_)
    intro g19_6
    refine VA.next zB Cells.nil ?_
    refine VA.all (rs := [9]) (by kernel_rfl) (by simp) ?_
    refine VA.forall1 ?_
    ·
     refine VA.eff rfl ?_
     refine id (O.call0 ok35 rfl rfl (by decide) (nodeOf_c i (by omega)) (fun _ _ _ => trivial) ?_)
     intro x88_6 y88_6
     refine VA.next zB Cells.nil ?_
     refine VA.all (rs := [12]) (by kernel_rfl) (by simp) ?_
     refine VA.forall1 ?_
     ·
      refine VA.eff rfl ?_
      refine id (O.call0 ok47 rfl rfl (by decide) (send2_c i (F.fseq i) (Y1.sv i) (F.seen i) (Y1.nv i) (setN M F r 6 i) (hF1.ok (by omega) hi) (hH1.sc i hi) p m c l hl (by omega) r hr (fun e => hir e.symm) hmk (by have := hF.fs i; omega)) (fun _ ho hw => ⟨⟨Rd.row hw (by repeat (first | exact (hH1.sn i hi) | apply List.Mem.tail)), Rd.row hw (by repeat (first | exact (hH1.nx i hi) | apply List.Mem.tail))⟩, hrd _ ho⟩) ?_)
      intro x91_13 y91_13
      rcases x91_13 with _ | ⟨v, q1, q2, qd⟩
      ·
       have hsd := y91_13
       refine VA.next zB Cells.nil ?_
       refine VA.tk 13 rfl hS zB Cells.nil (Quiet.c (Q.move rfl)) ?_
       refine VA.tk 14 rfl hS zB Cells.nil (Quiet.c (Q.extract rfl rfl)) ?_
       refine VA.tk 15 rfl hS zB Cells.nil (Quiet.c (Q.extract rfl rfl)) ?_
       refine VA.tk 16 rfl hS zB Cells.nil (Quiet.c (Q.extract rfl rfl)) ?_
       refine VA.all (rs := [19]) (by kernel_rfl) (by simp) ?_
       refine VA.forall1 ?_
       ·
        refine VA.eff rfl ?_
        refine id (O.store ty55 rfl rfl rfl rfl zU zP ?_)
        refine VA.next zB Cells.nil ?_
        refine VA.all (rs := [20]) (by kernel_rfl) (by simp) ?_
        refine VA.forall1 ?_
        ·
         refine VA.eff rfl ?_
         refine id (O.store ty156 rfl rfl rfl rfl zU zP ?_)
         refine VA.next zB Cells.nil ?_
         refine VA.tk 21 rfl hS zB Cells.nil (Quiet.c (Q.assign rfl)) ?_
         refine VA.done (by kernel_rfl) ?_
         exact VK.fin hn0 (none, (g18_5, g19_6)) hsd
      ·
       have hsd := y91_13
       refine VA.next zB Cells.nil ?_
       refine VA.tk 13 rfl hS zB Cells.nil (Quiet.c (Q.move rfl)) ?_
       refine VA.tk 14 rfl hS zB Cells.nil (Quiet.c (Q.extract rfl rfl)) ?_
       refine VA.tk 15 rfl hS zB Cells.nil (Quiet.c (Q.extract rfl rfl)) ?_
       refine VA.tk 16 rfl hS zB Cells.nil (Quiet.c (Q.extract rfl rfl)) ?_
       refine VA.all (rs := [19]) (by kernel_rfl) (by simp) ?_
       refine VA.forall1 ?_
       ·
        refine VA.eff rfl ?_
        refine id (O.store ty55 rfl rfl rfl rfl zU zP ?_)
        refine VA.next zB Cells.nil ?_
        refine VA.all (rs := [20]) (by kernel_rfl) (by simp) ?_
        refine VA.forall1 ?_
        ·
         refine VA.eff rfl ?_
         refine id (O.store ty156 rfl rfl rfl rfl zU zP ?_)
         refine VA.next zB Cells.nil ?_
         refine VA.tk 21 rfl hS zB Cells.nil (Quiet.c (Q.assign rfl)) ?_
         refine VA.done (by kernel_rfl) ?_
         exact VK.fin hn0 (some (v, q1, q2, qd), (g18_5, g19_6)) hsd
  ·
   refine VA.eff rfl ?_
   refine id (O.alloc zo156 (by decide) ?_)
   intro g19_7
   refine VA.next zB Cells.nil ?_
   refine VA.all (rs := [7]) (by kernel_rfl) (by simp) ?_
   refine VA.forall1 ?_
   ·
    refine VA.eff rfl ?_
    refine id (O.call0 ok35 rfl rfl (by decide) (nodeOf_c r (by omega)) (fun _ _ _ => trivial) ?_)
    intro x86_2 y86_2
    refine VA.next zB Cells.nil ?_
    refine VA.all (rs := [9]) (by kernel_rfl) (by simp) ?_
    refine VA.forall1 ?_
    ·
     refine VA.eff rfl ?_
     refine id (O.call0 ok35 rfl rfl (by decide) (nodeOf_c i (by omega)) (fun _ _ _ => trivial) ?_)
     intro x88_7 y88_7
     refine VA.next zB Cells.nil ?_
     refine VA.all (rs := [12]) (by kernel_rfl) (by simp) ?_
     refine VA.forall1 ?_
     ·
      refine VA.eff rfl ?_
      refine id (O.call0 ok47 rfl rfl (by decide) (send2_c i (F.fseq i) (Y1.sv i) (F.seen i) (Y1.nv i) (setN M F r 6 i) (hF1.ok (by omega) hi) (hH1.sc i hi) p m c l hl (by omega) r hr (fun e => hir e.symm) hmk (by have := hF.fs i; omega)) (fun _ ho hw => ⟨⟨Rd.row hw (by repeat (first | exact (hH1.sn i hi) | apply List.Mem.tail)), Rd.row hw (by repeat (first | exact (hH1.nx i hi) | apply List.Mem.tail))⟩, hrd _ ho⟩) ?_)
      intro x91_14 y91_14
      rcases x91_14 with _ | ⟨v, q1, q2, qd⟩
      ·
       have hsd := y91_14
       refine VA.next zB Cells.nil ?_
       refine VA.tk 13 rfl hS zB Cells.nil (Quiet.c (Q.move rfl)) ?_
       refine VA.tk 14 rfl hS zB Cells.nil (Quiet.c (Q.extract rfl rfl)) ?_
       refine VA.tk 15 rfl hS zB Cells.nil (Quiet.c (Q.extract rfl rfl)) ?_
       refine VA.tk 16 rfl hS zB Cells.nil (Quiet.c (Q.extract rfl rfl)) ?_
       refine VA.all (rs := [19]) (by kernel_rfl) (by simp) ?_
       refine VA.forall1 ?_
       ·
        refine VA.eff rfl ?_
        refine id (O.store ty55 rfl rfl rfl rfl zU zP ?_)
        refine VA.next zB Cells.nil ?_
        refine VA.all (rs := [20]) (by kernel_rfl) (by simp) ?_
        refine VA.forall1 ?_
        ·
         refine VA.eff rfl ?_
         refine id (O.store ty156 rfl rfl rfl rfl zU zP ?_)
         refine VA.next zB Cells.nil ?_
         refine VA.tk 21 rfl hS zB Cells.nil (Quiet.c (Q.assign rfl)) ?_
         refine VA.done (by kernel_rfl) ?_
         exact VK.fin hn0 (none, (g18_5, g19_7)) hsd
      ·
       have hsd := y91_14
       refine VA.next zB Cells.nil ?_
       refine VA.tk 13 rfl hS zB Cells.nil (Quiet.c (Q.move rfl)) ?_
       refine VA.tk 14 rfl hS zB Cells.nil (Quiet.c (Q.extract rfl rfl)) ?_
       refine VA.tk 15 rfl hS zB Cells.nil (Quiet.c (Q.extract rfl rfl)) ?_
       refine VA.tk 16 rfl hS zB Cells.nil (Quiet.c (Q.extract rfl rfl)) ?_
       refine VA.all (rs := [19]) (by kernel_rfl) (by simp) ?_
       refine VA.forall1 ?_
       ·
        refine VA.eff rfl ?_
        refine id (O.store ty55 rfl rfl rfl rfl zU zP ?_)
        refine VA.next zB Cells.nil ?_
        refine VA.all (rs := [20]) (by kernel_rfl) (by simp) ?_
        refine VA.forall1 ?_
        ·
         refine VA.eff rfl ?_
         refine id (O.store ty156 rfl rfl rfl rfl zU zP ?_)
         refine VA.next zB Cells.nil ?_
         refine VA.tk 21 rfl hS zB Cells.nil (Quiet.c (Q.assign rfl)) ?_
         refine VA.done (by kernel_rfl) ?_
         exact VK.fin hn0 (some (v, q1, q2, qd), (g18_5, g19_7)) hsd
 ·
  refine VA.eff rfl ?_
  refine id (O.alloc zo156 (by decide) ?_)
  intro g19_8
  refine VA.next zB Cells.nil ?_
  refine VA.all (rs := [7, 17]) (by kernel_rfl) (by simp) ?_
  refine VA.forall2 ?_ ?_
  ·
   refine VA.eff rfl ?_
   refine id (O.call0 ok35 rfl rfl (by decide) (nodeOf_c r (by omega)) (fun _ _ _ => trivial) ?_)
   intro x86_3 y86_3
   refine VA.next zB Cells.nil ?_
   refine VA.all (rs := [9, 17]) (by kernel_rfl) (by simp) ?_
   refine VA.forall2 ?_ ?_
   ·
    refine VA.eff rfl ?_
    refine id (O.call0 ok35 rfl rfl (by decide) (nodeOf_c i (by omega)) (fun _ _ _ => trivial) ?_)
    intro x88_8 y88_8
    refine VA.next zB Cells.nil ?_
    refine VA.all (rs := [12, 17]) (by kernel_rfl) (by simp) ?_
    refine VA.forall2 ?_ ?_
    ·
     refine VA.eff rfl ?_
     refine id (O.call0 ok47 rfl rfl (by decide) (send2_c i (F.fseq i) (Y1.sv i) (F.seen i) (Y1.nv i) (setN M F r 6 i) (hF1.ok (by omega) hi) (hH1.sc i hi) p m c l hl (by omega) r hr (fun e => hir e.symm) hmk (by have := hF.fs i; omega)) (fun _ ho hw => ⟨⟨Rd.row hw (by repeat (first | exact (hH1.sn i hi) | apply List.Mem.tail)), Rd.row hw (by repeat (first | exact (hH1.nx i hi) | apply List.Mem.tail))⟩, hrd _ ho⟩) ?_)
     intro x91_15 y91_15
     rcases x91_15 with _ | ⟨v, q1, q2, qd⟩
     ·
      have hsd := y91_15
      refine VA.next zB Cells.nil ?_
      refine VA.tk 13 rfl hS zB Cells.nil (Quiet.c (Q.move rfl)) ?_
      refine VA.tk 14 rfl hS zB Cells.nil (Quiet.c (Q.extract rfl rfl)) ?_
      refine VA.tk 15 rfl hS zB Cells.nil (Quiet.c (Q.extract rfl rfl)) ?_
      refine VA.tk 16 rfl hS zB Cells.nil (Quiet.c (Q.extract rfl rfl)) ?_
      refine VA.all (rs := [17]) (by kernel_rfl) (by simp) ?_
      refine VA.forall1 ?_
      ·
       refine VA.eff rfl ?_
       refine id (O.alloc zo55 (by decide) ?_)
       intro g18_6
       refine VA.next zB Cells.nil ?_
       refine VA.all (rs := [19]) (by kernel_rfl) (by simp) ?_
       refine VA.forall1 ?_
       ·
        refine VA.eff rfl ?_
        refine id (O.store ty55 rfl rfl rfl rfl zU zP ?_)
        refine VA.next zB Cells.nil ?_
        refine VA.all (rs := [20]) (by kernel_rfl) (by simp) ?_
        refine VA.forall1 ?_
        ·
         refine VA.eff rfl ?_
         refine id (O.store ty156 rfl rfl rfl rfl zU zP ?_)
         refine VA.next zB Cells.nil ?_
         refine VA.tk 21 rfl hS zB Cells.nil (Quiet.c (Q.assign rfl)) ?_
         refine VA.done (by kernel_rfl) ?_
         exact VK.fin hn0 (none, (g18_6, g19_8)) hsd
     ·
      have hsd := y91_15
      refine VA.next zB Cells.nil ?_
      refine VA.tk 13 rfl hS zB Cells.nil (Quiet.c (Q.move rfl)) ?_
      refine VA.tk 14 rfl hS zB Cells.nil (Quiet.c (Q.extract rfl rfl)) ?_
      refine VA.tk 15 rfl hS zB Cells.nil (Quiet.c (Q.extract rfl rfl)) ?_
      refine VA.tk 16 rfl hS zB Cells.nil (Quiet.c (Q.extract rfl rfl)) ?_
      refine VA.all (rs := [17]) (by kernel_rfl) (by simp) ?_
      refine VA.forall1 ?_
      ·
       refine VA.eff rfl ?_
       refine id (O.alloc zo55 (by decide) ?_)
       intro g18_6
       refine VA.next zB Cells.nil ?_
       refine VA.all (rs := [19]) (by kernel_rfl) (by simp) ?_
       refine VA.forall1 ?_
       ·
        refine VA.eff rfl ?_
        refine id (O.store ty55 rfl rfl rfl rfl zU zP ?_)
        refine VA.next zB Cells.nil ?_
        refine VA.all (rs := [20]) (by kernel_rfl) (by simp) ?_
        refine VA.forall1 ?_
        ·
         refine VA.eff rfl ?_
         refine id (O.store ty156 rfl rfl rfl rfl zU zP ?_)
         refine VA.next zB Cells.nil ?_
         refine VA.tk 21 rfl hS zB Cells.nil (Quiet.c (Q.assign rfl)) ?_
         refine VA.done (by kernel_rfl) ?_
         exact VK.fin hn0 (some (v, q1, q2, qd), (g18_6, g19_8)) hsd
    ·
     refine VA.eff rfl ?_
     refine id (O.alloc zo55 (by decide) ?_)
     intro g18_6
     refine VA.next zB Cells.nil ?_
     refine VA.all (rs := [12]) (by kernel_rfl) (by simp) ?_
     refine VA.forall1 ?_
     ·
      refine VA.eff rfl ?_
      refine id (O.call0 ok47 rfl rfl (by decide) (send2_c i (F.fseq i) (Y1.sv i) (F.seen i) (Y1.nv i) (setN M F r 6 i) (hF1.ok (by omega) hi) (hH1.sc i hi) p m c l hl (by omega) r hr (fun e => hir e.symm) hmk (by have := hF.fs i; omega)) (fun _ ho hw => ⟨⟨Rd.row hw (by repeat (first | exact (hH1.sn i hi) | apply List.Mem.tail)), Rd.row hw (by repeat (first | exact (hH1.nx i hi) | apply List.Mem.tail))⟩, hrd _ ho⟩) ?_)
      intro x91_16 y91_16
      rcases x91_16 with _ | ⟨v, q1, q2, qd⟩
      ·
       have hsd := y91_16
       refine VA.next zB Cells.nil ?_
       refine VA.tk 13 rfl hS zB Cells.nil (Quiet.c (Q.move rfl)) ?_
       refine VA.tk 14 rfl hS zB Cells.nil (Quiet.c (Q.extract rfl rfl)) ?_
       refine VA.tk 15 rfl hS zB Cells.nil (Quiet.c (Q.extract rfl rfl)) ?_
       refine VA.tk 16 rfl hS zB Cells.nil (Quiet.c (Q.extract rfl rfl)) ?_
       refine VA.all (rs := [19]) (by kernel_rfl) (by simp) ?_
       refine VA.forall1 ?_
       ·
        refine VA.eff rfl ?_
        refine id (O.store ty55 rfl rfl rfl rfl zU zP ?_)
        refine VA.next zB Cells.nil ?_
        refine VA.all (rs := [20]) (by kernel_rfl) (by simp) ?_
        refine VA.forall1 ?_
        ·
         refine VA.eff rfl ?_
         refine id (O.store ty156 rfl rfl rfl rfl zU zP ?_)
         refine VA.next zB Cells.nil ?_
         refine VA.tk 21 rfl hS zB Cells.nil (Quiet.c (Q.assign rfl)) ?_
         refine VA.done (by kernel_rfl) ?_
         exact VK.fin hn0 (none, (g18_6, g19_8)) hsd
      ·
       have hsd := y91_16
       refine VA.next zB Cells.nil ?_
       refine VA.tk 13 rfl hS zB Cells.nil (Quiet.c (Q.move rfl)) ?_
       refine VA.tk 14 rfl hS zB Cells.nil (Quiet.c (Q.extract rfl rfl)) ?_
       refine VA.tk 15 rfl hS zB Cells.nil (Quiet.c (Q.extract rfl rfl)) ?_
       refine VA.tk 16 rfl hS zB Cells.nil (Quiet.c (Q.extract rfl rfl)) ?_
       refine VA.all (rs := [19]) (by kernel_rfl) (by simp) ?_
       refine VA.forall1 ?_
       ·
        refine VA.eff rfl ?_
        refine id (O.store ty55 rfl rfl rfl rfl zU zP ?_)
        refine VA.next zB Cells.nil ?_
        refine VA.all (rs := [20]) (by kernel_rfl) (by simp) ?_
        refine VA.forall1 ?_
        ·
         refine VA.eff rfl ?_
         refine id (O.store ty156 rfl rfl rfl rfl zU zP ?_)
         refine VA.next zB Cells.nil ?_
         refine VA.tk 21 rfl hS zB Cells.nil (Quiet.c (Q.assign rfl)) ?_
         refine VA.done (by kernel_rfl) ?_
         exact VK.fin hn0 (some (v, q1, q2, qd), (g18_6, g19_8)) hsd
   ·
    refine VA.eff rfl ?_
    refine id (O.alloc zo55 (by decide) ?_)
    intro g18_7
    refine VA.next zB Cells.nil ?_
    refine VA.all (rs := [9]) (by kernel_rfl) (by simp) ?_
    refine VA.forall1 ?_
    ·
     refine VA.eff rfl ?_
     refine id (O.call0 ok35 rfl rfl (by decide) (nodeOf_c i (by omega)) (fun _ _ _ => trivial) ?_)
     intro x88_9 y88_9
     refine VA.next zB Cells.nil ?_
     refine VA.all (rs := [12]) (by kernel_rfl) (by simp) ?_
     refine VA.forall1 ?_
     ·
      refine VA.eff rfl ?_
      refine id (O.call0 ok47 rfl rfl (by decide) (send2_c i (F.fseq i) (Y1.sv i) (F.seen i) (Y1.nv i) (setN M F r 6 i) (hF1.ok (by omega) hi) (hH1.sc i hi) p m c l hl (by omega) r hr (fun e => hir e.symm) hmk (by have := hF.fs i; omega)) (fun _ ho hw => ⟨⟨Rd.row hw (by repeat (first | exact (hH1.sn i hi) | apply List.Mem.tail)), Rd.row hw (by repeat (first | exact (hH1.nx i hi) | apply List.Mem.tail))⟩, hrd _ ho⟩) ?_)
      intro x91_17 y91_17
      rcases x91_17 with _ | ⟨v, q1, q2, qd⟩
      ·
       have hsd := y91_17
       refine VA.next zB Cells.nil ?_
       refine VA.tk 13 rfl hS zB Cells.nil (Quiet.c (Q.move rfl)) ?_
       refine VA.tk 14 rfl hS zB Cells.nil (Quiet.c (Q.extract rfl rfl)) ?_
       refine VA.tk 15 rfl hS zB Cells.nil (Quiet.c (Q.extract rfl rfl)) ?_
       refine VA.tk 16 rfl hS zB Cells.nil (Quiet.c (Q.extract rfl rfl)) ?_
       refine VA.all (rs := [19]) (by kernel_rfl) (by simp) ?_
       refine VA.forall1 ?_
       ·
        refine VA.eff rfl ?_
        refine id (O.store ty55 rfl rfl rfl rfl zU zP ?_)
        refine VA.next zB Cells.nil ?_
        refine VA.all (rs := [20]) (by kernel_rfl) (by simp) ?_
        refine VA.forall1 ?_
        ·
         refine VA.eff rfl ?_
         refine id (O.store ty156 rfl rfl rfl rfl zU zP ?_)
         refine VA.next zB Cells.nil ?_
         refine VA.tk 21 rfl hS zB Cells.nil (Quiet.c (Q.assign rfl)) ?_
         refine VA.done (by kernel_rfl) ?_
         exact VK.fin hn0 (none, (g18_7, g19_8)) hsd
      ·
       have hsd := y91_17
       refine VA.next zB Cells.nil ?_
       refine VA.tk 13 rfl hS zB Cells.nil (Quiet.c (Q.move rfl)) ?_
       refine VA.tk 14 rfl hS zB Cells.nil (Quiet.c (Q.extract rfl rfl)) ?_
       refine VA.tk 15 rfl hS zB Cells.nil (Quiet.c (Q.extract rfl rfl)) ?_
       refine VA.tk 16 rfl hS zB Cells.nil (Quiet.c (Q.extract rfl rfl)) ?_
       refine VA.all (rs := [19]) (by kernel_rfl) (by simp) ?_
       refine VA.forall1 ?_
       ·
        refine VA.eff rfl ?_
        refine id (O.store ty55 rfl rfl rfl rfl zU zP ?_)
        refine VA.next zB Cells.nil ?_
        refine VA.all (rs := [20]) (by kernel_rfl) (by simp) ?_
        refine VA.forall1 ?_
        ·
         refine VA.eff rfl ?_
         refine id (O.store ty156 rfl rfl rfl rfl zU zP ?_)
         refine VA.next zB Cells.nil ?_
         refine VA.tk 21 rfl hS zB Cells.nil (Quiet.c (Q.assign rfl)) ?_
         refine VA.done (by kernel_rfl) ?_
         exact VK.fin hn0 (some (v, q1, q2, qd), (g18_7, g19_8)) hsd
  ·
   refine VA.eff rfl ?_
   refine id (O.alloc zo55 (by decide) ?_)
   intro g18_8
   refine VA.next zB Cells.nil ?_
   refine VA.all (rs := [7]) (by kernel_rfl) (by simp) ?_
   refine VA.forall1 ?_
   ·
    refine VA.eff rfl ?_
    refine id (O.call0 ok35 rfl rfl (by decide) (nodeOf_c r (by omega)) (fun _ _ _ => trivial) ?_)
    intro x86_4 y86_4
    refine VA.next zB Cells.nil ?_
    refine VA.all (rs := [9]) (by kernel_rfl) (by simp) ?_
    refine VA.forall1 ?_
    ·
     refine VA.eff rfl ?_
     refine id (O.call0 ok35 rfl rfl (by decide) (nodeOf_c i (by omega)) (fun _ _ _ => trivial) ?_)
     intro x88_10 y88_10
     refine VA.next zB Cells.nil ?_
     refine VA.all (rs := [12]) (by kernel_rfl) (by simp) ?_
     refine VA.forall1 ?_
     ·
      refine VA.eff rfl ?_
      refine id (O.call0 ok47 rfl rfl (by decide) (send2_c i (F.fseq i) (Y1.sv i) (F.seen i) (Y1.nv i) (setN M F r 6 i) (hF1.ok (by omega) hi) (hH1.sc i hi) p m c l hl (by omega) r hr (fun e => hir e.symm) hmk (by have := hF.fs i; omega)) (fun _ ho hw => ⟨⟨Rd.row hw (by repeat (first | exact (hH1.sn i hi) | apply List.Mem.tail)), Rd.row hw (by repeat (first | exact (hH1.nx i hi) | apply List.Mem.tail))⟩, hrd _ ho⟩) ?_)
      intro x91_18 y91_18
      rcases x91_18 with _ | ⟨v, q1, q2, qd⟩
      ·
       have hsd := y91_18
       refine VA.next zB Cells.nil ?_
       refine VA.tk 13 rfl hS zB Cells.nil (Quiet.c (Q.move rfl)) ?_
       refine VA.tk 14 rfl hS zB Cells.nil (Quiet.c (Q.extract rfl rfl)) ?_
       refine VA.tk 15 rfl hS zB Cells.nil (Quiet.c (Q.extract rfl rfl)) ?_
       refine VA.tk 16 rfl hS zB Cells.nil (Quiet.c (Q.extract rfl rfl)) ?_
       refine VA.all (rs := [19]) (by kernel_rfl) (by simp) ?_
       refine VA.forall1 ?_
       ·
        refine VA.eff rfl ?_
        refine id (O.store ty55 rfl rfl rfl rfl zU zP ?_)
        refine VA.next zB Cells.nil ?_
        refine VA.all (rs := [20]) (by kernel_rfl) (by simp) ?_
        refine VA.forall1 ?_
        ·
         refine VA.eff rfl ?_
         refine id (O.store ty156 rfl rfl rfl rfl zU zP ?_)
         refine VA.next zB Cells.nil ?_
         refine VA.tk 21 rfl hS zB Cells.nil (Quiet.c (Q.assign rfl)) ?_
         refine VA.done (by kernel_rfl) ?_
         exact VK.fin hn0 (none, (g18_8, g19_8)) hsd
      ·
       have hsd := y91_18
       refine VA.next zB Cells.nil ?_
       refine VA.tk 13 rfl hS zB Cells.nil (Quiet.c (Q.move rfl)) ?_
       refine VA.tk 14 rfl hS zB Cells.nil (Quiet.c (Q.extract rfl rfl)) ?_
       refine VA.tk 15 rfl hS zB Cells.nil (Quiet.c (Q.extract rfl rfl)) ?_
       refine VA.tk 16 rfl hS zB Cells.nil (Quiet.c (Q.extract rfl rfl)) ?_
       refine VA.all (rs := [19]) (by kernel_rfl) (by simp) ?_
       refine VA.forall1 ?_
       ·
        refine VA.eff rfl ?_
        refine id (O.store ty55 rfl rfl rfl rfl zU zP ?_)
        refine VA.next zB Cells.nil ?_
        refine VA.all (rs := [20]) (by kernel_rfl) (by simp) ?_
        refine VA.forall1 ?_
        ·
         refine VA.eff rfl ?_
         refine id (O.store ty156 rfl rfl rfl rfl zU zP ?_)
         refine VA.next zB Cells.nil ?_
         refine VA.tk 21 rfl hS zB Cells.nil (Quiet.c (Q.assign rfl)) ?_
         refine VA.done (by kernel_rfl) ?_
         exact VK.fin hn0 (some (v, q1, q2, qd), (g18_8, g19_8)) hsd

theorem up_receive (i r : Nat) (W0 : World) (gs : List Nat) (g : Nat) (M : Core) (F : Fwd) (n : Nat) (hF : FInv n M F) (hF1 : FInv n M (setF M F r 6)) (hn : n ≤ 118) (hi : i < 6) (hr : r < 2) (p : Option Addr) (m c : Nat) (l : List UInt8) (hl : l.length = m) (hm : m ≤ 100) (g8 : Nat) (x : WS) (hHx : Held M (visF (setF M F r 6) i x.vis) x.Y x.R) (ha6 : x.a < 6) (hs4 : x.st ≤ 4) (hfa : x.f ≠ x.a) (hia : i ≠ x.a) (hFx : FInv (n + 1) M (visF (setF M F r 6) i x.vis)) (hfw : r ≠ x.a → 2 ≤ 31 - x.st ∧ (setN M F r 6 x.a r).isSome = true) (hmk2 : (i, (F.fseq i)) ∉ (visF (setF M F r 6) i x.vis).seen x.a) (pd2 : Option Addr) (cd2 g19 g24 : Nat) (QQ : Exit → Act → World → Prop) (hS : Still QQ) (hn0 : ∀ z : RW × (Nat × Nat), RWOk x.a i (F.fseq i) r m ((visF (setF M F r 6) i x.vis).seen x.a) (setN M F r 6 x.a) z.1 → VK W0 gs 200 (fun a W => QQ .normal a W) [(23, .int .i64 0), (27, .pointer (some ⟨z.2.1, 0, none⟩)), (28, .int .u8 (match z.1 with | .drop _ _ => 0 | .here _ _ _ => 1 | .fwd _ _ _ _ => 2)), (29, .pointer (some ⟨z.2.2, 0, none⟩)), (0, .pointer (some ⟨g, 0, none⟩)), (1, .int .i64 (i : Int)), (2, .int .i64 (r : Int)), (4, .slice p m c), (8, .pointer (some ⟨g8, 0, none⟩)), (19, .pointer (some ⟨g19, 0, none⟩)), (21, .int .i64 (x.st : Int)), (24, .pointer (some ⟨g24, 0, none⟩)), (26, .int .i64 (x.a : Int))] (match z.1 with | .drop _ _ => [] | .here q1 q2 qd => .blk z.2.1 [.int .u8 2, .int .u8 0, .int .u8 0, .int .u8 0, .int .u8 2, .int .u8 (x.a : Int), .int .i64 (((visF (setF M F r 6) i x.vis).fseq x.a) : Int), .slice q1.1 ((visF (setF M F r 6) i x.vis).seen x.a ++ [(i, (F.fseq i))]).length q1.2, .slice q2.1 (lst (setN M F r 6 x.a)).length q2.2] 55 :: .blk z.2.2 [.int .u8 2, .int .u8 0, .int .u8 0, .int .u8 0, .int .u8 2, .int .u8 (x.f : Int), .int .u8 2, .int .u8 0, .int .u8 0, .int .u8 0, .int .u8 2, .int .u8 (x.a : Int), .int .u8 2, .int .u8 0, .int .u8 0, .int .u8 0, .int .u8 2, .int .u8 (i : Int), .int .u8 2, .int .u8 0, .int .u8 0, .int .u8 0, .int .u8 2, .int .u8 (r : Int), .int .u8 2, .int .u8 0, .int .u8 0, .int .u8 0, .int .u8 2, .int .u8 (i : Int), .int .u8 2, .int .u8 9, .int .u8 9, .int .u8 9, .int .u8 9, .int .u8 9, .int .i64 ((F.fseq i) : Int), .int .i64 ((31 - x.st : Nat) : Int), .slice qd.1 m qd.2] 156 :: sRow q1 ((visF (setF M F r 6) i x.vis).seen x.a ++ [(i, (F.fseq i))]) :: nRow q2 (setN M F r 6 x.a) :: .row (.slice qd.1 m qd.2) 5 1 m (bs l) :: .blk g24 [.int .u8 2, .int .u8 0, .int .u8 0, .int .u8 0, .int .u8 2, .int .u8 (x.f : Int), .int .u8 2, .int .u8 0, .int .u8 0, .int .u8 0, .int .u8 2, .int .u8 (x.a : Int), .int .u8 2, .int .u8 0, .int .u8 0, .int .u8 0, .int .u8 2, .int .u8 (i : Int), .int .u8 2, .int .u8 0, .int .u8 0, .int .u8 0, .int .u8 2, .int .u8 (r : Int), .int .u8 2, .int .u8 0, .int .u8 0, .int .u8 0, .int .u8 2, .int .u8 (i : Int), .int .u8 2, .int .u8 9, .int .u8 9, .int .u8 9, .int .u8 9, .int .u8 9, .int .i64 ((F.fseq i) : Int), .int .i64 ((31 - x.st : Nat) : Int), .slice pd2 m cd2] 156 :: .row (.slice pd2 m cd2) 5 1 m (bs l) :: .blk g19 [.int .u8 2, .int .u8 0, .int .u8 0, .int .u8 0, .int .u8 2, .int .u8 (x.f : Int), .int .u8 2, .int .u8 0, .int .u8 0, .int .u8 0, .int .u8 2, .int .u8 (x.a : Int), .int .u8 2, .int .u8 0, .int .u8 0, .int .u8 0, .int .u8 2, .int .u8 (i : Int), .int .u8 2, .int .u8 0, .int .u8 0, .int .u8 0, .int .u8 2, .int .u8 (r : Int), .int .u8 2, .int .u8 0, .int .u8 0, .int .u8 0, .int .u8 2, .int .u8 (i : Int), .int .u8 2, .int .u8 9, .int .u8 9, .int .u8 9, .int .u8 9, .int .u8 9, .int .i64 ((F.fseq i) : Int), .int .i64 ((31 - x.st : Nat) : Int), .slice x.pd m x.cd] 156 :: .blk g8 [.int .u8 2, .int .u8 9, .int .u8 9, .int .u8 9, .int .u8 9, .int .u8 9] 44 :: mBlk g M (visF (setF M F r 6) i x.vis) x.Y :: mRow x.Y :: x.R | .fwd v q1 q2 qd => .blk z.2.1 [.int .u8 2, .int .u8 0, .int .u8 0, .int .u8 0, .int .u8 2, .int .u8 (x.a : Int), .int .i64 (((visF (setF M F r 6) i x.vis).fseq x.a) : Int), .slice q1.1 ((visF (setF M F r 6) i x.vis).seen x.a ++ [(i, (F.fseq i))]).length q1.2, .slice q2.1 (lst (setN M F r 6 x.a)).length q2.2] 55 :: .blk z.2.2 [.int .u8 2, .int .u8 0, .int .u8 0, .int .u8 0, .int .u8 2, .int .u8 (x.a : Int), .int .u8 2, .int .u8 0, .int .u8 0, .int .u8 0, .int .u8 2, .int .u8 (v : Int), .int .u8 2, .int .u8 0, .int .u8 0, .int .u8 0, .int .u8 2, .int .u8 (i : Int), .int .u8 2, .int .u8 0, .int .u8 0, .int .u8 0, .int .u8 2, .int .u8 (r : Int), .int .u8 2, .int .u8 0, .int .u8 0, .int .u8 0, .int .u8 2, .int .u8 (i : Int), .int .u8 2, .int .u8 9, .int .u8 9, .int .u8 9, .int .u8 9, .int .u8 9, .int .i64 ((F.fseq i) : Int), .int .i64 ((31 - x.st - 1 : Nat) : Int), .slice qd.1 m qd.2] 156 :: sRow q1 ((visF (setF M F r 6) i x.vis).seen x.a ++ [(i, (F.fseq i))]) :: nRow q2 (setN M F r 6 x.a) :: .row (.slice qd.1 m qd.2) 5 1 m (bs l) :: .blk g24 [.int .u8 2, .int .u8 0, .int .u8 0, .int .u8 0, .int .u8 2, .int .u8 (x.f : Int), .int .u8 2, .int .u8 0, .int .u8 0, .int .u8 0, .int .u8 2, .int .u8 (x.a : Int), .int .u8 2, .int .u8 0, .int .u8 0, .int .u8 0, .int .u8 2, .int .u8 (i : Int), .int .u8 2, .int .u8 0, .int .u8 0, .int .u8 0, .int .u8 2, .int .u8 (r : Int), .int .u8 2, .int .u8 0, .int .u8 0, .int .u8 0, .int .u8 2, .int .u8 (i : Int), .int .u8 2, .int .u8 9, .int .u8 9, .int .u8 9, .int .u8 9, .int .u8 9, .int .i64 ((F.fseq i) : Int), .int .i64 ((31 - x.st : Nat) : Int), .slice pd2 m cd2] 156 :: .row (.slice pd2 m cd2) 5 1 m (bs l) :: .blk g19 [.int .u8 2, .int .u8 0, .int .u8 0, .int .u8 0, .int .u8 2, .int .u8 (x.f : Int), .int .u8 2, .int .u8 0, .int .u8 0, .int .u8 0, .int .u8 2, .int .u8 (x.a : Int), .int .u8 2, .int .u8 0, .int .u8 0, .int .u8 0, .int .u8 2, .int .u8 (i : Int), .int .u8 2, .int .u8 0, .int .u8 0, .int .u8 0, .int .u8 2, .int .u8 (r : Int), .int .u8 2, .int .u8 0, .int .u8 0, .int .u8 0, .int .u8 2, .int .u8 (i : Int), .int .u8 2, .int .u8 9, .int .u8 9, .int .u8 9, .int .u8 9, .int .u8 9, .int .i64 ((F.fseq i) : Int), .int .i64 ((31 - x.st : Nat) : Int), .slice x.pd m x.cd] 156 :: .blk g8 [.int .u8 2, .int .u8 9, .int .u8 9, .int .u8 9, .int .u8 9, .int .u8 9] 44 :: mBlk g M (visF (setF M F r 6) i x.vis) x.Y :: mRow x.Y :: x.R)) :
  VK W0 gs 200 ((bodyAt Tryz.f11 [1, 1, 1, 1, 1, 1, 1, 1, 0, 1, 0, 0, 1, 0, 0, 1, 1, 1, 1, 0]).wp Tryz.prog QQ) [(0, .pointer (some ⟨g, 0, none⟩)), (1, .int .i64 (i : Int)), (2, .int .i64 (r : Int)), (4, .slice p m c), (8, .pointer (some ⟨g8, 0, none⟩)), (19, .pointer (some ⟨g19, 0, none⟩)), (21, .int .i64 (x.st : Int)), (24, .pointer (some ⟨g24, 0, none⟩)), (26, .int .i64 (x.a : Int))] (.blk g24 [.int .u8 2, .int .u8 0, .int .u8 0, .int .u8 0, .int .u8 2, .int .u8 (x.f : Int), .int .u8 2, .int .u8 0, .int .u8 0, .int .u8 0, .int .u8 2, .int .u8 (x.a : Int), .int .u8 2, .int .u8 0, .int .u8 0, .int .u8 0, .int .u8 2, .int .u8 (i : Int), .int .u8 2, .int .u8 0, .int .u8 0, .int .u8 0, .int .u8 2, .int .u8 (r : Int), .int .u8 2, .int .u8 0, .int .u8 0, .int .u8 0, .int .u8 2, .int .u8 (i : Int), .int .u8 2, .int .u8 9, .int .u8 9, .int .u8 9, .int .u8 9, .int .u8 9, .int .i64 ((F.fseq i) : Int), .int .i64 ((31 - x.st : Nat) : Int), .slice pd2 m cd2] 156 :: .row (.slice pd2 m cd2) 5 1 m (bs l) :: .blk g19 [.int .u8 2, .int .u8 0, .int .u8 0, .int .u8 0, .int .u8 2, .int .u8 (x.f : Int), .int .u8 2, .int .u8 0, .int .u8 0, .int .u8 0, .int .u8 2, .int .u8 (x.a : Int), .int .u8 2, .int .u8 0, .int .u8 0, .int .u8 0, .int .u8 2, .int .u8 (i : Int), .int .u8 2, .int .u8 0, .int .u8 0, .int .u8 0, .int .u8 2, .int .u8 (r : Int), .int .u8 2, .int .u8 0, .int .u8 0, .int .u8 0, .int .u8 2, .int .u8 (i : Int), .int .u8 2, .int .u8 9, .int .u8 9, .int .u8 9, .int .u8 9, .int .u8 9, .int .i64 ((F.fseq i) : Int), .int .i64 ((31 - x.st : Nat) : Int), .slice x.pd m x.cd] 156 :: .blk g8 [.int .u8 2, .int .u8 9, .int .u8 9, .int .u8 9, .int .u8 9, .int .u8 9] 44 :: mBlk g M (visF (setF M F r 6) i x.vis) x.Y :: mRow x.Y :: x.R) := by
 refine VA.start (Ls := [.blk g24 [.int .u8 2, .int .u8 0, .int .u8 0, .int .u8 0, .int .u8 2, .int .u8 (x.f : Int), .int .u8 2, .int .u8 0, .int .u8 0, .int .u8 0, .int .u8 2, .int .u8 (x.a : Int), .int .u8 2, .int .u8 0, .int .u8 0, .int .u8 0, .int .u8 2, .int .u8 (i : Int), .int .u8 2, .int .u8 0, .int .u8 0, .int .u8 0, .int .u8 2, .int .u8 (r : Int), .int .u8 2, .int .u8 0, .int .u8 0, .int .u8 0, .int .u8 2, .int .u8 (i : Int), .int .u8 2, .int .u8 9, .int .u8 9, .int .u8 9, .int .u8 9, .int .u8 9, .int .i64 ((F.fseq i) : Int), .int .i64 ((31 - x.st : Nat) : Int), .slice pd2 m cd2] 156, mBlk g M (visF (setF M F r 6) i x.vis) x.Y]) (Cs := []) mixed ?_
 refine VA.tk 0 rfl hS zB Cells.nil (Quiet.c (Q.move rfl)) ?_
 refine VA.tk 1 rfl hS zB Cells.nil (Quiet.c (Q.move rfl)) ?_
 refine VA.tk 2 rfl hS zB Cells.nil (Quiet.c (Q.nilCheck rfl)) ?_
 refine VA.tk 3 rfl hS zB Cells.nil (Quiet.c (Q.fieldAddr fa59_2 rfl)) ?_
 refine VA.tk 4 rfl hS zB Cells.nil (Quiet.c (Q.indexAddrA ar56 (j := x.a) rfl rfl rfl ha6)) ?_
 refine VA.tk 5 rfl hS zB Cells.nil (Quiet.c (Q.loadA (xs := fwdC (visF (setF M F r 6) i x.vis) x.Y x.a) ty55 rfl zM (mesh_fwd M (visF (setF M F r 6) i x.vis) x.Y ha6))) ?_
 refine VA.tk 6 rfl hS zB Cells.nil (Quiet.c (Q.loadA ty156 rfl zM zS)) ?_
 refine VA.all (rs := [7, 13, 14]) (by kernel_rfl) (by simp) ?_
 refine VA.forall3 ?_ ?_ ?_
 ·
  refine VA.eff rfl ?_
  refine id (O.call0 ok50 rfl rfl (by decide) (receive2_c x.a ((visF (setF M F r 6) i x.vis).fseq x.a) (x.Y.sv x.a) ((visF (setF M F r 6) i x.vis).seen x.a) (x.Y.nv x.a) (setN M F r 6 x.a) (hFx.ok (by omega) ha6) (hHx.sc x.a ha6) pd2 m cd2 l hl (by omega) x.f i r (F.fseq i) (31 - x.st) hfa hia (by have := hF.fs i; omega) (by omega) (seen_ln hFx ha6 (by omega)) hr hfw) (fun _ _ hw => ⟨⟨Rd.row hw (by repeat (first | exact (hHx.sn x.a ha6) | apply List.Mem.tail)), Rd.row hw (by repeat (first | exact (hHx.nx x.a ha6) | apply List.Mem.tail))⟩, Rd.row hw zM⟩) ?_)
  intro x142 y142
  rcases x142 with ⟨q1, q2⟩ | ⟨q1, q2, qd⟩ | ⟨v, q1, q2, qd⟩
  ·
   exact absurd (y142).1 hmk2
  ·
   have hrw := y142
   refine VA.next zB Cells.nil ?_
   refine VA.tk 8 rfl hS zB Cells.nil (Quiet.c (Q.move rfl)) ?_
   refine VA.tk 9 rfl hS zB Cells.nil (Quiet.c (Q.extract rfl rfl)) ?_
   refine VA.tk 10 rfl hS zB Cells.nil (Quiet.c (Q.extract rfl rfl)) ?_
   refine VA.tk 11 rfl hS zB Cells.nil (Quiet.c (Q.extract rfl rfl)) ?_
   refine VA.tk 12 rfl hS zB Cells.nil (Quiet.c (Q.extract rfl rfl)) ?_
   refine VA.all (rs := [13, 14]) (by kernel_rfl) (by simp) ?_
   refine VA.forall2 ?_ ?_
   ·
    refine VA.eff rfl ?_
    refine id (O.alloc zo55 (by decide) ?_)
    intro g27
    refine VA.next zB Cells.nil ?_
    refine VA.all (rs := [14]) (by kernel_rfl) (by simp) ?_
    refine VA.forall1 ?_
    ·
     refine VA.eff rfl ?_
     refine id (O.alloc zo156 (by decide) ?_)
     intro g29
     refine VA.next zB Cells.nil ?_
     refine VA.all (rs := [15]) (by kernel_rfl) (by simp) ?_
     refine VA.forall1 ?_
     ·
      refine VA.eff rfl ?_
      refine id (O.store ty55 rfl rfl rfl rfl zU zP ?_)
      refine VA.next zB Cells.nil ?_
      refine VA.tk 16 rfl hS zB Cells.nil (Quiet.c (Q.assign rfl)) ?_
      refine VA.all (rs := [17]) (by kernel_rfl) (by simp) ?_
      refine VA.forall1 ?_
      ·
       refine VA.eff rfl ?_
       refine id (O.store ty156 rfl rfl rfl rfl zU zP ?_)
       refine VA.next zB Cells.nil ?_
       refine VA.tk 18 rfl hS zB Cells.nil (Quiet.c (Q.assign rfl)) ?_
       refine VA.done (by kernel_rfl) ?_
       exact VK.fin hn0 (RW.here q1 q2 qd, (g27, g29)) hrw
   ·
    refine VA.eff rfl ?_
    refine id (O.alloc zo156 (by decide) ?_)
    intro g29_1
    refine VA.next zB Cells.nil ?_
    refine VA.all (rs := [13]) (by kernel_rfl) (by simp) ?_
    refine VA.forall1 ?_
    ·
     refine VA.eff rfl ?_
     refine id (O.alloc zo55 (by decide) ?_)
     intro g27_1
     refine VA.next zB Cells.nil ?_
     refine VA.all (rs := [15]) (by kernel_rfl) (by simp) ?_
     refine VA.forall1 ?_
     ·
      refine VA.eff rfl ?_
      refine id (O.store ty55 rfl rfl rfl rfl zU zP ?_)
      refine VA.next zB Cells.nil ?_
      refine VA.tk 16 rfl hS zB Cells.nil (Quiet.c (Q.assign rfl)) ?_
      refine VA.all (rs := [17]) (by kernel_rfl) (by simp) ?_
      refine VA.forall1 ?_
      ·
       refine VA.eff rfl ?_
       refine id (O.store ty156 rfl rfl rfl rfl zU zP ?_)
       refine VA.next zB Cells.nil ?_
       refine VA.tk 18 rfl hS zB Cells.nil (Quiet.c (Q.assign rfl)) ?_
       refine VA.done (by kernel_rfl) ?_
       exact VK.fin hn0 (RW.here q1 q2 qd, (g27_1, g29_1)) hrw
  ·
   have hrw := y142
   refine VA.next zB Cells.nil ?_
   refine VA.tk 8 rfl hS zB Cells.nil (Quiet.c (Q.move rfl)) ?_
   refine VA.tk 9 rfl hS zB Cells.nil (Quiet.c (Q.extract rfl rfl)) ?_
   refine VA.tk 10 rfl hS zB Cells.nil (Quiet.c (Q.extract rfl rfl)) ?_
   refine VA.tk 11 rfl hS zB Cells.nil (Quiet.c (Q.extract rfl rfl)) ?_
   refine VA.tk 12 rfl hS zB Cells.nil (Quiet.c (Q.extract rfl rfl)) ?_
   refine VA.all (rs := [13, 14]) (by kernel_rfl) (by simp) ?_
   refine VA.forall2 ?_ ?_
   ·
    refine VA.eff rfl ?_
    refine id (O.alloc zo55 (by decide) ?_)
    intro g27
    refine VA.next zB Cells.nil ?_
    refine VA.all (rs := [14]) (by kernel_rfl) (by simp) ?_
    refine VA.forall1 ?_
    ·
     refine VA.eff rfl ?_
     refine id (O.alloc zo156 (by decide) ?_)
     intro g29
     refine VA.next zB Cells.nil ?_
     refine VA.all (rs := [15]) (by kernel_rfl) (by simp) ?_
     refine VA.forall1 ?_
     ·
      refine VA.eff rfl ?_
      refine id (O.store ty55 rfl rfl rfl rfl zU zP ?_)
      refine VA.next zB Cells.nil ?_
      refine VA.tk 16 rfl hS zB Cells.nil (Quiet.c (Q.assign rfl)) ?_
      refine VA.all (rs := [17]) (by kernel_rfl) (by simp) ?_
      refine VA.forall1 ?_
      ·
       refine VA.eff rfl ?_
       refine id (O.store ty156 rfl rfl rfl rfl zU zP ?_)
       refine VA.next zB Cells.nil ?_
       refine VA.tk 18 rfl hS zB Cells.nil (Quiet.c (Q.assign rfl)) ?_
       refine VA.done (by kernel_rfl) ?_
       exact VK.fin hn0 (RW.fwd v q1 q2 qd, (g27, g29)) hrw
   ·
    refine VA.eff rfl ?_
    refine id (O.alloc zo156 (by decide) ?_)
    intro g29_1
    refine VA.next zB Cells.nil ?_
    refine VA.all (rs := [13]) (by kernel_rfl) (by simp) ?_
    refine VA.forall1 ?_
    ·
     refine VA.eff rfl ?_
     refine id (O.alloc zo55 (by decide) ?_)
     intro g27_1
     refine VA.next zB Cells.nil ?_
     refine VA.all (rs := [15]) (by kernel_rfl) (by simp) ?_
     refine VA.forall1 ?_
     ·
      refine VA.eff rfl ?_
      refine id (O.store ty55 rfl rfl rfl rfl zU zP ?_)
      refine VA.next zB Cells.nil ?_
      refine VA.tk 16 rfl hS zB Cells.nil (Quiet.c (Q.assign rfl)) ?_
      refine VA.all (rs := [17]) (by kernel_rfl) (by simp) ?_
      refine VA.forall1 ?_
      ·
       refine VA.eff rfl ?_
       refine id (O.store ty156 rfl rfl rfl rfl zU zP ?_)
       refine VA.next zB Cells.nil ?_
       refine VA.tk 18 rfl hS zB Cells.nil (Quiet.c (Q.assign rfl)) ?_
       refine VA.done (by kernel_rfl) ?_
       exact VK.fin hn0 (RW.fwd v q1 q2 qd, (g27_1, g29_1)) hrw
 ·
  refine VA.eff rfl ?_
  refine id (O.alloc zo55 (by decide) ?_)
  intro g27
  refine VA.next zB Cells.nil ?_
  refine VA.all (rs := [7, 14]) (by kernel_rfl) (by simp) ?_
  refine VA.forall2 ?_ ?_
  ·
   refine VA.eff rfl ?_
   refine id (O.call0 ok50 rfl rfl (by decide) (receive2_c x.a ((visF (setF M F r 6) i x.vis).fseq x.a) (x.Y.sv x.a) ((visF (setF M F r 6) i x.vis).seen x.a) (x.Y.nv x.a) (setN M F r 6 x.a) (hFx.ok (by omega) ha6) (hHx.sc x.a ha6) pd2 m cd2 l hl (by omega) x.f i r (F.fseq i) (31 - x.st) hfa hia (by have := hF.fs i; omega) (by omega) (seen_ln hFx ha6 (by omega)) hr hfw) (fun _ _ hw => ⟨⟨Rd.row hw (by repeat (first | exact (hHx.sn x.a ha6) | apply List.Mem.tail)), Rd.row hw (by repeat (first | exact (hHx.nx x.a ha6) | apply List.Mem.tail))⟩, Rd.row hw zM⟩) ?_)
   intro x142_1 y142_1
   rcases x142_1 with ⟨q1, q2⟩ | ⟨q1, q2, qd⟩ | ⟨v, q1, q2, qd⟩
   ·
    exact absurd (y142_1).1 hmk2
   ·
    have hrw := y142_1
    refine VA.next zB Cells.nil ?_
    refine VA.tk 8 rfl hS zB Cells.nil (Quiet.c (Q.move rfl)) ?_
    refine VA.tk 9 rfl hS zB Cells.nil (Quiet.c (Q.extract rfl rfl)) ?_
    refine VA.tk 10 rfl hS zB Cells.nil (Quiet.c (Q.extract rfl rfl)) ?_
    refine VA.tk 11 rfl hS zB Cells.nil (Quiet.c (Q.extract rfl rfl)) ?_
    refine VA.tk 12 rfl hS zB Cells.nil (Quiet.c (Q.extract rfl rfl)) ?_
    refine VA.all (rs := [14]) (by kernel_rfl) (by simp) ?_
    refine VA.forall1 ?_
    ·
     refine VA.eff rfl ?_
     refine id (O.alloc zo156 (by decide) ?_)
     intro g29
     refine VA.next zB Cells.nil ?_
     refine VA.all (rs := [15]) (by kernel_rfl) (by simp) ?_
     refine VA.forall1 ?_
     ·
      refine VA.eff rfl ?_
      refine id (O.store ty55 rfl rfl rfl rfl zU zP ?_)
      refine VA.next zB Cells.nil ?_
      refine VA.tk 16 rfl hS zB Cells.nil (Quiet.c (Q.assign rfl)) ?_
      refine VA.all (rs := [17]) (by kernel_rfl) (by simp) ?_
      refine VA.forall1 ?_
      ·
       refine VA.eff rfl ?_
       refine id (O.store ty156 rfl rfl rfl rfl zU zP ?_)
       refine VA.next zB Cells.nil ?_
       refine VA.tk 18 rfl hS zB Cells.nil (Quiet.c (Q.assign rfl)) ?_
       refine VA.done (by kernel_rfl) ?_
       exact VK.fin hn0 (RW.here q1 q2 qd, (g27, g29)) hrw
   ·
    have hrw := y142_1
    refine VA.next zB Cells.nil ?_
    refine VA.tk 8 rfl hS zB Cells.nil (Quiet.c (Q.move rfl)) ?_
    refine VA.tk 9 rfl hS zB Cells.nil (Quiet.c (Q.extract rfl rfl)) ?_
    refine VA.tk 10 rfl hS zB Cells.nil (Quiet.c (Q.extract rfl rfl)) ?_
    refine VA.tk 11 rfl hS zB Cells.nil (Quiet.c (Q.extract rfl rfl)) ?_
    refine VA.tk 12 rfl hS zB Cells.nil (Quiet.c (Q.extract rfl rfl)) ?_
    refine VA.all (rs := [14]) (by kernel_rfl) (by simp) ?_
    refine VA.forall1 ?_
    ·
     refine VA.eff rfl ?_
     refine id (O.alloc zo156 (by decide) ?_)
     intro g29
     refine VA.next zB Cells.nil ?_
     refine VA.all (rs := [15]) (by kernel_rfl) (by simp) ?_
     refine VA.forall1 ?_
     ·
      refine VA.eff rfl ?_
      refine id (O.store ty55 rfl rfl rfl rfl zU zP ?_)
      refine VA.next zB Cells.nil ?_
      refine VA.tk 16 rfl hS zB Cells.nil (Quiet.c (Q.assign rfl)) ?_
      refine VA.all (rs := [17]) (by kernel_rfl) (by simp) ?_
      refine VA.forall1 ?_
      ·
       refine VA.eff rfl ?_
       refine id (O.store ty156 rfl rfl rfl rfl zU zP ?_)
       refine VA.next zB Cells.nil ?_
       refine VA.tk 18 rfl hS zB Cells.nil (Quiet.c (Q.assign rfl)) ?_
       refine VA.done (by kernel_rfl) ?_
       exact VK.fin hn0 (RW.fwd v q1 q2 qd, (g27, g29)) hrw
  ·
   refine VA.eff rfl ?_
   refine id (O.alloc zo156 (by decide) ?_)
   intro g29
   refine VA.next zB Cells.nil ?_
   refine VA.all (rs := [7]) (by kernel_rfl) (by simp) ?_
   refine VA.forall1 ?_
   ·
    refine VA.eff rfl ?_
    refine id (O.call0 ok50 rfl rfl (by decide) (receive2_c x.a ((visF (setF M F r 6) i x.vis).fseq x.a) (x.Y.sv x.a) ((visF (setF M F r 6) i x.vis).seen x.a) (x.Y.nv x.a) (setN M F r 6 x.a) (hFx.ok (by omega) ha6) (hHx.sc x.a ha6) pd2 m cd2 l hl (by omega) x.f i r (F.fseq i) (31 - x.st) hfa hia (by have := hF.fs i; omega) (by omega) (seen_ln hFx ha6 (by omega)) hr hfw) (fun _ _ hw => ⟨⟨Rd.row hw (by repeat (first | exact (hHx.sn x.a ha6) | apply List.Mem.tail)), Rd.row hw (by repeat (first | exact (hHx.nx x.a ha6) | apply List.Mem.tail))⟩, Rd.row hw zM⟩) ?_)
    intro x142_2 y142_2
    rcases x142_2 with ⟨q1, q2⟩ | ⟨q1, q2, qd⟩ | ⟨v, q1, q2, qd⟩
    ·
     exact absurd (y142_2).1 hmk2
    ·
     have hrw := y142_2
     refine VA.next zB Cells.nil ?_
     refine VA.tk 8 rfl hS zB Cells.nil (Quiet.c (Q.move rfl)) ?_
     refine VA.tk 9 rfl hS zB Cells.nil (Quiet.c (Q.extract rfl rfl)) ?_
     refine VA.tk 10 rfl hS zB Cells.nil (Quiet.c (Q.extract rfl rfl)) ?_
     refine VA.tk 11 rfl hS zB Cells.nil (Quiet.c (Q.extract rfl rfl)) ?_
     refine VA.tk 12 rfl hS zB Cells.nil (Quiet.c (Q.extract rfl rfl)) ?_
     refine VA.all (rs := [15]) (by kernel_rfl) (by simp) ?_
     refine VA.forall1 ?_
     ·
      refine VA.eff rfl ?_
      refine id (O.store ty55 rfl rfl rfl rfl zU zP ?_)
      refine VA.next zB Cells.nil ?_
      refine VA.tk 16 rfl hS zB Cells.nil (Quiet.c (Q.assign rfl)) ?_
      refine VA.all (rs := [17]) (by kernel_rfl) (by simp) ?_
      refine VA.forall1 ?_
      ·
       refine VA.eff rfl ?_
       refine id (O.store ty156 rfl rfl rfl rfl zU zP ?_)
       refine VA.next zB Cells.nil ?_
       refine VA.tk 18 rfl hS zB Cells.nil (Quiet.c (Q.assign rfl)) ?_
       refine VA.done (by kernel_rfl) ?_
       exact VK.fin hn0 (RW.here q1 q2 qd, (g27, g29)) hrw
    ·
     have hrw := y142_2
     refine VA.next zB Cells.nil ?_
     refine VA.tk 8 rfl hS zB Cells.nil (Quiet.c (Q.move rfl)) ?_
     refine VA.tk 9 rfl hS zB Cells.nil (Quiet.c (Q.extract rfl rfl)) ?_
     refine VA.tk 10 rfl hS zB Cells.nil (Quiet.c (Q.extract rfl rfl)) ?_
     refine VA.tk 11 rfl hS zB Cells.nil (Quiet.c (Q.extract rfl rfl)) ?_
     refine VA.tk 12 rfl hS zB Cells.nil (Quiet.c (Q.extract rfl rfl)) ?_
     refine VA.all (rs := [15]) (by kernel_rfl) (by simp) ?_
     refine VA.forall1 ?_
     ·
      refine VA.eff rfl ?_
      refine id (O.store ty55 rfl rfl rfl rfl zU zP ?_)
      refine VA.next zB Cells.nil ?_
      refine VA.tk 16 rfl hS zB Cells.nil (Quiet.c (Q.assign rfl)) ?_
      refine VA.all (rs := [17]) (by kernel_rfl) (by simp) ?_
      refine VA.forall1 ?_
      ·
       refine VA.eff rfl ?_
       refine id (O.store ty156 rfl rfl rfl rfl zU zP ?_)
       refine VA.next zB Cells.nil ?_
       refine VA.tk 18 rfl hS zB Cells.nil (Quiet.c (Q.assign rfl)) ?_
       refine VA.done (by kernel_rfl) ?_
       exact VK.fin hn0 (RW.fwd v q1 q2 qd, (g27, g29)) hrw
 ·
  refine VA.eff rfl ?_
  refine id (O.alloc zo156 (by decide) ?_)
  intro g29_1
  refine VA.next zB Cells.nil ?_
  refine VA.all (rs := [7, 13]) (by kernel_rfl) (by simp) ?_
  refine VA.forall2 ?_ ?_
  ·
   refine VA.eff rfl ?_
   refine id (O.call0 ok50 rfl rfl (by decide) (receive2_c x.a ((visF (setF M F r 6) i x.vis).fseq x.a) (x.Y.sv x.a) ((visF (setF M F r 6) i x.vis).seen x.a) (x.Y.nv x.a) (setN M F r 6 x.a) (hFx.ok (by omega) ha6) (hHx.sc x.a ha6) pd2 m cd2 l hl (by omega) x.f i r (F.fseq i) (31 - x.st) hfa hia (by have := hF.fs i; omega) (by omega) (seen_ln hFx ha6 (by omega)) hr hfw) (fun _ _ hw => ⟨⟨Rd.row hw (by repeat (first | exact (hHx.sn x.a ha6) | apply List.Mem.tail)), Rd.row hw (by repeat (first | exact (hHx.nx x.a ha6) | apply List.Mem.tail))⟩, Rd.row hw zM⟩) ?_)
   intro x142_3 y142_3
   rcases x142_3 with ⟨q1, q2⟩ | ⟨q1, q2, qd⟩ | ⟨v, q1, q2, qd⟩
   ·
    exact absurd (y142_3).1 hmk2
   ·
    have hrw := y142_3
    refine VA.next zB Cells.nil ?_
    refine VA.tk 8 rfl hS zB Cells.nil (Quiet.c (Q.move rfl)) ?_
    refine VA.tk 9 rfl hS zB Cells.nil (Quiet.c (Q.extract rfl rfl)) ?_
    refine VA.tk 10 rfl hS zB Cells.nil (Quiet.c (Q.extract rfl rfl)) ?_
    refine VA.tk 11 rfl hS zB Cells.nil (Quiet.c (Q.extract rfl rfl)) ?_
    refine VA.tk 12 rfl hS zB Cells.nil (Quiet.c (Q.extract rfl rfl)) ?_
    refine VA.all (rs := [13]) (by kernel_rfl) (by simp) ?_
    refine VA.forall1 ?_
    ·
     refine VA.eff rfl ?_
     refine id (O.alloc zo55 (by decide) ?_)
     intro g27_1
     refine VA.next zB Cells.nil ?_
     refine VA.all (rs := [15]) (by kernel_rfl) (by simp) ?_
     refine VA.forall1 ?_
     ·
      refine VA.eff rfl ?_
      refine id (O.store ty55 rfl rfl rfl rfl zU zP ?_)
      refine VA.next zB Cells.nil ?_
      refine VA.tk 16 rfl hS zB Cells.nil (Quiet.c (Q.assign rfl)) ?_
      refine VA.all (rs := [17]) (by kernel_rfl) (by simp) ?_
      refine VA.forall1 ?_
      ·
       refine VA.eff rfl ?_
       refine id (O.store ty156 rfl rfl rfl rfl zU zP ?_)
       refine VA.next zB Cells.nil ?_
       refine VA.tk 18 rfl hS zB Cells.nil (Quiet.c (Q.assign rfl)) ?_
       refine VA.done (by kernel_rfl) ?_
       exact VK.fin hn0 (RW.here q1 q2 qd, (g27_1, g29_1)) hrw
   ·
    have hrw := y142_3
    refine VA.next zB Cells.nil ?_
    refine VA.tk 8 rfl hS zB Cells.nil (Quiet.c (Q.move rfl)) ?_
    refine VA.tk 9 rfl hS zB Cells.nil (Quiet.c (Q.extract rfl rfl)) ?_
    refine VA.tk 10 rfl hS zB Cells.nil (Quiet.c (Q.extract rfl rfl)) ?_
    refine VA.tk 11 rfl hS zB Cells.nil (Quiet.c (Q.extract rfl rfl)) ?_
    refine VA.tk 12 rfl hS zB Cells.nil (Quiet.c (Q.extract rfl rfl)) ?_
    refine VA.all (rs := [13]) (by kernel_rfl) (by simp) ?_
    refine VA.forall1 ?_
    ·
     refine VA.eff rfl ?_
     refine id (O.alloc zo55 (by decide) ?_)
     intro g27_1
     refine VA.next zB Cells.nil ?_
     refine VA.all (rs := [15]) (by kernel_rfl) (by simp) ?_
     refine VA.forall1 ?_
     ·
      refine VA.eff rfl ?_
      refine id (O.store ty55 rfl rfl rfl rfl zU zP ?_)
      refine VA.next zB Cells.nil ?_
      refine VA.tk 16 rfl hS zB Cells.nil (Quiet.c (Q.assign rfl)) ?_
      refine VA.all (rs := [17]) (by kernel_rfl) (by simp) ?_
      refine VA.forall1 ?_
      ·
       refine VA.eff rfl ?_
       refine id (O.store ty156 rfl rfl rfl rfl zU zP ?_)
       refine VA.next zB Cells.nil ?_
       refine VA.tk 18 rfl hS zB Cells.nil (Quiet.c (Q.assign rfl)) ?_
       refine VA.done (by kernel_rfl) ?_
       exact VK.fin hn0 (RW.fwd v q1 q2 qd, (g27_1, g29_1)) hrw
  ·
   refine VA.eff rfl ?_
   refine id (O.alloc zo55 (by decide) ?_)
   intro g27_1
   refine VA.next zB Cells.nil ?_
   refine VA.all (rs := [7]) (by kernel_rfl) (by simp) ?_
   refine VA.forall1 ?_
   ·
    refine VA.eff rfl ?_
    refine id (O.call0 ok50 rfl rfl (by decide) (receive2_c x.a ((visF (setF M F r 6) i x.vis).fseq x.a) (x.Y.sv x.a) ((visF (setF M F r 6) i x.vis).seen x.a) (x.Y.nv x.a) (setN M F r 6 x.a) (hFx.ok (by omega) ha6) (hHx.sc x.a ha6) pd2 m cd2 l hl (by omega) x.f i r (F.fseq i) (31 - x.st) hfa hia (by have := hF.fs i; omega) (by omega) (seen_ln hFx ha6 (by omega)) hr hfw) (fun _ _ hw => ⟨⟨Rd.row hw (by repeat (first | exact (hHx.sn x.a ha6) | apply List.Mem.tail)), Rd.row hw (by repeat (first | exact (hHx.nx x.a ha6) | apply List.Mem.tail))⟩, Rd.row hw zM⟩) ?_)
    intro x142_4 y142_4
    rcases x142_4 with ⟨q1, q2⟩ | ⟨q1, q2, qd⟩ | ⟨v, q1, q2, qd⟩
    ·
     exact absurd (y142_4).1 hmk2
    ·
     have hrw := y142_4
     refine VA.next zB Cells.nil ?_
     refine VA.tk 8 rfl hS zB Cells.nil (Quiet.c (Q.move rfl)) ?_
     refine VA.tk 9 rfl hS zB Cells.nil (Quiet.c (Q.extract rfl rfl)) ?_
     refine VA.tk 10 rfl hS zB Cells.nil (Quiet.c (Q.extract rfl rfl)) ?_
     refine VA.tk 11 rfl hS zB Cells.nil (Quiet.c (Q.extract rfl rfl)) ?_
     refine VA.tk 12 rfl hS zB Cells.nil (Quiet.c (Q.extract rfl rfl)) ?_
     refine VA.all (rs := [15]) (by kernel_rfl) (by simp) ?_
     refine VA.forall1 ?_
     ·
      refine VA.eff rfl ?_
      refine id (O.store ty55 rfl rfl rfl rfl zU zP ?_)
      refine VA.next zB Cells.nil ?_
      refine VA.tk 16 rfl hS zB Cells.nil (Quiet.c (Q.assign rfl)) ?_
      refine VA.all (rs := [17]) (by kernel_rfl) (by simp) ?_
      refine VA.forall1 ?_
      ·
       refine VA.eff rfl ?_
       refine id (O.store ty156 rfl rfl rfl rfl zU zP ?_)
       refine VA.next zB Cells.nil ?_
       refine VA.tk 18 rfl hS zB Cells.nil (Quiet.c (Q.assign rfl)) ?_
       refine VA.done (by kernel_rfl) ?_
       exact VK.fin hn0 (RW.here q1 q2 qd, (g27_1, g29_1)) hrw
    ·
     have hrw := y142_4
     refine VA.next zB Cells.nil ?_
     refine VA.tk 8 rfl hS zB Cells.nil (Quiet.c (Q.move rfl)) ?_
     refine VA.tk 9 rfl hS zB Cells.nil (Quiet.c (Q.extract rfl rfl)) ?_
     refine VA.tk 10 rfl hS zB Cells.nil (Quiet.c (Q.extract rfl rfl)) ?_
     refine VA.tk 11 rfl hS zB Cells.nil (Quiet.c (Q.extract rfl rfl)) ?_
     refine VA.tk 12 rfl hS zB Cells.nil (Quiet.c (Q.extract rfl rfl)) ?_
     refine VA.all (rs := [15]) (by kernel_rfl) (by simp) ?_
     refine VA.forall1 ?_
     ·
      refine VA.eff rfl ?_
      refine id (O.store ty55 rfl rfl rfl rfl zU zP ?_)
      refine VA.next zB Cells.nil ?_
      refine VA.tk 16 rfl hS zB Cells.nil (Quiet.c (Q.assign rfl)) ?_
      refine VA.all (rs := [17]) (by kernel_rfl) (by simp) ?_
      refine VA.forall1 ?_
      ·
       refine VA.eff rfl ?_
       refine id (O.store ty156 rfl rfl rfl rfl zU zP ?_)
       refine VA.next zB Cells.nil ?_
       refine VA.tk 18 rfl hS zB Cells.nil (Quiet.c (Q.assign rfl)) ?_
       refine VA.done (by kernel_rfl) ?_
       exact VK.fin hn0 (RW.fwd v q1 q2 qd, (g27_1, g29_1)) hrw

end Go.Proofs.YtencghlmckbmlaaGreat
