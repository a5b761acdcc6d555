/- The contracts of the moves of a script. Conditions: those that each bears. -/
import Derived.Test.YtencghlmckbmlaaGreatRows
import Derived.Test.YtencghlmckbmlaaGreatZGrow
namespace Go.Proofs.YtencghlmckbmlaaGreat
open Go Go.RowKit Go.Sx
set_option maxRecDepth 100000

theorem fa30_0 : tyField Tryz.prog 30 0 = some 0 := by kernel_rfl
theorem fa30_1 : tyField Tryz.prog 30 1 = some 1 := by kernel_rfl
theorem fa30_2 : tyField Tryz.prog 30 2 = some 2 := by kernel_rfl
theorem ok11 : okFunc Tryz.prog 11 = true := by kernel_rfl
theorem ok12 : okFunc Tryz.prog 12 = true := by kernel_rfl
theorem ok13 : okFunc Tryz.prog 13 = true := by kernel_rfl
theorem ok8 : okFunc Tryz.prog 8 = true := by kernel_rfl
theorem sl24 : tySlice Tryz.prog 24 = some (30, 3, 24) := by kernel_rfl

open Go.Mesh
section
variable {W0 : World} {gs : List Nat} {n : Nat} {E : List (Nat × Value)} {L : List Rs} {K : Act → World → Prop}
/-- What is owned was given or is new. -/
theorem VK.fresh (h : (∀ j ∈ L.flatMap Rs.ids, j ∈ gs ∨ W0.heap.size ≤ j) → VK W0 gs n K E L) : VK W0 gs n K E L := fun a W s => h s.fresh a W s
end
/-- a move of the script -/
structure Mv where
  kind : Int
  wait : Int
  n : Int
def mvC (m : Mv) : List Value := [.int .u8 m.kind, .int .i64 m.wait, .int .i64 m.n]
theorem mvC_len (m : Mv) : (mvC m).length = 3 := rfl
def MvOk (m : Mv) : Prop := 0 ≤ m.wait ∧ m.wait ≤ 1000000 ∧ 0 ≤ m.n ∧ m.n ≤ 9223372036854775807
def later (M : Core) (w : Nat) : Core := { M with now := M.now + w }
theorem later_imp (M : Core) (w : Nat) : Imp M (later M w) := ⟨rfl, fun _ => Nat.le_refl _, fun _ _ _ _ h => h⟩
theorem inv_later {k : Nat} {M : Core} (h : Inv k M) {w : Nat} (hw : w ≤ 1000000) : Inv (k + 1) (later M w) where
  csym := h.csym
  cdiag := h.cdiag
  cmax := h.cmax
  tree := fun i hi r hr t ht => (h.tree i hi r hr t ht).imp (later_imp M w)
  mail := fun x hx => (h.mail x hx).imp (later_imp M w)
  spr := h.spr
  roots := h.roots
  rs := fun i => Nat.le_succ_of_le (h.rs i)
  now := by
    have := h.now
    show M.now + w ≤ (k + 1) * 1000000
    omega
theorem inv_up {k k' : Nat} {M : Core} (h : Inv k M) (hk : k ≤ k') : Inv k' M := ⟨h.csym, h.cdiag, h.cmax, h.tree, h.mail, h.spr, h.roots, fun i => Nat.le_trans (h.rs i) hk, Nat.le_trans h.now (Nat.mul_le_mul_right _ hk)⟩
theorem Held.later {M : Core} {F : Fwd} {Y : Lay} {R : List Rs} (h : Held M F Y R) (w : Nat) : Held (later M w) F Y R := ⟨h.tr, h.sn, h.sc, h.nx, h.bd, h.ml⟩
theorem FInv.later {n : Nat} {M : Core} {F : Fwd} (h : FInv n M F) (w : Nat) : FInv n (later M w) F := h.core fun _ _ e => e
structure MS where
  i : Nat
  M : Core
  F : Fwd
  Y : Lay
  R : List Rs
structure MI (n : Nat) (x : MS) : Prop where
  le : x.i ≤ n
  inv : Inv (2 * x.i) x.M
  held : Held x.M x.F x.Y x.R
  fwd : FInv x.i x.M x.F
  mail : x.Y.mail.length ≤ 6 * x.i
theorem held_mail {M : Core} {F F' : Fwd} {Y Y' : Lay} {R R' : List Rs} (h : Held M F Y R) (h' : Held M F' Y' R') : Y'.mail.length = Y.mail.length := by
  have e1 := congrArg List.length h.ml
  have e2 := congrArg List.length h'.ml
  rw [List.length_map] at e1 e2
  omega
theorem dis {L : List Rs} {r : Rs} {n : Nat} {p : Option Addr} (hf : ∀ j ∈ (r :: L).flatMap Rs.ids, j ∈ ([] : List Nat) ∨ n ≤ j) (hp : ∀ x, p = some x → x.block < n) : ∀ x, p = some x → x.block ∉ L.flatMap Rs.ids := fun x hx hm => by
  have h1 := hp x hx
  rcases hf x.block (by rw [List.flatMap_cons]; exact List.mem_append_right _ hm) with h | h
  · cases h
  · omega

theorem tame_c (p : Option Addr) (c : Nat) (moves : List Mv) (hb : ∀ m ∈ moves, m.n ≤ 9223372036854775807) (hl : moves.length ≤ 9223372036854775807) :
  Does Tryz.prog 6 [.slice p moves.length c, .int .i64 100] [] (fun W => Rd W p (moves.flatMap mvC)) (X := Bool) (fun b => b = true → (∀ m ∈ moves, MvOk m) ∧ moves.length ≤ 100) (fun b => .bool b) (fun _ => []) := by
 refine Does.enter Tryz.func6 rfl (m := 44) rfl (by simp) ?_
 intro W0 hrd
 refine VC.seq ?_
 refine VC.region ?_
 refine VL.q (Q.assign rfl) ?_
 refine VL.nil ?_
 refine VE.seq ?_
 refine VC.seq ?_
 refine VC.seq ?_
 refine VC.region ?_
 refine VL.q (Q.assign rfl) ?_
 refine VL.nil ?_
 refine VE.seq ?_
 refine VC.block ?_
 refine VC.loopK (X := Nat) (fun i => [(0, .slice p moves.length c), (1, .int .i64 100), (5, .int .i64 (i : Int))]) (fun i => i ≤ moves.length ∧ ∀ m ∈ moves.take i, MvOk m) (fun i => moves.length - i) 0 ⟨Nat.zero_le _, fun m hm => by cases hm⟩ ?_ ?_
 ·
  exact VS.mk zE zB
 ·
  intro i hx
  obtain ⟨hi, hall⟩ := hx
  refine VC.seq ?_
  refine VC.seq ?_
  refine VC.region ?_
  refine VL.q (Q.move rfl) ?_
  refine VL.q (Q.move rfl) ?_
  refine VL.q (Q.len sl24 rfl) ?_
  refine VL.q (Q.lt rfl rfl) ?_
  refine VL.q (Q.move rfl) ?_
  refine VK.case 10 rfl ?_ ?_
  ·
   intro h10
   have hlt : i < moves.length := by have := of_decide_eq_true h10; omega
   obtain ⟨b0, o0, rfl⟩ := hrd.pos (by rw [fm_length mvC_len]; omega)
   refine VL.yes rfl rfl ?_
   refine VL.q (Q.move rfl) ?_
   refine VL.yes rfl rfl ?_
   refine VL.q (Q.len sl24 rfl) ?_
   refine VL.yes rfl rfl ?_
   refine VL.q (Q.move rfl) ?_
   refine VL.yes rfl rfl ?_
   refine VL.q (Q.le rfl rfl) ?_
   refine VL.q (Q.pick_true rfl rfl) ?_
   refine VL.nil ?_
   refine VE.seq ?_
   refine VC.cond rfl ?_ ?_
   ·
    intro h15
    refine VC.skip ?_
    refine VE.seq ?_
    refine VC.seq ?_
    refine VC.block ?_
    refine VC.seq ?_
    refine VC.region ?_
    refine VL.q (Q.move rfl) ?_
    refine VL.q (Q.move rfl) ?_
    refine VL.q (Q.indexAddr sl24 (j := i) rfl rfl rfl hlt) ?_
    refine VL.q (Q.fieldAddr fa30_1 rfl) ?_
    refine VL.q (Q.load0 ty3 rfl (Rd.cell hrd (fm_get mvC_len moves i hlt 1 _ rfl)) (by simp)) ?_
    refine VL.q (Q.lt rfl rfl) ?_
    refine VL.q (Q.move rfl) ?_
    refine VK.case 24 rfl ?_ ?_
    ·
     intro h24
     refine VL.no (by simp) rfl rfl (.inl rfl) ?_
     refine VL.no (by simp) rfl rfl (.inl rfl) ?_
     refine VL.no (by simp) rfl rfl (.inl rfl) ?_
     refine VL.no (by simp) rfl rfl (.inl rfl) ?_
     refine VL.no (by simp) rfl rfl (.inl rfl) ?_
     refine VL.no (by simp) rfl rfl (.inl rfl) ?_
     refine VL.quietE (v' := .bool true) (by decide) (Q.pick_true rfl rfl) (by rfl) ?_
     refine VL.q (Q.move rfl) ?_
     refine VL.no (by simp) rfl rfl (.inl rfl) ?_
     refine VL.no (by simp) rfl rfl (.inl rfl) ?_
     refine VL.no (by simp) rfl rfl (.inl rfl) ?_
     refine VL.no (by simp) rfl rfl (.inl rfl) ?_
     refine VL.no (by simp) rfl rfl (.inl rfl) ?_
     refine VL.no (by simp) rfl rfl (.inl rfl) ?_
     refine VL.quietE (v' := .bool true) (by decide) (Q.pick_true rfl rfl) (by rfl) ?_
     refine VL.nil ?_
     refine VE.seq ?_
     refine VC.condT rfl ?_
     refine VC.seq ?_
     refine VC.region ?_
     refine VL.q (Q.assign rfl) ?_
     refine VL.nil ?_
     refine VE.seq ?_
     refine VC.ret ?_
     refine VE.block_ret ?_
     refine VE.then_ret ?_
     refine VE.then_ret ?_
     refine VE.block_ret ?_
     refine VE.then_ret ?_
     exact VE.ret rfl (.tmp rfl .nil) false (fun h => by cases h) rfl (List.nil_sublist _)
    ·
     intro h24
     refine VL.yes rfl rfl ?_
     refine VL.q (Q.move rfl) ?_
     refine VL.yes rfl rfl ?_
     refine VL.q (Q.move rfl) ?_
     refine VL.yes rfl rfl ?_
     refine VL.q (Q.indexAddr sl24 (j := i) rfl rfl rfl hlt) ?_
     refine VL.yes rfl rfl ?_
     refine VL.q (Q.fieldAddr fa30_1 rfl) ?_
     refine VL.yes rfl rfl ?_
     refine VL.q (Q.load0 ty3 rfl (Rd.cell hrd (fm_get mvC_len moves i hlt 1 _ rfl)) (by simp)) ?_
     refine VL.yes rfl rfl ?_
     refine VL.q (Q.gt rfl rfl) ?_
     refine VL.q (Q.pick_false rfl rfl) ?_
     refine VL.q (Q.move rfl) ?_
     refine VK.case 32 rfl ?_ ?_
     ·
      intro h32
      refine VL.no (by simp) rfl rfl (.inl rfl) ?_
      refine VL.no (by simp) rfl rfl (.inl rfl) ?_
      refine VL.no (by simp) rfl rfl (.inl rfl) ?_
      refine VL.no (by simp) rfl rfl (.inl rfl) ?_
      refine VL.no (by simp) rfl rfl (.inl rfl) ?_
      refine VL.no (by simp) rfl rfl (.inl rfl) ?_
      refine VL.quietE (v' := .bool true) (by decide) (Q.pick_true rfl rfl) (by rfl) ?_
      refine VL.nil ?_
      refine VE.seq ?_
      refine VC.condT rfl ?_
      refine VC.seq ?_
      refine VC.region ?_
      refine VL.q (Q.assign rfl) ?_
      refine VL.nil ?_
      refine VE.seq ?_
      refine VC.ret ?_
      refine VE.block_ret ?_
      refine VE.then_ret ?_
      refine VE.then_ret ?_
      refine VE.block_ret ?_
      refine VE.then_ret ?_
      exact VE.ret rfl (.tmp rfl .nil) false (fun h => by cases h) rfl (List.nil_sublist _)
     ·
      intro h32
      refine VL.yes rfl rfl ?_
      refine VL.q (Q.move rfl) ?_
      refine VL.yes rfl rfl ?_
      refine VL.q (Q.move rfl) ?_
      refine VL.yes rfl rfl ?_
      refine VL.q (Q.indexAddr sl24 (j := i) rfl rfl rfl hlt) ?_
      refine VL.yes rfl rfl ?_
      refine VL.q (Q.fieldAddr fa30_2 rfl) ?_
      refine VL.yes rfl rfl ?_
      refine VL.q (Q.load0 ty3 rfl (Rd.cell hrd (fm_get mvC_len moves i hlt 2 _ rfl)) (by simp)) ?_
      refine VL.yes rfl rfl ?_
      refine VL.q (Q.lt rfl rfl) ?_
      refine VL.q (Q.pick_false rfl rfl) ?_
      refine VL.nil ?_
      refine VE.seq ?_
      refine VC.cond rfl ?_ ?_
      ·
       intro h39
       refine VC.seq ?_
       refine VC.region ?_
       refine VL.q (Q.assign rfl) ?_
       refine VL.nil ?_
       refine VE.seq ?_
       refine VC.ret ?_
       refine VE.block_ret ?_
       refine VE.then_ret ?_
       refine VE.then_ret ?_
       refine VE.block_ret ?_
       refine VE.then_ret ?_
       exact VE.ret rfl (.tmp rfl .nil) false (fun h => by cases h) rfl (List.nil_sublist _)
      ·
       intro h39
       refine VC.skip ?_
       refine VE.block_normal ?_
       refine VE.seq ?_
       refine VC.region ?_
       refine VL.q (Q.move rfl) ?_
       refine VL.q ((by first | exact Q.addI rfl rfl (by omega) (by omega) | exact Q.add rfl rfl)) ?_
       refine VL.q (Q.assign rfl) ?_
       refine VL.nil ?_
       refine VE.then_normal ?_
       exact VE.roundK (i + 1) ⟨by omega, fun m hm => by
        rw [List.take_add_one, List.getElem?_eq_getElem hlt] at hm
        rcases List.mem_append.1 hm with hm | hm
        ·
         exact hall m hm
        ·
         rw [show m = moves[i] from by simpa using hm]
         exact ⟨by have := of_decide_eq_false h24; omega, by have := of_decide_eq_false h32; omega, by have := of_decide_eq_false h39; omega, hb _ (List.getElem_mem hlt)⟩⟩ (by omega) zE (List.Sublist.refl _)
   ·
    intro h15
    refine VC.exit ?_
    refine VE.then_exit ?_
    refine VE.then_exit ?_
    refine VE.block_here ?_
    refine VE.seq ?_
    refine VC.seq ?_
    refine VC.region ?_
    refine VL.q (Q.move rfl) ?_
    refine VL.q (Q.len sl24 rfl) ?_
    refine VL.q (Q.move rfl) ?_
    refine VL.q (Q.le rfl rfl) ?_
    refine VL.q (Q.assign rfl) ?_
    refine VL.nil ?_
    refine VE.seq ?_
    refine VC.ret ?_
    exact VE.ret rfl (.tmp rfl .nil) _ (fun h => by
     have h2 := of_decide_eq_true h
     have h3 := of_decide_eq_false h15
     exfalso
     omega) rfl (List.nil_sublist _)
  ·
   intro h10
   have hge : i = moves.length := by have := of_decide_eq_false h10; omega
   refine VL.no (by simp) rfl rfl (.inl rfl) ?_
   refine VL.no (by simp) rfl rfl (.inl rfl) ?_
   refine VL.no (by simp) rfl rfl (.inl rfl) ?_
   refine VL.no (by simp) rfl rfl (.inl rfl) ?_
   refine VL.quietE (v' := .bool false) (by decide) (Q.pick_false rfl rfl) (by rfl) ?_
   refine VL.nil ?_
   refine VE.seq ?_
   refine VC.condF rfl ?_
   refine VC.exit ?_
   refine VE.then_exit ?_
   refine VE.then_exit ?_
   refine VE.block_here ?_
   refine VE.seq ?_
   refine VC.seq ?_
   refine VC.region ?_
   refine VL.q (Q.move rfl) ?_
   refine VL.q (Q.len sl24 rfl) ?_
   refine VL.q (Q.move rfl) ?_
   refine VL.q (Q.le rfl rfl) ?_
   refine VL.q (Q.assign rfl) ?_
   refine VL.nil ?_
   refine VE.seq ?_
   refine VC.ret ?_
   exact VE.ret rfl (.tmp rfl .nil) _ (fun h => by
    have h2 := of_decide_eq_true h
    refine ⟨fun m hm => hall m ?_, by omega⟩
    rw [hge, List.take_length]
    exact hm) rfl (List.nil_sublist _)

theorem steps_c (p : Option Addr) (c : Nat) (links : List Link) (hb : ∀ l ∈ links, LinkOk l) (hll : links.length ≤ 1000) (pd : Option Addr) (m cd : Nat) (l : List UInt8) (hl : l.length = m) (hm : m ≤ 100) (pm : Option Addr) (cm : Nat) (moves : List Mv) (hmv : ∀ v ∈ moves, MvOk v) (hml : moves.length ≤ 100) :
  Does Tryz.prog 5 [.slice p links.length c, .slice pd m cd, .slice pm moves.length cm] [] (fun W => Rd W p (links.flatMap linkC) ∧ Rd W pd (bs l) ∧ Rd W pm (moves.flatMap mvC) ∧ ∀ x, pd = some x → x.block < W.heap.size) (X := Unit) (fun _ => True) (fun _ => .bool true) (fun _ => []) := by
 refine Does.enter Tryz.func5 rfl (m := 129) rfl (by simp) ?_
 rintro W0 ⟨hrd, hrdd, hrdm, hpd⟩
 refine VC.seq ?_
 refine VC.region ?_
 refine VL.q (Q.assign rfl) ?_
 refine VL.nil ?_
 refine VE.seq ?_
 refine VC.seq ?_
 refine VC.region ?_
 refine VL.q (Q.move rfl) ?_
 refine VL.eff (O.call0 ok8 rfl rfl (by decide) (grown_c p c links hb hll) (fun _ ho _ => hrd.only0 ho) ?_)
 intro x17 y17
 obtain ⟨g, cst⟩ := x17
 have hcst : CostOk cst := y17
 refine VL.q (Q.move rfl) ?_
 refine VL.q (Q.extract rfl rfl) ?_
 refine VL.q (Q.extract rfl rfl) ?_
 refine VL.q (Q.assign rfl) ?_
 refine VL.q (Q.assign rfl) ?_
 refine VL.nil ?_
 refine VE.seq ?_
 refine VC.seq ?_
 refine VC.seq ?_
 refine VC.region ?_
 refine VL.q (Q.move rfl) ?_
 refine VL.quietE (v' := .bool false) (by decide) (Q.not rfl) (by rfl) ?_
 refine VL.nil ?_
 refine VE.seq ?_
 refine VC.condF rfl ?_
 refine VC.skip ?_
 refine VE.seq ?_
 refine VC.seq ?_
 refine VC.region ?_
 refine VL.q (Q.build lay44 zF) ?_
 refine VL.eff (O.alloc zo44 (by decide) ?_)
 intro g9
 refine VL.eff (O.store ty44 rfl rfl rfl rfl zU zP ?_)
 refine VL.nil ?_
 refine VE.seq ?_
 refine VC.seq ?_
 refine VC.seq ?_
 refine VC.region ?_
 refine VL.q (Q.assign rfl) ?_
 refine VL.nil ?_
 refine VE.seq ?_
 refine VC.block ?_
 refine VC.loop (X := MS) (fun x => [(1, .slice pd m cd), (2, .slice pm moves.length cm), (7, .pointer (some ⟨g, 0, none⟩)), (9, .pointer (some ⟨g9, 0, none⟩)), (10, .int .i64 (x.i : Int))]) (fun x => (.blk g9 [.int .u8 2, .int .u8 9, .int .u8 9, .int .u8 9, .int .u8 9, .int .u8 9] 44 :: mBlk g x.M x.F x.Y :: mRow x.Y :: x.R)) (fun x => MI moves.length x) (fun x => moves.length - x.i) ⟨0, costM cst, F0, Y0, R0⟩ ⟨Nat.zero_le _, grown_inv hcst, grown_held cst, grown_fwd cst, Nat.le_refl _⟩ ?_ ?_
 ·
  exact VS.mk zE (List.Sublist.refl _)
 ·
  intro x hx
  have hxi := hx.le
  have hnow := hx.inv.now
  have hxm := hx.mail
  refine VK.fresh fun hfr => ?_
  refine VC.seq ?_
  refine VC.seq ?_
  refine VC.region ?_
  refine VL.q (Q.move rfl) ?_
  refine VL.q (Q.move rfl) ?_
  refine VL.q (Q.len sl24 rfl) ?_
  refine VL.q (Q.lt rfl rfl) ?_
  refine VL.nil ?_
  refine VE.seq ?_
  refine VC.cond rfl ?_ ?_
  ·
   intro h26
   have hlt : x.i < moves.length := by have := of_decide_eq_true h26; omega
   obtain ⟨b0, o0, rfl⟩ := hrdm.pos (by rw [fm_length mvC_len]; omega)
   obtain ⟨hv1, hv2, hv3, hv4⟩ := hmv moves[x.i] (List.getElem_mem hlt)
   obtain ⟨w, hw⟩ := Int.eq_ofNat_of_zero_le hv1
   obtain ⟨N, hN⟩ := Int.eq_ofNat_of_zero_le hv3
   have hI1 : Inv (2 * x.i + 1) (later x.M w) := inv_later hx.inv (by omega)
   have hH1 := hx.held.later w
   have hF1 := hx.fwd.later w
   refine VC.skip ?_
   refine VE.seq ?_
   refine VC.seq ?_
   refine VC.block ?_
   refine VC.seq ?_
   refine VC.region ?_
   refine VL.q (Q.move rfl) ?_
   refine VL.q (Q.move rfl) ?_
   refine VL.q (Q.indexAddr sl24 (j := x.i) rfl rfl rfl hlt) ?_
   refine VL.q (Q.fieldAddr fa30_2 rfl) ?_
   refine VL.q (Q.load0 ty3 rfl (Rd.cell hrdm (fm_get mvC_len moves x.i hlt 2 _ (congrArg (fun z => some (Value.int .i64 z)) hN))) (by simp)) ?_
   refine VL.q (Q.assign rfl) ?_
   refine VL.nil ?_
   refine VE.seq ?_
   refine VC.seq ?_
   refine VA.start (Ls := []) (Cs := []) mixed ?_
   refine VA.tk 0 rfl (zt (zb (zttb (zt ze)))) (List.nil_sublist _) Cells.nil (Quiet.c (Q.move rfl)) ?_
   refine VA.tk 1 rfl (zt (zb (zttb (zt ze)))) (List.nil_sublist _) Cells.nil (Quiet.c (Q.move rfl)) ?_
   refine VA.tk 2 rfl (zt (zb (zttb (zt ze)))) (List.nil_sublist _) Cells.nil (Quiet.c (Q.nilCheck rfl)) ?_
   refine VA.tk 3 rfl (zt (zb (zttb (zt ze)))) (List.nil_sublist _) Cells.nil (Quiet.c (Q.fieldAddr fa59_4 rfl)) ?_
   refine VA.tk 5 rfl (zt (zb (zttb (zt ze)))) (List.nil_sublist _) Cells.nil (Quiet.c (Q.move rfl)) ?_
   refine VA.tk 6 rfl (zt (zb (zttb (zt ze)))) (List.nil_sublist _) Cells.nil (Quiet.c (Q.move rfl)) ?_
   refine VA.tk 7 rfl (zt (zb (zttb (zt ze)))) (List.nil_sublist _) Cells.nil (Quiet.c (Q.indexAddr sl24 (j := x.i) rfl rfl rfl hlt)) ?_
   refine VA.tk 8 rfl (zt (zb (zttb (zt ze)))) (List.nil_sublist _) Cells.nil (Quiet.c (Q.fieldAddr fa30_1 rfl)) ?_
   refine VA.tk 9 rfl (zt (zb (zttb (zt ze)))) (List.nil_sublist _) Cells.nil (Quiet.c (Q.load0 ty3 rfl (Rd.cell hrdm (fm_get mvC_len moves x.i hlt 1 _ (congrArg (fun z => some (Value.int .i64 z)) hw))) (by simp))) ?_
   refine VA.all (rs := [4]) (by kernel_rfl) (by simp) ?_
   refine VA.forall1 ?_
   ·
    refine VA.eff rfl ?_
    refine O.quiet (by decide) (Q.load1 ty3 rfl zM (mesh_now _ _ _)) ?_
    refine VA.next (List.nil_sublist _) Cells.nil ?_
    refine VA.tk 10 rfl (zt (zb (zttb (zt ze)))) (List.nil_sublist _) Cells.nil (Quiet.c (Quiet.to (v' := .int .i64 ((x.M.now + w : Nat) : Int)) ((by first | exact Q.addI rfl rfl (by omega) (by omega) | exact Q.add rfl rfl)) (by rfl))) ?_
    refine VA.tk 11 rfl (zt (zb (zttb (zt ze)))) (List.nil_sublist _) Cells.nil (Quiet.c (Q.nilCheck rfl)) ?_
    refine VA.tk 12 rfl (zt (zb (zttb (zt ze)))) (List.nil_sublist _) Cells.nil (Quiet.c (Q.fieldAddr fa59_4 rfl)) ?_
    refine VA.all (rs := [13]) (by kernel_rfl) (by simp) ?_
    refine VA.forall1 ?_
    ·
     refine VA.eff rfl ?_
     refine id (O.store (xs := [.int .i64 ((x.M.now + w : Nat) : Int)]) (C := meshC x.M x.F x.Y) (C' := meshC (later x.M w) x.F x.Y) ty3 rfl rfl rfl rfl zU (mesh_put_now (M := x.M) (M' := later x.M w) rfl rfl rfl) ?_)
     generalize later x.M w = M1 at *
     refine VA.next (List.nil_sublist _) Cells.nil ?_
     refine VA.done (by kernel_rfl) ?_
     refine VE.seq ?_
     refine VC.seq ?_
     refine VC.block ?_
     refine VC.seq ?_
     refine VC.region ?_
     refine VL.q (Q.move rfl) ?_
     refine VL.q (Q.move rfl) ?_
     refine VL.q (Q.indexAddr sl24 (j := x.i) rfl rfl rfl hlt) ?_
     refine VL.q (Q.fieldAddr fa30_0 rfl) ?_
     refine VL.q (Q.load0 ty5 rfl (Rd.cell hrdm (fm_get mvC_len moves x.i hlt 0 _ rfl)) (by simp)) ?_
     refine VL.q (Q.eq rfl rfl) ?_
     refine VL.q (Q.assign rfl) ?_
     refine VL.nil ?_
     refine VE.seq ?_
     refine VC.cond rfl ?_ ?_
     ·
      intro h57
      refine VC.seq ?_
      refine VC.region ?_
      refine VL.q (Q.move rfl) ?_
      refine VL.q (Q.move rfl) ?_
      refine VL.quietE (v' := .int .i64 ((N % 2 : Nat) : Int)) (by decide) (Q.rem rfl rfl (by omega) (by omega)) (by rfl) ?_
      refine VL.eff (O.callF ok9 rfl rfl (by decide) (mannounce2_c g M1 x.F x.Y x.R (2 * x.i + 1) hI1 (by omega) hH1 (by omega) (N % 2) (Nat.mod_lt _ (by decide))) zM2 (fun _ _ _ => trivial) ?_)
      intro x67 y67
      obtain ⟨Y2, R2⟩ := x67
      have hH2 : Held (ann M1 (N % 2)) x.F Y2 R2 := (y67).1
      have hL2 : Y2.mail.length ≤ 6 * (x.i + 1) := by have : Y2.mail.length ≤ x.Y.mail.length + 6 := (y67).2; omega
      have hI2 : Inv (2 * (x.i + 1)) (ann M1 (N % 2)) := inv_up (hI1.ann (Nat.mod_lt N (by decide))) (by omega)
      have hF2 : FInv (x.i + 1) (ann M1 (N % 2)) x.F := FInv.mono (n := x.i) (FInv.core (M' := ann M1 (N % 2)) hF1 fun _ _ e => e) (Nat.le_succ _)
      refine VL.quietE (v' := .bool false) (by decide) (Q.not rfl) (by rfl) ?_
      refine VL.nil ?_
      refine VE.seq ?_
      refine VC.condF rfl ?_
      refine VC.skip ?_
      refine VE.block_normal ?_
      refine VE.seq ?_
      refine VC.seq ?_
      refine VC.region ?_
      refine VL.q (Q.move rfl) ?_
      refine VL.eff (O.call0 ok12 rfl rfl (by decide) (mrising_c g (ann M1 (N % 2)) x.F Y2 R2 (2 * (x.i + 1)) hI2 hH2) (fun _ _ hw => hw.sub (by repeat (first | exact List.Sublist.refl _ | apply List.Sublist.cons))) ?_)
      intro x95 y95
      refine VL.quietE (v' := .bool false) (by decide) (Q.not rfl) (by rfl) ?_
      refine VL.nil ?_
      refine VE.seq ?_
      refine VC.condF rfl ?_
      refine VC.skip ?_
      refine VE.block_normal ?_
      refine VE.seq ?_
      refine VC.region ?_
      refine VL.q (Q.move rfl) ?_
      refine VL.q ((by first | exact Q.addI rfl rfl (by omega) (by omega) | exact Q.add rfl rfl)) ?_
      refine VL.q (Q.assign rfl) ?_
      refine VL.nil ?_
      refine VE.then_normal ?_
      exact VE.round ⟨x.i + 1, (ann M1 (N % 2)), x.F, Y2, R2⟩ ⟨by show x.i + 1 ≤ _; omega, hI2, hH2, hF2, hL2⟩ (by show moves.length - (x.i + 1) < moves.length - x.i; omega) zE (List.Sublist.refl _)
     ·
      intro h57
      refine VC.seq ?_
      refine VC.region ?_
      refine VL.q (Q.move rfl) ?_
      refine VL.q (Q.move rfl) ?_
      refine VL.q (Q.indexAddr sl24 (j := x.i) rfl rfl rfl hlt) ?_
      refine VL.q (Q.fieldAddr fa30_0 rfl) ?_
      refine VL.q (Q.load0 ty5 rfl (Rd.cell hrdm (fm_get mvC_len moves x.i hlt 0 _ rfl)) (by simp)) ?_
      refine VL.q (Q.eq rfl rfl) ?_
      refine VL.q (Q.assign rfl) ?_
      refine VL.nil ?_
      refine VE.seq ?_
      refine VC.cond rfl ?_ ?_
      ·
       intro h69
       refine VC.seq ?_
       refine VC.region ?_
       refine VL.q (Q.move rfl) ?_
       refine VL.q (Q.nilCheck rfl) ?_
       refine VL.q (Q.fieldAddr fa59_3 rfl) ?_
       refine VL.q (Q.load1 ty57 rfl zM (mesh_mail _ _ _)) ?_
       refine VL.q (Q.len sl57 rfl) ?_
       refine VL.q (Q.gt rfl rfl) ?_
       refine VL.q (Q.move rfl) ?_
       refine VK.case 82 rfl ?_ ?_
       ·
        intro h82
        have hpos : 0 < x.Y.mail.length := by have := of_decide_eq_true h82; omega
        refine VL.yes rfl rfl ?_
        refine VL.q (Q.move rfl) ?_
        refine VL.yes rfl rfl ?_
        refine VL.q (Q.move rfl) ?_
        refine VL.yes rfl rfl ?_
        refine VL.q (Q.move rfl) ?_
        refine VL.yes rfl rfl ?_
        refine VL.q (Q.nilCheck rfl) ?_
        refine VL.yes rfl rfl ?_
        refine VL.q (Q.fieldAddr fa59_3 rfl) ?_
        refine VL.yes rfl rfl ?_
        refine VL.q (Q.load1 ty57 rfl zM (mesh_mail _ _ _)) ?_
        refine VL.yes rfl rfl ?_
        refine VL.q (Q.len sl57 rfl) ?_
        refine VL.yes rfl rfl ?_
        refine VL.quietE (v' := .int .i64 ((N % x.Y.mail.length : Nat) : Int)) (by decide) (Q.rem rfl rfl (by omega) (by omega)) (by rfl) ?_
        refine VL.yes rfl rfl ?_
        have hq : N % x.Y.mail.length < x.Y.mail.length := Nat.mod_lt _ hpos
        refine VL.eff (O.callF ok10 rfl rfl (by decide) (marrive2_c g M1 x.F x.Y x.R (2 * x.i + 1) hI1 (by omega) hH1 (by omega) (N % x.Y.mail.length) x.Y.mail[N % x.Y.mail.length] hq rfl) zM2 (fun _ _ _ => trivial) ?_)
        intro x91 y91
        obtain ⟨Y2, R2⟩ := x91
        have hH2 : Held (arr M1 x.Y.mail[N % x.Y.mail.length].1) x.F Y2 R2 := (y91).1
        have hL2 : Y2.mail.length ≤ 6 * (x.i + 1) := by have : Y2.mail.length ≤ x.Y.mail.length + 6 := (y91).2.1; omega
        have hI2 : Inv (2 * (x.i + 1)) (arr M1 x.Y.mail[N % x.Y.mail.length].1) := inv_up (hI1.arr (w := x.Y.mail[N % x.Y.mail.length].1) (by rw [hH1.ml]; exact List.mem_map.2 ⟨_, List.getElem_mem hq, rfl⟩) (by omega)) (by omega)
        have hF2 : FInv (x.i + 1) (arr M1 x.Y.mail[N % x.Y.mail.length].1) x.F := FInv.mono (n := x.i) (FInv.core (M' := (arr M1 x.Y.mail[N % x.Y.mail.length].1)) hF1 fun i r e => arr_some i r e) (Nat.le_succ _)
        refine VL.yes rfl rfl ?_
        refine VL.quietE (v' := .bool false) (by decide) (Q.not rfl) (by rfl) ?_
        refine VL.quietE (v' := .bool false) (by decide) (Q.pick_true rfl rfl) (by rfl) ?_
        refine VL.nil ?_
        refine VE.seq ?_
        refine VC.condF rfl ?_
        refine VC.skip ?_
        refine VE.block_normal ?_
        refine VE.seq ?_
        refine VC.seq ?_
        refine VC.region ?_
        refine VL.q (Q.move rfl) ?_
        refine VL.eff (O.call0 ok12 rfl rfl (by decide) (mrising_c g (arr M1 x.Y.mail[N % x.Y.mail.length].1) x.F Y2 R2 (2 * (x.i + 1)) hI2 hH2) (fun _ _ hw => hw.sub (by repeat (first | exact List.Sublist.refl _ | apply List.Sublist.cons))) ?_)
        intro x95_1 y95_1
        refine VL.quietE (v' := .bool false) (by decide) (Q.not rfl) (by rfl) ?_
        refine VL.nil ?_
        refine VE.seq ?_
        refine VC.condF rfl ?_
        refine VC.skip ?_
        refine VE.block_normal ?_
        refine VE.seq ?_
        refine VC.region ?_
        refine VL.q (Q.move rfl) ?_
        refine VL.q ((by first | exact Q.addI rfl rfl (by omega) (by omega) | exact Q.add rfl rfl)) ?_
        refine VL.q (Q.assign rfl) ?_
        refine VL.nil ?_
        refine VE.then_normal ?_
        exact VE.round ⟨x.i + 1, (arr M1 x.Y.mail[N % x.Y.mail.length].1), x.F, Y2, R2⟩ ⟨by show x.i + 1 ≤ _; omega, hI2, hH2, hF2, hL2⟩ (by show moves.length - (x.i + 1) < moves.length - x.i; omega) zE (List.Sublist.refl _)
       ·
        intro h82
        have hI2 : Inv (2 * (x.i + 1)) M1 := inv_up hI1 (by omega)
        have hH2 := hH1
        have hF2 : FInv (x.i + 1) M1 x.F := hF1.mono (by omega)
        have hL2 : x.Y.mail.length ≤ 6 * (x.i + 1) := by omega
        refine VL.no (by simp) rfl rfl (.inl rfl) ?_
        refine VL.no (by simp) rfl rfl (.inl rfl) ?_
        refine VL.no (by simp) rfl rfl (.inl rfl) ?_
        refine VL.no (by simp) rfl rfl (.inl rfl) ?_
        refine VL.no (by simp) rfl rfl (.inl rfl) ?_
        refine VL.no (by simp) rfl rfl (.inl rfl) ?_
        refine VL.no (by simp) rfl rfl (.inl rfl) ?_
        refine VL.no (by simp) rfl rfl (.inl rfl) ?_
        refine VL.no (by simp) rfl rfl (.inl rfl) ?_
        refine VL.no (by simp) rfl rfl (.inl rfl) ?_
        refine VL.quietE (v' := .bool false) (by decide) (Q.pick_false rfl rfl) (by rfl) ?_
        refine VL.nil ?_
        refine VE.seq ?_
        refine VC.condF rfl ?_
        refine VC.skip ?_
        refine VE.block_normal ?_
        refine VE.seq ?_
        refine VC.seq ?_
        refine VC.region ?_
        refine VL.q (Q.move rfl) ?_
        refine VL.eff (O.call0 ok12 rfl rfl (by decide) (mrising_c g M1 x.F x.Y x.R (2 * (x.i + 1)) hI2 hH2) (fun _ _ hw => hw.sub (by repeat (first | exact List.Sublist.refl _ | apply List.Sublist.cons))) ?_)
        intro x95_2 y95_2
        refine VL.quietE (v' := .bool false) (by decide) (Q.not rfl) (by rfl) ?_
        refine VL.nil ?_
        refine VE.seq ?_
        refine VC.condF rfl ?_
        refine VC.skip ?_
        refine VE.block_normal ?_
        refine VE.seq ?_
        refine VC.region ?_
        refine VL.q (Q.move rfl) ?_
        refine VL.q ((by first | exact Q.addI rfl rfl (by omega) (by omega) | exact Q.add rfl rfl)) ?_
        refine VL.q (Q.assign rfl) ?_
        refine VL.nil ?_
        refine VE.then_normal ?_
        exact VE.round ⟨x.i + 1, M1, x.F, x.Y, x.R⟩ ⟨by show x.i + 1 ≤ _; omega, hI2, hH2, hF2, hL2⟩ (by show moves.length - (x.i + 1) < moves.length - x.i; omega) zE (List.Sublist.refl _)
      ·
       intro h69
       refine VC.seq ?_
       refine VC.region ?_
       refine VL.q (Q.move rfl) ?_
       refine VL.q (Q.move rfl) ?_
       refine VL.quietE (v' := .int .i64 ((N % 6 : Nat) : Int)) (by decide) (Q.rem rfl rfl (by omega) (by omega)) (by rfl) ?_
       refine VL.q (Q.move rfl) ?_
       refine VL.q (Q.quo rfl rfl (by omega) (by omega) (by simp only [khi]; omega)) ?_
       refine VL.quietE (v' := .int .i64 ((N / 6 % 2 : Nat) : Int)) (by decide) (Q.rem rfl rfl (by omega) (by omega)) (by rfl) ?_
       refine VL.q (Q.loadA ty44 rfl zM zS) ?_
       refine VL.q (Q.move rfl) ?_
       refine VL.eff (O.callF ok11 rfl rfl (by decide) (mupwards_c g M1 x.F x.Y x.R (2 * x.i + 1) hI1 (by omega) hH1 (by omega) x.i hF1 (by omega) (N % 6) (N / 6 % 2) (Nat.mod_lt _ (by decide)) (Nat.mod_lt _ (by decide)) pd m cd l hl hm) zM2 (fun _ ho _ => ⟨hrdd.only0 ho, dis hfr hpd⟩) ?_)
       intro x55 y55
       obtain ⟨F2, Y2, R2⟩ := x55
       obtain ⟨hF2, hH2⟩ := y55
       have hI2 : Inv (2 * (x.i + 1)) M1 := inv_up hI1 (by omega)
       have hL2 : Y2.mail.length ≤ 6 * (x.i + 1) := by have := held_mail hH1 hH2; dsimp only at this; omega
       refine VL.quietE (v' := .bool false) (by decide) (Q.not rfl) (by rfl) ?_
       refine VL.nil ?_
       refine VE.seq ?_
       refine VC.condF rfl ?_
       refine VC.skip ?_
       refine VE.block_normal ?_
       refine VE.seq ?_
       refine VC.seq ?_
       refine VC.region ?_
       refine VL.q (Q.move rfl) ?_
       refine VL.eff (O.call0 ok12 rfl rfl (by decide) (mrising_c g M1 F2 Y2 R2 (2 * (x.i + 1)) hI2 hH2) (fun _ _ hw => hw.sub (by repeat (first | exact List.Sublist.refl _ | apply List.Sublist.cons))) ?_)
       intro x95_3 y95_3
       refine VL.quietE (v' := .bool false) (by decide) (Q.not rfl) (by rfl) ?_
       refine VL.nil ?_
       refine VE.seq ?_
       refine VC.condF rfl ?_
       refine VC.skip ?_
       refine VE.block_normal ?_
       refine VE.seq ?_
       refine VC.region ?_
       refine VL.q (Q.move rfl) ?_
       refine VL.q ((by first | exact Q.addI rfl rfl (by omega) (by omega) | exact Q.add rfl rfl)) ?_
       refine VL.q (Q.assign rfl) ?_
       refine VL.nil ?_
       refine VE.then_normal ?_
       exact VE.round ⟨x.i + 1, M1, F2, Y2, R2⟩ ⟨by show x.i + 1 ≤ _; omega, hI2, hH2, hF2, hL2⟩ (by show moves.length - (x.i + 1) < moves.length - x.i; omega) zE (List.Sublist.refl _)
  ·
   intro h26
   have he : x.i = moves.length := by have := of_decide_eq_false h26; omega
   refine VC.exit ?_
   refine VE.then_exit ?_
   refine VE.then_exit ?_
   refine VE.block_here ?_
   refine VE.seq ?_
   refine VC.seq ?_
   refine VC.region ?_
   refine VL.q (Q.move rfl) ?_
   refine VL.eff (O.callF ok13 rfl rfl (by decide) (mcheapest_c g x.M x.F x.Y x.R (2 * moves.length) (he ▸ hx.inv) (by omega) hx.held (by omega) moves.length (he ▸ hx.fwd)) zM2 (fun _ _ _ => trivial) ?_)
   intro x99 y99
   obtain ⟨few, M4, Y4, R4⟩ := x99
   obtain ⟨hI4, hH4, hF4, hl4⟩ := y99
   dsimp only at hI4 hH4 hF4 hl4
   refine VL.q (Q.move rfl) ?_
   refine VL.q (Q.extract rfl rfl) ?_
   refine VL.q (Q.extract rfl rfl) ?_
   refine VL.q (Q.assign rfl) ?_
   refine VL.q (Q.assign rfl) ?_
   refine VL.nil ?_
   refine VE.seq ?_
   refine VC.seq ?_
   refine VC.seq ?_
   refine VC.region ?_
   refine VL.q (Q.move rfl) ?_
   refine VL.quietE (v' := .bool false) (by decide) (Q.not rfl) (by rfl) ?_
   refine VL.q (Q.move rfl) ?_
   refine VL.yes rfl rfl ?_
   refine VL.q (Q.move rfl) ?_
   refine VL.yes rfl rfl ?_
   refine VL.q (Q.not rfl) ?_
   refine VL.q (Q.pick_false rfl rfl) ?_
   refine VL.nil ?_
   refine VE.seq ?_
   refine VC.cond rfl ?_ ?_
   ·
    intro h107
    refine VC.seq ?_
    refine VC.region ?_
    refine VL.q (Q.move rfl) ?_
    refine VL.q (Q.assign rfl) ?_
    refine VL.nil ?_
    refine VE.seq ?_
    refine VC.ret ?_
    refine VE.then_ret ?_
    exact VE.ret rfl (.tmp rfl .nil) () trivial rfl (List.nil_sublist _)
   ·
    intro h107
    refine VC.skip ?_
    refine VE.seq ?_
    refine VC.seq ?_
    refine VC.seq ?_
    refine VC.region ?_
    refine VL.q (Q.assign rfl) ?_
    refine VL.nil ?_
    refine VE.seq ?_
    refine VC.block ?_
    refine VC.loop (X := Nat × (Fwd × (Lay × List Rs))) (fun z => [(1, .slice pd m cd), (7, .pointer (some ⟨g, 0, none⟩)), (9, .pointer (some ⟨g9, 0, none⟩)), (14, .int .i64 (z.1 : Int))]) (fun z => (.blk g9 [.int .u8 2, .int .u8 9, .int .u8 9, .int .u8 9, .int .u8 9, .int .u8 9] 44 :: mBlk g M4 z.2.1 z.2.2.1 :: mRow z.2.2.1 :: z.2.2.2)) (fun z => z.1 ≤ 6 ∧ FInv (moves.length + 2 * z.1) M4 z.2.1 ∧ Held M4 z.2.1 z.2.2.1 z.2.2.2) (fun z => 6 - z.1) (0, (x.F, (Y4, R4))) ⟨Nat.zero_le _, hF4, hH4⟩ ?_ ?_
    ·
     exact VS.mk zE (List.Sublist.refl _)
    ·
     rintro ⟨i, F5, Y5, R5⟩ ⟨hi6, hF5, hH5⟩
     dsimp only at hi6 hF5 hH5
     have hm5 := held_mail hH4 hH5
     refine VK.fresh fun hfr => ?_
     refine VC.seq ?_
     refine VC.seq ?_
     refine VC.region ?_
     refine VL.q (Q.move rfl) ?_
     refine VL.q (Q.lt rfl rfl) ?_
     refine VL.nil ?_
     refine VE.seq ?_
     refine VC.cond rfl ?_ ?_
     ·
      intro h110
      have hi : i < 6 := by have := of_decide_eq_true h110; omega
      refine VC.skip ?_
      refine VE.seq ?_
      refine VC.seq ?_
      refine VC.block ?_
      refine VC.seq ?_
      refine VC.region ?_
      refine VL.q (Q.move rfl) ?_
      refine VL.q (Q.move rfl) ?_
      refine VL.q (Q.loadA ty44 rfl zM zS) ?_
      refine VL.q (Q.move rfl) ?_
      refine VL.eff (O.callF ok11 rfl rfl (by decide) (mupwards_c g M4 F5 Y5 R5 (2 * moves.length + 2) hI4 (by omega) hH5 (by omega) (moves.length + 2 * i) hF5 (by omega) i 0 hi (by decide) pd m cd l hl hm) zM2 (fun _ ho _ => ⟨hrdd.only0 ho, dis hfr hpd⟩) ?_)
      intro x117 y117
      obtain ⟨F6, Y6, R6⟩ := x117
      obtain ⟨hF6, hH6⟩ := y117
      dsimp only at hF6 hH6
      have hm6 := held_mail hH4 hH6
      refine VK.fresh fun hfr6 => ?_
      refine VL.quietE (v' := .bool false) (by decide) (Q.not rfl) (by rfl) ?_
      refine VL.q (Q.move rfl) ?_
      refine VL.yes rfl rfl ?_
      refine VL.q (Q.move rfl) ?_
      refine VL.yes rfl rfl ?_
      refine VL.q (Q.move rfl) ?_
      refine VL.yes rfl rfl ?_
      refine VL.q (Q.loadA ty44 rfl zM zS) ?_
      refine VL.yes rfl rfl ?_
      refine VL.q (Q.move rfl) ?_
      refine VL.yes rfl rfl ?_
      refine VL.eff (O.callF ok11 rfl rfl (by decide) (mupwards_c g M4 F6 Y6 R6 (2 * moves.length + 2) hI4 (by omega) hH6 (by omega) (moves.length + 2 * i + 1) hF6 (by omega) i 1 hi (by decide) pd m cd l hl hm) zM2 (fun _ ho _ => ⟨hrdd.only0 ho, dis hfr6 hpd⟩) ?_)
      intro x124 y124
      obtain ⟨F7, Y7, R7⟩ := x124
      obtain ⟨hF7, hH7⟩ := y124
      dsimp only at hF7 hH7
      refine VL.yes rfl rfl ?_
      refine VL.quietE (v' := .bool false) (by decide) (Q.not rfl) (by rfl) ?_
      refine VL.quietE (v' := .bool false) (by decide) (Q.pick_false rfl rfl) (by rfl) ?_
      refine VL.nil ?_
      refine VE.seq ?_
      refine VC.condF rfl ?_
      refine VC.skip ?_
      refine VE.block_normal ?_
      refine VE.seq ?_
      refine VC.region ?_
      refine VL.q (Q.move rfl) ?_
      refine VL.q ((by first | exact Q.addI rfl rfl (by omega) (by omega) | exact Q.add rfl rfl)) ?_
      refine VL.q (Q.assign rfl) ?_
      refine VL.nil ?_
      refine VE.then_normal ?_
      exact VE.round (i + 1, (F7, (Y7, R7))) ⟨by show i + 1 ≤ 6; omega, hF7.mono (by show _ ≤ moves.length + 2 * (i + 1); omega), hH7⟩ (by show 6 - (i + 1) < 6 - i; omega) zE (List.Sublist.refl _)
     ·
      intro h110
      refine VC.exit ?_
      refine VE.then_exit ?_
      refine VE.then_exit ?_
      refine VE.block_here ?_
      refine VE.seq ?_
      refine VC.seq ?_
      refine VC.region ?_
      refine VL.q (Q.move rfl) ?_
      refine VL.eff (O.call0 ok12 rfl rfl (by decide) (mrising_c g M4 F5 Y5 R5 (2 * moves.length + 2) hI4 hH5) (fun _ _ hw => hw.sub (by repeat (first | exact List.Sublist.refl _ | apply List.Sublist.cons))) ?_)
      intro x128 y128
      refine VL.q (Q.assign rfl) ?_
      refine VL.nil ?_
      refine VE.seq ?_
      refine VC.ret ?_
      exact VE.ret rfl (.tmp rfl .nil) () trivial rfl (List.nil_sublist _)

end Go.Proofs.YtencghlmckbmlaaGreat
