/- The contracts of package medium: receivers. Conditions: those that each bears. -/
import Derived.Test.YtencghlmckbmlaaGreatRows
import Derived.Test.YtencghlmckbmlaaGreatCMedium
namespace Go.Proofs.YtencghlmckbmlaaGreat
open Go Go.RowKit Go.Sx
set_option maxRecDepth 100000

theorem ok66 : okFunc Tryz.prog 66 = true := by kernel_rfl
theorem ok67 : okFunc Tryz.prog 67 = true := by kernel_rfl
theorem ok70 : okFunc Tryz.prog 70 = true := by kernel_rfl
theorem sl180 : tySlice Tryz.prog 180 = some (4, 1, 1) := by kernel_rfl

theorem index_int (p : Option Addr) (n c : Nat) (l : List Int) (hl : l.length = n) (hn : n ≤ 1000) (q : Int) :
  Does Tryz.prog 70 [.slice p n c, .int .i64 q] [] (fun W => Rd W p (l.flatMap intC)) (X := Int) (fun x => IXF l (fun z => decide (q = z)) x) (fun x => .int .i64 x) (fun _ => []) := by
 subst hl
 refine Does.enter Tryz.func70 rfl (m := 19) rfl (by simp) ?_
 intro W0 hro
 refine VC.seq ?_
 refine VC.region ?_
 refine VL.q (Q.assign rfl) ?_
 refine VL.nil ?_
 refine VE.seq ?_
 refine VC.seq ?_
 refine VC.seq ?_
 refine VC.region ?_
 refine VL.q (Q.move rfl) ?_
 refine VL.q (Q.len sl78 rfl) ?_
 refine VL.q (Q.move rfl) ?_
 refine VL.nil ?_
 refine VE.seq ?_
 refine VC.block ?_
 refine VC.loop (X := Nat) (fun k => [(0, .slice p l.length c), (1, .int .i64 q), (7, .int .i64 (l.length : Int)), (8, .int .i64 (k : Int))]) (fun k => []) (fun k => IXB l (fun z => decide (q = z)) k) (fun k => l.length - k) 0 IXB.zero ?_ ?_
 ·
  exact VS.mk zE (List.Sublist.refl _)
 ·
  intro k hk
  have hkl := hk.1
  refine VC.seq ?_
  refine VC.region ?_
  refine VL.q (Q.lt rfl rfl) ?_
  refine VL.nil ?_
  refine VE.seq ?_
  refine VC.seq ?_
  refine VC.cond rfl ?_ ?_
  ·
   intro h9
   have hlt : k < l.length := by have := of_decide_eq_true h9; omega
   obtain ⟨b0, o0, rfl⟩ := hro.pos (by rw [fm_length intC_len]; omega)
   refine VC.skip ?_
   refine VE.seq ?_
   refine VC.seq ?_
   refine VC.block ?_
   refine VC.seq ?_
   refine VC.region ?_
   refine VL.q (Q.move rfl) ?_
   refine VL.q (Q.assign rfl) ?_
   refine VL.nil ?_
   refine VE.seq ?_
   refine VC.seq ?_
   refine VC.region ?_
   refine VL.q (Q.move rfl) ?_
   refine VL.q (Q.move rfl) ?_
   refine VL.q (Q.move rfl) ?_
   refine VL.q (Q.indexAddr sl78 (j := k) rfl rfl rfl hlt) ?_
   refine VL.q (Q.load0 (v := .int .i64 l[k]) ty3 rfl (Rd.at hro (fm_at intC_len l k hlt _ rfl)) (by simp)) ?_
   refine VL.q (Q.eq rfl rfl) ?_
   refine VL.nil ?_
   refine VE.seq ?_
   refine VC.cond rfl ?_ ?_
   ·
    intro h16
    have h16 : decide (q = l[k]) = true := decide_eq_true (eq_of_beq h16)
    refine VC.seq ?_
    refine VC.region ?_
    refine VL.q (Q.move rfl) ?_
    refine VL.q (Q.assign rfl) ?_
    refine VL.nil ?_
    refine VE.seq ?_
    refine VC.ret ?_
    refine VE.block_ret ?_
    refine VE.then_ret ?_
    refine VE.then_ret ?_
    refine VE.block_ret ?_
    refine VE.then_ret ?_
    exact VE.ret rfl (.tmp rfl .nil) _ (hk.some hlt h16) rfl zB
   ·
    intro h16
    have h16 : decide (q = l[k]) = false := decide_eq_false (by simpa using h16)
    refine VC.skip ?_
    refine VE.block_normal ?_
    refine VE.seq ?_
    refine VC.region ?_
    refine VL.q ((by first | exact Q.addI rfl rfl (by omega) (by omega) | exact Q.add rfl rfl)) ?_
    refine VL.q (Q.move rfl) ?_
    refine VL.nil ?_
    refine VE.then_normal ?_
    exact VE.round (k + 1) (hk.next hlt h16) (by omega) zE (List.Sublist.refl _)
  ·
   intro h9
   have hlt : ¬ k < l.length := by have := of_decide_eq_false h9; omega
   refine VC.exit ?_
   refine VE.then_exit ?_
   refine VE.then_exit ?_
   refine VE.block_here ?_
   refine VE.seq ?_
   refine VC.seq ?_
   refine VC.region ?_
   refine VL.q (Q.assign rfl) ?_
   refine VL.nil ?_
   refine VE.seq ?_
   refine VC.ret ?_
   exact VE.ret rfl (.tmp rfl .nil) _ (hk.none hlt) rfl zB

theorem contains_int (p : Option Addr) (n c : Nat) (l : List Int) (hl : l.length = n) (hn : n ≤ 1000) (q : Int) :
  Does Tryz.prog 24 [.slice p n c, .int .i64 q] [] (fun W => Rd W p (l.flatMap intC)) (X := Unit) (fun _ => True) (fun _ => .bool (l.any fun z => decide (q = z))) (fun _ => []) := by
 refine Does.enter Tryz.func24 rfl (m := 9) rfl (by simp) ?_
 intro W0 hro
 refine VC.seq ?_
 refine VC.region ?_
 refine VL.q (Q.assign rfl) ?_
 refine VL.nil ?_
 refine VE.seq ?_
 refine VC.seq ?_
 refine VC.region ?_
 refine VL.q (Q.move rfl) ?_
 refine VL.q (Q.move rfl) ?_
 refine VL.eff (O.call0 ok70 rfl rfl (by decide) (index_int p n c l hl hn q) (fun _ ho _ => hro.only0 ho) ?_)
 intro x7 y7
 refine VL.quietE (v' := .bool (l.any fun z => decide (q = z))) (by decide) (Q.ge rfl rfl) (congrArg Value.bool (ixf_any y7)) ?_
 refine VL.q (Q.assign rfl) ?_
 refine VL.nil ?_
 refine VE.seq ?_
 refine VC.ret ?_
 refine VE.ret rfl (.tmp rfl .nil) () ?_ ?_ (List.nil_sublist _)
 ·
  trivial
 ·
  first | rfl | (exfalso; simp at *; omega)

structure Ix where
  k : Nat
  rows : List Row
  ids : List Nat
  cnt : Nat
structure Iy where
  j : Nat
  q : Option Addr
  d : Nat
  cnt : Nat
theorem set_todo {rs : List Ra} {sd : List (List Int)} {ls : List Sd} {k : Nat} {rows : List Row} (h : RcvI rs sd ls k rows) (hk : k < ls.length) : rows.set k noRow = rows := by
  have := h.todo k hk (Nat.le_refl _)
  rw [← this]
  exact List.set_getElem_self _
theorem rcv_bd (rs : List Ra) (sd : List (List Int)) (x : Sd) (j : Nat) (hr : rs.length ≤ 9) (hj : j < rs.length) : (rcvTo rs sd x j).length ≤ 9 := by
  have := rcv_len rs sd x j
  omega

theorem receivers_c (pr : Option Addr) (cr : Nat) (rs : List Ra) (ps : Option Addr) (cs : Nat) (sh : List Row) (hw : AirOk rs (sdOf sh)) (p : Option Addr) (n c : Nat) (ls : List Sd) (hl : ls.length = n) (hc : n ≤ c) (hs : SdsOk rs.length ls) :
  Does Tryz.prog 22 [.agg #[.slice pr rs.length cr, .slice ps sh.length cs], .slice p n c, .slice none 0 0] [] (fun W => RdW W pr rs ps sh ∧ Rd W p (ls.flatMap sdC)) (X := Rx) (fun x => x.rows.map Row.d = ls.map (rcv rs (sdOf sh))) (fun x => .tuple #[.slice x.p x.rows.length x.c, .int .i64 0]) (fun x => [.frz x.ids (fun W => Rd W x.p (x.rows.flatMap rowC) ∧ RdRows x.rows W)]) := by
 subst hl
 have hm := hs.most
 have hn9 := hw.n9
 have hn0 := hw.n0
 refine Does.enter Tryz.func22 rfl (m := 65) rfl (by simp) ?_
 intro W0 hro
 refine VC.seq ?_
 refine VC.region ?_
 refine VL.eff (O.box rfl rfl (by decide) ?_)
 intro g3
 refine VL.q (Q.assign rfl) ?_
 refine VL.q (Q.assign rfl) ?_
 refine VL.nil ?_
 refine VE.seq ?_
 refine VC.seq ?_
 refine VC.seq ?_
 refine VC.region ?_
 refine VL.q (Q.loadA ty68 rfl zM zS) ?_
 refine VL.q (Q.move rfl) ?_
 refine VL.eff (O.call0 ok66 rfl rfl (by decide) (mcheck_c pr cr rs ps cs sh hw p ls.length c ls rfl hc hs) (fun _ ho _ => ⟨hro.1.only0 ho, hro.2.only0 ho⟩) ?_)
 intro x15 y15
 refine VL.q (Q.assign rfl) ?_
 refine VL.nil ?_
 refine VE.seq ?_
 refine VC.seq ?_
 refine VC.region ?_
 refine VL.q (Q.move rfl) ?_
 refine VL.quietE (v' := .bool false) (by decide) (Q.ne rfl rfl) (by rfl) ?_
 refine VL.nil ?_
 refine VE.seq ?_
 refine VC.condF rfl ?_
 refine VC.skip ?_
 refine VE.seq ?_
 refine VC.seq ?_
 refine VC.region ?_
 refine VL.q (Q.move rfl) ?_
 refine VL.q (Q.len sl88 rfl) ?_
 refine VL.eff (O.make (ls.length) (ls.length) sl66 ze78 rfl rfl rfl rfl (by omega) (by omega) (by unfold maxLen; omega) (by decide) ?_)
 intro g21
 refine VL.q (Q.assign rfl) ?_
 refine VL.nil ?_
 refine VE.seq ?_
 refine VC.seq ?_
 refine VC.region ?_
 refine VL.q (Q.assign rfl) ?_
 refine VL.nil ?_
 refine VE.seq ?_
 refine VC.seq ?_
 refine VC.seq ?_
 refine VC.region ?_
 refine VL.q (Q.move rfl) ?_
 refine VL.q (Q.len sl88 rfl) ?_
 refine VL.q (Q.move rfl) ?_
 refine VL.nil ?_
 refine VE.seq ?_
 refine VC.block ?_
 refine VK.openAt (g := g21) (m := ls.length) (c := ls.length) (s := 1) (xs := _) zA ?_
 intro D hD _ _ _
 have hD0 : D = [] := List.eq_nil_of_length_eq_zero (by omega)
 subst hD0
 rw [List.append_nil, made_rows]
 refine VK.frzNil (RdRows (List.replicate ls.length noRow)) (fun W r hr => by rw [(List.mem_replicate.1 hr).2]; exact Rd.nil) ?_
 intro ids0
 refine VK.picks (Lin := [.blk g3 [.slice pr rs.length cr, .slice ps sh.length cs] 68, .blk g21 ((List.replicate ls.length noRow).flatMap rowC) 78, .frz ids0 (RdRows (List.replicate ls.length noRow))]) zM2 ?_
 refine VC.loop (X := Ix) (fun x => [(1, .slice p ls.length c), (2, .slice none 0 0), (3, .pointer (some ⟨g3, 0, none⟩)), (9, .slice (some ⟨g21, 0, none⟩) ls.length ls.length), (10, .int .i64 (x.cnt : Int)), (23, .int .i64 (ls.length : Int)), (24, .int .i64 (x.k : Int))]) (fun x => [.blk g3 [.slice pr rs.length cr, .slice ps sh.length cs] 68, .blk g21 (x.rows.flatMap rowC) 78, .frz x.ids (RdRows x.rows)]) (fun x => x.k ≤ ls.length ∧ x.cnt ≤ 10 * x.k ∧ RcvI rs (sdOf sh) ls x.k x.rows) (fun x => ls.length - x.k) ⟨0, List.replicate ls.length noRow, ids0, 0⟩ ⟨Nat.zero_le _, Nat.le_refl _, RcvI.start rfl⟩ ?_ ?_
 ·
  exact VS.mk zE (List.Sublist.refl _)
 ·
  rintro x ⟨hk, hcnt, hri⟩
  refine VC.seq ?_
  refine VC.region ?_
  refine VL.q (Q.lt rfl rfl) ?_
  refine VL.nil ?_
  refine VE.seq ?_
  refine VC.seq ?_
  refine VC.cond rfl ?_ ?_
  ·
   intro h25
   have hlt : x.k < ls.length := by have := of_decide_eq_true h25; omega
   refine VC.skip ?_
   refine VE.seq ?_
   refine VC.seq ?_
   refine VC.block ?_
   refine VC.seq ?_
   refine VC.region ?_
   refine VL.q (Q.move rfl) ?_
   refine VL.q (Q.assign rfl) ?_
   refine VL.nil ?_
   refine VE.seq ?_
   refine VC.seq ?_
   refine VC.region ?_
   refine VL.q (Q.fieldAddr fa68_0 rfl) ?_
   refine VL.q (Q.load1 ty65 rfl zM rfl) ?_
   refine VL.q (Q.len sl65 rfl) ?_
   refine VL.q (Q.move rfl) ?_
   refine VL.nil ?_
   refine VE.seq ?_
   refine VC.block ?_
   refine VK.addNil 3 1 ?_
   rw [show x.rows.flatMap rowC = (x.rows.set x.k noRow).flatMap rowC from by rw [set_todo hri hlt]]
   refine VK.picks (Lin := [.blk g3 [.slice pr rs.length cr, .slice ps sh.length cs] 68, .blk g21 ((x.rows.set x.k (⟨none, 0, (rcvTo rs (sdOf sh) ls[x.k] 0)⟩ : Row)).flatMap rowC) 78, .frz x.ids (RdRows x.rows), .row (.slice none (rcvTo rs (sdOf sh) ls[x.k] 0).length 0) 3 1 (rcvTo rs (sdOf sh) ls[x.k] 0).length ((rcvTo rs (sdOf sh) ls[x.k] 0).flatMap intC)]) zM2 ?_
   refine VC.loop (X := Iy) (fun y => [(1, .slice p ls.length c), (2, .slice none 0 0), (3, .pointer (some ⟨g3, 0, none⟩)), (9, .slice (some ⟨g21, 0, none⟩) ls.length ls.length), (10, .int .i64 (y.cnt : Int)), (23, .int .i64 (ls.length : Int)), (24, .int .i64 (x.k : Int)), (11, .int .i64 (x.k : Int)), (29, .int .i64 (rs.length : Int)), (30, .int .i64 (y.j : Int))]) (fun y => [.blk g3 [.slice pr rs.length cr, .slice ps sh.length cs] 68, .blk g21 ((x.rows.set x.k (⟨y.q, y.d, (rcvTo rs (sdOf sh) ls[x.k] y.j)⟩ : Row)).flatMap rowC) 78, .frz x.ids (RdRows x.rows), .row (.slice y.q (rcvTo rs (sdOf sh) ls[x.k] y.j).length y.d) 3 1 (rcvTo rs (sdOf sh) ls[x.k] y.j).length ((rcvTo rs (sdOf sh) ls[x.k] y.j).flatMap intC)]) (fun y => y.j ≤ rs.length ∧ y.cnt ≤ 10 * x.k + y.j) (fun y => rs.length - y.j) ⟨0, none, 0, x.cnt⟩ ⟨Nat.zero_le _, hcnt⟩ ?_ ?_
   ·
    exact VS.mk zE (List.Sublist.refl _)
   ·
    rintro y ⟨hj, hcy⟩
    refine VC.seq ?_
    refine VC.region ?_
    refine VL.q (Q.lt rfl rfl) ?_
    refine VL.nil ?_
    refine VE.seq ?_
    refine VC.seq ?_
    refine VC.cond rfl ?_ ?_
    ·
     intro h31
     have hlj : y.j < rs.length := by have := of_decide_eq_true h31; omega
     have hrb := rcv_bd rs (sdOf sh) ls[x.k] y.j hn9 hlj
     refine VC.skip ?_
     refine VE.seq ?_
     refine VC.seq ?_
     refine VC.block ?_
     refine VC.seq ?_
     refine VC.region ?_
     refine VL.q (Q.move rfl) ?_
     refine VL.q (Q.assign rfl) ?_
     refine VL.nil ?_
     refine VE.seq ?_
     refine VC.seq ?_
     refine VC.seq ?_
     refine VC.region ?_
     refine VL.q (Q.loadA ty68 rfl zM zS) ?_
     refine VL.q (Q.move rfl) ?_
     refine VL.q (Q.move rfl) ?_
     refine VL.q (Q.move rfl) ?_
     refine VL.eff (O.call0 ok67 rfl rfl (by decide) (can_c pr cr rs ps cs sh hw p ls.length c ls rfl hc hs x.k y.j hlt hlj) (fun _ ho _ => ⟨hro.1.only0 ho, hro.2.only0 ho⟩) ?_)
     intro x37 y37
     refine VL.q (Q.not rfl) ?_
     refine VL.nil ?_
     refine VE.seq ?_
     refine VC.cond rfl ?_ ?_
     ·
      intro h38
      refine VC.exit ?_
      refine VE.then_exit ?_
      refine VE.block_here ?_
      refine VE.seq ?_
      refine VC.region ?_
      refine VL.q ((by first | exact Q.addI rfl rfl (by omega) (by omega) | exact Q.add rfl rfl)) ?_
      refine VL.q (Q.move rfl) ?_
      refine VL.nil ?_
      refine VE.then_normal ?_
      have hcf : canB rs (sdOf sh) ls[x.k] y.j = false := by simpa using h38
      have hrf := rcv_f hcf
      refine VE.round (⟨y.j + 1, y.q, y.d, y.cnt⟩ : Iy) ?_ ?_ ?_ ?_
      ·
       exact ⟨hlj, by show y.cnt ≤ 10 * x.k + (y.j + 1); omega⟩
      ·
       show rs.length - (y.j + 1) < rs.length - y.j
       omega
      ·
       exact zE
      ·
       rw [← hrf]
       exact List.Sublist.refl _
     ·
      intro h38
      refine VC.skip ?_
      refine VE.seq ?_
      refine VC.seq ?_
      refine VC.seq ?_
      refine VC.region ?_
      refine VL.q (Q.move rfl) ?_
      refine VL.q (Q.move rfl) ?_
      refine VL.q (Q.len sl180 rfl) ?_
      refine VL.quietE (v' := .bool true) (by decide) (Q.ge rfl rfl) (congrArg Value.bool (decide_eq_true (by omega))) ?_
      refine VL.q (Q.move rfl) ?_
      refine VL.no (by simp) rfl rfl (.inl rfl) ?_
      refine VL.no (by simp) rfl rfl (.inl rfl) ?_
      refine VL.no (by simp) rfl rfl (.inl rfl) ?_
      refine VL.no (by simp) rfl rfl (.inl rfl) ?_
      refine VL.no (by simp) rfl rfl (.inl rfl) ?_
      refine VL.quietE (v' := .bool true) (by decide) (Q.pick_true rfl rfl) (by rfl) ?_
      refine VL.nil ?_
      refine VE.seq ?_
      refine VC.condT rfl ?_
      refine VC.region ?_
      refine VL.q (Q.move rfl) ?_
      refine VL.q (Q.move rfl) ?_
      refine VL.q (Q.move rfl) ?_
      refine VL.q (Q.move rfl) ?_
      refine VL.q (Q.indexAddr sl66 (j := x.k) rfl rfl rfl hlt) ?_
      refine VL.q (Q.load1 (v := .slice y.q (rcvTo rs (sdOf sh) ls[x.k] y.j).length y.d) ty78 rfl zM (by rw [Nat.zero_add]; exact fm_at rowC_len _ x.k (by rw [List.length_set, hri.len]; exact hlt) _ (by rw [List.getElem_set_self]; rfl))) ?_
      refine VL.q (Q.move rfl) ?_
      refine VL.eff (O.buildSlice sl78 ze3 (by decide) zF (by decide) ?_)
      intro g57
      refine VL.eff (O.appendS sl78 ze3 rfl (by decide) rfl rfl zM zS rfl (by decide) (by unfold maxLen; omega) (by omega) zA ?_)
      intro p58 c58 hc58
      have hct : canB rs (sdOf sh) ls[x.k] y.j = true := by simpa using h38
      have hrt := rcv_t hct
      rw [show (rcvTo rs (sdOf sh) ls[x.k] y.j).length + 1 = (rcvTo rs (sdOf sh) ls[x.k] (y.j + 1)).length from by rw [← hrt]; simp, show (rcvTo rs (sdOf sh) ls[x.k] y.j).flatMap intC ++ [.int .i64 (y.j : Int)] = (rcvTo rs (sdOf sh) ls[x.k] (y.j + 1)).flatMap intC from by rw [← hrt]; simp [intC]]
      refine VL.q (Q.indexAddr sl66 (j := x.k) rfl rfl rfl hlt) ?_
      refine VL.eff (O.store ty78 rfl rfl rfl rfl zU (by rw [Nat.zero_add]; have := fm_put rowC_len (x.rows.set x.k (⟨y.q, y.d, (rcvTo rs (sdOf sh) ls[x.k] y.j)⟩ : Row)) x.k (by rw [List.length_set, hri.len]; exact hlt) (⟨p58, c58, (rcvTo rs (sdOf sh) ls[x.k] (y.j + 1))⟩ : Row); rw [List.set_set] at this; exact this) ?_)
      refine VL.nil ?_
      refine VE.seq ?_
      refine VC.region ?_
      refine VL.q (Q.move rfl) ?_
      refine VL.q ((by first | exact Q.addI rfl rfl (by omega) (by omega) | exact Q.add rfl rfl)) ?_
      refine VL.q (Q.assign rfl) ?_
      refine VL.nil ?_
      refine VE.block_normal ?_
      refine VE.seq ?_
      refine VC.region ?_
      refine VL.q ((by first | exact Q.addI rfl rfl (by omega) (by omega) | exact Q.add rfl rfl)) ?_
      refine VL.q (Q.move rfl) ?_
      refine VL.nil ?_
      refine VE.then_normal ?_
      refine VK.picks (Lin := [.blk g3 [.slice pr rs.length cr, .slice ps sh.length cs] 68, .blk g21 ((x.rows.set x.k (⟨p58, c58, (rcvTo rs (sdOf sh) ls[x.k] (y.j + 1))⟩ : Row)).flatMap rowC) 78, .frz x.ids (RdRows x.rows), .row (.slice p58 (rcvTo rs (sdOf sh) ls[x.k] (y.j + 1)).length c58) 3 1 (rcvTo rs (sdOf sh) ls[x.k] (y.j + 1)).length ((rcvTo rs (sdOf sh) ls[x.k] (y.j + 1)).flatMap intC)]) zM2 ?_
      refine VE.round (⟨y.j + 1, p58, c58, y.cnt + 1⟩ : Iy) ?_ ?_ ?_ ?_
      ·
       exact ⟨hlj, by show y.cnt + 1 ≤ 10 * x.k + (y.j + 1); omega⟩
      ·
       show rs.length - (y.j + 1) < rs.length - y.j
       omega
      ·
       exact zE
      ·
       exact List.Sublist.refl _
    ·
     intro h31
     have hje : y.j = rs.length := by have := of_decide_eq_false h31; omega
     rw [hje]
     refine VC.exit ?_
     refine VE.then_exit ?_
     refine VE.then_exit ?_
     refine VE.block_here ?_
     refine VE.block_normal ?_
     refine VE.seq ?_
     refine VC.region ?_
     refine VL.q ((by first | exact Q.addI rfl rfl (by omega) (by omega) | exact Q.add rfl rfl)) ?_
     refine VL.q (Q.move rfl) ?_
     refine VL.nil ?_
     refine VE.then_normal ?_
     refine VK.freeze (A := [.frz x.ids (RdRows x.rows), .row (.slice y.q (rcvTo rs (sdOf sh) ls[x.k] rs.length).length y.d) 3 1 (rcvTo rs (sdOf sh) ls[x.k] rs.length).length ((rcvTo rs (sdOf sh) ls[x.k] rs.length).flatMap intC)]) (RdRows (x.rows.set x.k (⟨y.q, y.d, (rcvTo rs (sdOf sh) ls[x.k] rs.length)⟩ : Row))) zM2 (fun W hW => rows_set (r := (⟨y.q, y.d, (rcvTo rs (sdOf sh) ls[x.k] rs.length)⟩ : Row)) (e := 3) hW (.head _) (.tail _ (.head _))) ?_
     intro ids1
     refine VK.picks (Lin := [.blk g3 [.slice pr rs.length cr, .slice ps sh.length cs] 68, .blk g21 ((x.rows.set x.k (⟨y.q, y.d, (rcvTo rs (sdOf sh) ls[x.k] rs.length)⟩ : Row)).flatMap rowC) 78, .frz ids1 (RdRows (x.rows.set x.k (⟨y.q, y.d, (rcvTo rs (sdOf sh) ls[x.k] rs.length)⟩ : Row)))]) zM2 ?_
     refine VE.round (⟨x.k + 1, x.rows.set x.k (⟨y.q, y.d, (rcvTo rs (sdOf sh) ls[x.k] rs.length)⟩ : Row), ids1, y.cnt⟩ : Ix) ?_ ?_ ?_ (List.Sublist.refl _)
     ·
      exact ⟨hlt, by show y.cnt ≤ 10 * (x.k + 1); omega, hri.next hlt rfl⟩
     ·
      show ls.length - (x.k + 1) < ls.length - x.k
      omega
     ·
      exact zE
  ·
   intro h25
   have hke : x.k = ls.length := by have := of_decide_eq_false h25; omega
   refine VC.exit ?_
   refine VE.then_exit ?_
   refine VE.then_exit ?_
   refine VE.block_here ?_
   refine VE.seq ?_
   refine VC.seq ?_
   refine VC.region ?_
   refine VL.q (Q.move rfl) ?_
   refine VL.q (Q.assign rfl) ?_
   refine VL.q (Q.assign rfl) ?_
   refine VL.nil ?_
   refine VE.seq ?_
   refine VC.ret ?_
   rw [hke] at hri
   refine VK.freeze (A := [.blk g21 (x.rows.flatMap rowC) 78, .frz x.ids (RdRows x.rows)]) (fun W => Rd W (some ⟨g21, 0, none⟩) (x.rows.flatMap rowC) ∧ RdRows x.rows W) zM2 (fun W hW => ⟨Rd.own hW (.head _) (fun j u hj => by rw [Nat.zero_add]; exact hj), Rd.frz hW (.tail _ (.head _))⟩) ?_
   intro ids2
   exact VE.ret rfl (.tmp rfl (.tmp rfl .nil)) ⟨some ⟨g21, 0, none⟩, ls.length, x.rows, ids2⟩ hri.all (by show _ = Value.tuple _; rw [hri.len]; rfl) zB

end Go.Proofs.YtencghlmckbmlaaGreat
