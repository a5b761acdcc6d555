/- The contracts of package exchange. Conditions: those that each bears. -/
import Derived.Test.YtencghlmckbmlaaDoorRows
import Derived.Test.YtencghlmckbmlaaDoorExchange
namespace Go.Proofs.YtencghlmckbmlaaDoor
open Go Go.RowKit Go.Sx
set_option maxRecDepth 100000

theorem fa37_0 : tyField Tryd.prog 37 0 = some 0 := by kernel_rfl
theorem fa37_1 : tyField Tryd.prog 37 1 = some 1 := by kernel_rfl
theorem fa37_3 : tyField Tryd.prog 37 3 = some 3 := by kernel_rfl
theorem fa37_4 : tyField Tryd.prog 37 4 = some 4 := by kernel_rfl
theorem fa37_5 : tyField Tryd.prog 37 5 = some 5 := by kernel_rfl
theorem fa37_6 : tyField Tryd.prog 37 6 = some 6 := by kernel_rfl
theorem fa37_7 : tyField Tryd.prog 37 7 = some 7 := by kernel_rfl
theorem fa37_8 : tyField Tryd.prog 37 8 = some 8 := by kernel_rfl
theorem fa48_3 : tyField Tryd.prog 48 3 = some 3 := by kernel_rfl
theorem fa48_4 : tyField Tryd.prog 48 4 = some 4 := by kernel_rfl
theorem fa48_5 : tyField Tryd.prog 48 5 = some 5 := by kernel_rfl
theorem mixed : Tryd.prog.follows .mixedOrders = true := by kernel_rfl
theorem ok44 : okFunc Tryd.prog 44 = true := by kernel_rfl
theorem ty35 : tySz Tryd.prog 35 = some (false, 1) := by kernel_rfl
theorem ty5 : tySz Tryd.prog 5 = some (false, 1) := by kernel_rfl
theorem zo106 : tyZero Tryd.prog 106 = some [.slice none 0 0, .int .i64 0] := by kernel_rfl

theorem sequence_c (q : Exch) (hq : q.Ok) (p : Option Addr) (n c : Nat) (l : List Int) (hn : l.length = n) (hl : ∀ a ∈ l, 1 ≤ a ∧ a ≤ 32767) (h16 : n ≤ 16) (hc : n ≤ c) (lim : Int) (nn : Nat) (h1 : 1 ≤ nn) (h2 : nn ≤ n) :
    Does Tryd.prog 27 [.agg #[.int .u8 (q.prot : Int), .int .u8 (q.pol : Int), .int .i64 lim, .slice p n c, .int .i64 q.rts, .int .i64 q.cts, .int .i64 q.ack, .int .i64 q.bar, .int .i64 q.back], .int .i64 (nn : Int)] [] (fun W => Rd W p (is l)) (X := Option Addr × Nat) (fun _ => True) (fun y => .slice y.1 (q.raw l nn).1.length y.2) (fun y => [.row (.slice y.1 (q.raw l nn).1.length y.2) 48 6 (q.raw l nn).1.length (pcs (q.seq l nn))]) := by
  subst hn
  refine Does.enter Tryd.func27 rfl (m := 92) rfl (by simp) ?_
  intro W0 hro
  refine VC.seq ?_
  refine VC.region ?_
  refine VL.eff (O.box rfl rfl (by decide) ?_)
  intro g2
  refine VL.q (Q.assign rfl) ?_
  refine VL.nil ?_
  refine VE.seq ?_
  refine VC.seq ?_
  refine VC.region ?_
  refine VL.eff (O.alloc zo106 (by decide) ?_)
  intro g5
  refine VK.addNil 48 6 ?_
  refine VL.nil ?_
  refine VE.seq ?_
  refine VC.seq ?_
  refine VC.region ?_
  refine VL.q (Q.makeFunc rfl rfl) ?_
  refine VL.q (Q.assign rfl) ?_
  refine VL.nil ?_
  refine VE.seq ?_
  refine VC.seqJ (X := Option Addr × Nat) (fun z => [(5, .pointer (some ⟨g5, 0, none⟩)), (6, .func (.func 44) #[.pointer (some ⟨g5, 0, none⟩)] #[]), (2, .pointer (some ⟨g2, 0, none⟩)), (1, .int .i64 (nn : Int))]) (fun z => [.blk g5 [.slice z.1 (preP q.prot q.rts q.cts).1.length z.2, .int .i64 (preP q.prot q.rts q.cts).2] 106, .row (.slice z.1 (preP q.prot q.rts q.cts).1.length z.2) 48 6 (preP q.prot q.rts q.cts).1.length (pcs (preP q.prot q.rts q.cts).1), .blk g2 [.int .u8 (q.prot : Int), .int .u8 (q.pol : Int), .int .i64 lim, .slice p l.length c, .int .i64 q.rts, .int .i64 q.cts, .int .i64 q.ack, .int .i64 q.bar, .int .i64 q.back] 37]) (fun z => True) ?_ ?_
  · skip
    refine VC.seq ?_
    refine VC.region ?_
    refine VL.q (Q.fieldAddr fa37_0 rfl) ?_
    refine VL.q (Q.load1 ty5 rfl zM rfl) ?_
    refine VL.nil ?_
    refine VE.seq ?_
    refine VC.block ?_
    refine VC.seq ?_
    refine VC.region ?_
    refine VL.q (Q.eq rfl rfl) ?_
    refine VL.q (Q.assign rfl) ?_
    refine VL.nil ?_
    refine VE.seq ?_
    refine VC.cond rfl ?_ ?_
    · intro h14
      have hp : q.prot = 1 := by simp at h14; omega
      refine VC.region ?_
      refine VL.q (Q.move rfl) ?_
      refine VL.q (Q.fieldAddr fa37_5 rfl) ?_
      refine VL.q (Q.load1 ty3 rfl zM rfl) ?_
      have ho19 := OkP.nil
      have hlo19 := ho19.lo
      have hhi19 := ho19.hi
      have hle19 : (([], 0) : List Part × Int).1.length = 0 := rfl
      refine VL.eff (O.callP ok44 rfl rfl (by decide) (add_c g5 _ _ (([], 0)) 3 false 0 q.cts (by omega) hq.cts (by omega)) zKs (fun _ _ _ => trivial) ?_)
      intro x19 y19
      refine VL.nil ?_
      refine VE.block_normal ?_
      refine VE.then_normal ?_
      have hP : preP q.prot q.rts q.cts = addP ([], 0) 3 false 0 q.cts := by unfold preP; rw [if_pos hp]
      rw [hP]
      exact VE.meet x19 trivial zE (by repeat (first | exact List.Sublist.refl _ | apply List.Sublist.cons_cons | apply List.Sublist.cons))
    · intro h14
      have hp1 : q.prot ≠ 1 := by simp at h14; omega
      refine VC.seq ?_
      refine VC.region ?_
      refine VL.q (Q.eq rfl rfl) ?_
      refine VL.q (Q.assign rfl) ?_
      refine VL.nil ?_
      refine VE.seq ?_
      refine VC.cond rfl ?_ ?_
      · intro h20
        have hp : q.prot = 2 := by simp at h20; omega
        refine VC.seq ?_
        refine VC.region ?_
        refine VL.q (Q.move rfl) ?_
        refine VL.q (Q.fieldAddr fa37_4 rfl) ?_
        refine VL.q (Q.load1 ty3 rfl zM rfl) ?_
        have ho25 := OkP.nil
        have hlo25 := ho25.lo
        have hhi25 := ho25.hi
        have hle25 : (([], 0) : List Part × Int).1.length = 0 := rfl
        refine VL.eff (O.callP ok44 rfl rfl (by decide) (add_c g5 _ _ (([], 0)) 1 false 0 q.rts (by omega) hq.rts (by omega)) zKs (fun _ _ _ => trivial) ?_)
        intro x25 y25
        refine VL.nil ?_
        refine VE.seq ?_
        refine VC.region ?_
        refine VL.q (Q.move rfl) ?_
        refine VL.q (Q.fieldAddr fa37_5 rfl) ?_
        refine VL.q (Q.load1 ty3 rfl zM rfl) ?_
        have ho29 := OkP.nil.add 1 false 0 _ hq.rts
        have hlo29 := ho29.lo
        have hhi29 := ho29.hi
        have hle29 := addP_length ([], 0) 1 false 0 q.rts
        have hz29 : (([], 0) : List Part × Int).1.length = 0 := rfl
        refine VL.eff (O.callP ok44 rfl rfl (by decide) (add_c g5 _ _ (addP ([], 0) 1 false 0 q.rts) 2 true 0 q.cts (by omega) hq.cts (by omega)) zKs (fun _ _ _ => trivial) ?_)
        intro x29 y29
        refine VL.nil ?_
        refine VE.block_normal ?_
        refine VE.then_normal ?_
        have hP : preP q.prot q.rts q.cts = addP (addP ([], 0) 1 false 0 q.rts) 2 true 0 q.cts := by unfold preP; rw [if_neg hp1, if_pos hp]
        rw [hP]
        exact VE.meet x29 trivial zE (List.Sublist.refl _)
      · intro h20
        have hp2 : q.prot ≠ 2 := by simp at h20; omega
        refine VC.skip ?_
        refine VE.block_normal ?_
        refine VE.then_normal ?_
        have hP : preP q.prot q.rts q.cts = ([], 0) := by unfold preP; rw [if_neg hp1, if_neg hp2]
        rw [hP]
        exact VE.meetP (none, 0) trivial zE zKs
  · intro z _
    obtain ⟨zp0, zc0⟩ := z
    dsimp only
    refine VC.seq ?_
    refine VC.seq ?_
    refine VC.region ?_
    refine VL.q (Q.fieldAddr fa37_3 rfl) ?_
    refine VL.q (Q.load1 ty35 rfl zM rfl) ?_
    refine VL.q (Q.move rfl) ?_
    refine VL.q (Q.slc0 sl35 (h := nn) rfl ⟨_, _, rfl, rfl⟩ (by omega)) ?_
    refine VL.q (Q.len sl35 rfl) ?_
    refine VL.q (Q.move rfl) ?_
    refine VL.nil ?_
    refine VE.seq ?_
    refine VC.block ?_
    refine VC.loop (X := Nat × (Option Addr × Nat)) (fun y => [(5, .pointer (some ⟨g5, 0, none⟩)), (6, .func (.func 44) #[.pointer (some ⟨g5, 0, none⟩)] #[]), (2, .pointer (some ⟨g2, 0, none⟩)), (33, .slice p nn c), (34, .int .i64 (nn : Int)), (35, .int .i64 (y.1 : Int))]) (fun y => [.blk g5 [.slice y.2.1 (dataP q.pol q.ack (preP q.prot q.rts q.cts) l y.1).1.length y.2.2, .int .i64 (dataP q.pol q.ack (preP q.prot q.rts q.cts) l y.1).2] 106, .row (.slice y.2.1 (dataP q.pol q.ack (preP q.prot q.rts q.cts) l y.1).1.length y.2.2) 48 6 (dataP q.pol q.ack (preP q.prot q.rts q.cts) l y.1).1.length (pcs (dataP q.pol q.ack (preP q.prot q.rts q.cts) l y.1).1), .blk g2 [.int .u8 (q.prot : Int), .int .u8 (q.pol : Int), .int .i64 lim, .slice p l.length c, .int .i64 q.rts, .int .i64 q.cts, .int .i64 q.ack, .int .i64 q.bar, .int .i64 q.back] 37]) (fun y => y.1 ≤ nn) (fun y => nn - y.1) (0, (zp0, zc0)) (Nat.zero_le _) ?_ ?_
    · exact VS.mk zE (List.Sublist.refl _)
    · intro y hk
      obtain ⟨k, w⟩ := y
      dsimp only at hk
      dsimp only
      have hok := data_ok (pre_ok q.prot q.rts q.cts hq.rts hq.cts) q.pol q.ack l hq.ack hl k (by omega)
      have hlen0 := data_length q.pol q.ack (preP q.prot q.rts q.cts) l k
      have hlp := pre_length q.prot q.rts q.cts hq.prot
      have hlen : (dataP q.pol q.ack (preP q.prot q.rts q.cts) l k).1.length ≤ 2 + 2 * k := by have := hq.prot; rw [hlen0, hlp]; split <;> omega
      refine VC.seq ?_
      refine VC.region ?_
      refine VL.q (Q.lt rfl rfl) ?_
      refine VL.nil ?_
      refine VE.seq ?_
      refine VC.seq ?_
      refine VC.cond rfl ?_ ?_
      · intro h36
        have hlt : k < nn := by have := of_decide_eq_true h36; omega
        have hkl : k < l.length := by omega
        obtain ⟨b0, o0, rfl, hc0⟩ := hro k _ (is_get l k hkl)
        refine VC.skip ?_
        refine VE.seq ?_
        refine VC.seq ?_
        refine VC.block ?_
        refine VC.seq ?_
        refine VC.region ?_
        refine VL.q (Q.move rfl) ?_
        refine VL.q (Q.indexAddr sl35 (j := k) rfl rfl rfl hlt) ?_
        refine VL.q (Q.load0 ty3 rfl (by simpa using hc0) (by simp)) ?_
        refine VL.q (Q.assign rfl) ?_
        refine VL.q (Q.assign rfl) ?_
        refine VL.nil ?_
        refine VE.seq ?_
        refine VC.seq ?_
        refine VC.region ?_
        refine VL.q (Q.move rfl) ?_
        refine VL.q (Q.move rfl) ?_
        refine VL.q (Q.move rfl) ?_
        have ho43 := hok
        have hlo43 := ho43.lo
        have hhi43 := ho43.hi
        have hle43 := hlen
        refine VL.eff (O.callP ok44 rfl rfl (by decide) (add_c g5 _ _ (dataP q.pol q.ack (preP q.prot q.rts q.cts) l k) 4 false k l[k] (by omega) (hl _ (List.getElem_mem hkl)) (by omega)) zKs (fun _ _ _ => trivial) ?_)
        intro x43 y43
        refine VL.nil ?_
        refine VE.seq ?_
        refine VC.seq ?_
        refine VC.region ?_
        refine VL.q (Q.fieldAddr fa37_1 rfl) ?_
        refine VL.q (Q.load1 ty5 rfl zM rfl) ?_
        refine VL.q (Q.eq rfl rfl) ?_
        refine VL.nil ?_
        refine VE.seq ?_
        refine VC.cond rfl ?_ ?_
        · intro h46
          have hp : q.pol = 0 := by simp at h46; omega
          have hD : dataP q.pol q.ack (preP q.prot q.rts q.cts) l (k + 1) = addP (addP (dataP q.pol q.ack (preP q.prot q.rts q.cts) l k) 4 false k l[k]) 5 true k q.ack := by rw [dataP_succ _ _ _ _ _ hkl]; unfold stepP; rw [if_pos hp]
          refine VC.region ?_
          refine VL.q (Q.move rfl) ?_
          refine VL.q (Q.move rfl) ?_
          refine VL.q (Q.fieldAddr fa37_6 rfl) ?_
          refine VL.q (Q.load1 ty3 rfl zM rfl) ?_
          have ho51 := hok.add 4 false k _ (hl _ (List.getElem_mem hkl))
          have hlo51 := ho51.lo
          have hhi51 := ho51.hi
          have hle51 := addP_length (dataP q.pol q.ack (preP q.prot q.rts q.cts) l k) 4 false k l[k]
          have hz51 := hlen
          refine VL.eff (O.callP ok44 rfl rfl (by decide) (add_c g5 _ _ (addP (dataP q.pol q.ack (preP q.prot q.rts q.cts) l k) 4 false k l[k]) 5 true k q.ack (by omega) hq.ack (by omega)) zKs (fun _ _ _ => trivial) ?_)
          intro x51 y51
          refine VL.nil ?_
          refine VE.block_normal ?_
          refine VE.seq ?_
          refine VC.region ?_
          refine VL.q ((by first | exact Q.addI rfl rfl (by omega) (by omega) | exact Q.add rfl rfl)) ?_
          refine VL.q (Q.move rfl) ?_
          refine VL.nil ?_
          refine VE.then_normal ?_
          exact VE.give zE (by dsimp only; rw [hD]; exact List.Sublist.refl _) (fun a W st => ⟨(k + 1, x51), (by show k + 1 ≤ nn; omega), (by show nn - (k + 1) < nn - k; omega), st⟩)
        · intro h46
          have hp : q.pol ≠ 0 := by simp at h46; omega
          have hD : dataP q.pol q.ack (preP q.prot q.rts q.cts) l (k + 1) = addP (dataP q.pol q.ack (preP q.prot q.rts q.cts) l k) 4 false k l[k] := by rw [dataP_succ _ _ _ _ _ hkl]; unfold stepP; rw [if_neg hp]
          refine VC.skip ?_
          refine VE.block_normal ?_
          refine VE.seq ?_
          refine VC.region ?_
          refine VL.q ((by first | exact Q.addI rfl rfl (by omega) (by omega) | exact Q.add rfl rfl)) ?_
          refine VL.q (Q.move rfl) ?_
          refine VL.nil ?_
          refine VE.then_normal ?_
          exact VE.give zE (by dsimp only; rw [hD]; exact List.Sublist.refl _) (fun a W st => ⟨(k + 1, x43), (by show k + 1 ≤ nn; omega), (by show nn - (k + 1) < nn - k; omega), st⟩)
      · intro h36
        have hge : nn = k := by have := of_decide_eq_false h36; omega
        subst hge
        refine VC.exit ?_
        refine VE.then_exit ?_
        refine VE.then_exit ?_
        refine VE.block_here ?_
        refine VE.seq ?_
        refine VC.seqJ (X := Option Addr × Nat) (fun z => [(5, .pointer (some ⟨g5, 0, none⟩))]) (fun z => [.blk g5 [.slice z.1 (q.raw l nn).1.length z.2, .int .i64 (q.raw l nn).2] 106, .row (.slice z.1 (q.raw l nn).1.length z.2) 48 6 (q.raw l nn).1.length (pcs (q.raw l nn).1)]) (fun z => True) ?_ ?_
        · skip
          refine VC.seq ?_
          refine VC.region ?_
          refine VL.q (Q.fieldAddr fa37_1 rfl) ?_
          refine VL.q (Q.load1 ty5 rfl zM rfl) ?_
          refine VL.q (Q.eq rfl rfl) ?_
          refine VL.nil ?_
          refine VE.seq ?_
          refine VC.cond rfl ?_ ?_
          · intro h55
            have hp : q.pol = 2 := by simp at h55; omega
            have hR : q.raw l nn = addP (addP (dataP q.pol q.ack (preP q.prot q.rts q.cts) l nn) 6 false 0 q.bar) 7 true 0 q.back := by unfold Exch.raw postP; rw [if_pos hp]
            refine VC.seq ?_
            refine VC.region ?_
            refine VL.q (Q.move rfl) ?_
            refine VL.q (Q.fieldAddr fa37_7 rfl) ?_
            refine VL.q (Q.load1 ty3 rfl zM rfl) ?_
            have ho59 := hok
            have hlo59 := ho59.lo
            have hhi59 := ho59.hi
            have hle59 := hlen
            refine VL.eff (O.callP ok44 rfl rfl (by decide) (add_c g5 _ _ (dataP q.pol q.ack (preP q.prot q.rts q.cts) l nn) 6 false 0 q.bar (by omega) hq.bar (by omega)) zKs (fun _ _ _ => trivial) ?_)
            intro x59 y59
            refine VL.nil ?_
            refine VE.seq ?_
            refine VC.region ?_
            refine VL.q (Q.move rfl) ?_
            refine VL.q (Q.fieldAddr fa37_8 rfl) ?_
            refine VL.q (Q.load1 ty3 rfl zM rfl) ?_
            have ho63 := hok.add 6 false 0 _ hq.bar
            have hlo63 := ho63.lo
            have hhi63 := ho63.hi
            have hle63 := addP_length (dataP q.pol q.ack (preP q.prot q.rts q.cts) l nn) 6 false 0 q.bar
            have hz63 := hlen
            refine VL.eff (O.callP ok44 rfl rfl (by decide) (add_c g5 _ _ (addP (dataP q.pol q.ack (preP q.prot q.rts q.cts) l nn) 6 false 0 q.bar) 7 true 0 q.back (by omega) hq.back (by omega)) zKs (fun _ _ _ => trivial) ?_)
            intro x63 y63
            refine VL.nil ?_
            refine VE.then_normal ?_
            rw [hR]
            exact VE.meet x63 trivial zE (by repeat (first | exact List.Sublist.refl _ | apply List.Sublist.cons_cons | apply List.Sublist.cons))
          · intro h55
            have hp : q.pol ≠ 2 := by simp at h55; omega
            have hR : q.raw l nn = dataP q.pol q.ack (preP q.prot q.rts q.cts) l nn := by unfold Exch.raw postP; rw [if_neg hp]
            refine VC.skip ?_
            refine VE.then_normal ?_
            rw [hR]
            exact VE.meet w trivial zE zB
        · intro z _
          obtain ⟨zp, zc⟩ := z
          dsimp only
          refine VC.seq ?_
          refine VC.seq ?_
          refine VC.region ?_
          refine VL.q (Q.fieldAddr fa106_0 rfl) ?_
          refine VL.q (Q.load1 ty39 rfl zM rfl) ?_
          refine VL.q (Q.len sl39 rfl) ?_
          refine VL.q (Q.move rfl) ?_
          refine VL.nil ?_
          refine VE.seq ?_
          refine VC.block ?_
          have hrp := raw_pos hq l h1
          have hrs := raw_small hq l (n := nn) (by omega)
          have hor := raw_ok hq hl h2
          have hrh := hor.hi
          refine VK.rowHead (m := (q.raw l nn).1.length) zM hrp ?_
          intro gp hgp _ _
          subst hgp
          refine VC.loop (X := Nat) (fun k => [(5, .pointer (some ⟨g5, 0, none⟩)), (66, .int .i64 ((q.raw l nn).1.length : Int)), (67, .int .i64 (k : Int))]) (fun k => [.blk g5 [.slice (some ⟨gp, 0, none⟩) (q.raw l nn).1.length zc, .int .i64 (q.raw l nn).2] 106, .row (.slice (some ⟨gp, 0, none⟩) (q.raw l nn).1.length zc) 48 6 (q.raw l nn).1.length (pcs (durK (q.raw l nn).2 (q.raw l nn).1 k))]) (fun k => k ≤ (q.raw l nn).1.length) (fun k => (q.raw l nn).1.length - k) 0 (Nat.zero_le _) ?_ ?_
          · exact VS.mk zE (by rw [durK_zero]; exact List.Sublist.refl _)
          · intro k hk
            refine VC.seq ?_
            refine VC.region ?_
            refine VL.q (Q.lt rfl rfl) ?_
            refine VL.nil ?_
            refine VE.seq ?_
            refine VC.seq ?_
            refine VC.cond rfl ?_ ?_
            · intro h68
              have hkr : k < (q.raw l nn).1.length := by have := of_decide_eq_true h68; omega
              obtain ⟨b1, b2, b3⟩ := hor.all _ (List.getElem_mem hkr)
              refine VC.skip ?_
              refine VE.seq ?_
              refine VC.seq ?_
              refine VC.block ?_
              refine VC.seq ?_
              refine VC.region ?_
              refine VL.q (Q.move rfl) ?_
              refine VL.q (Q.assign rfl) ?_
              refine VL.nil ?_
              refine VE.seq ?_
              refine VC.seq ?_
              refine VC.region ?_
              refine VL.q (Q.fieldAddr fa106_0 rfl) ?_
              refine VL.q (Q.load1 ty39 rfl zM rfl) ?_
              refine VL.q (Q.move rfl) ?_
              refine VL.q (Q.indexAddr sl39 (j := k) rfl rfl rfl hkr) ?_
              refine VL.q (Q.assign rfl) ?_
              refine VL.nil ?_
              refine VE.seq ?_
              refine VA.start (Ls := []) (Cs := [(⟨g5, 0 + 1, none⟩, .int .i64 (q.raw l nn).2), (⟨gp, 0 + k * 6 + 3, none⟩, .int .i64 (q.raw l nn).1[k].start), (⟨gp, 0 + k * 6 + 4, none⟩, .int .i64 (q.raw l nn).1[k].air)]) mixed ?_
              refine VA.take 0 rfl (by kernel_rfl) (by kernel_rfl) (by kernel_rfl) (Still.block (Still.then (Still.then (Still.block (Still.then Still.body))))) (List.nil_sublist _) (by first | exact (Cells.cons (by repeat (first  | exact List.Mem.head _ | apply List.Mem.tail)) rfl (Cells.row (by repeat (first  | exact List.Mem.head _ | apply List.Mem.tail)) (by rw [Nat.zero_add]; exact durK_get (q.raw l nn).2 (q.raw l nn).1 k hkr 3 _ rfl) (Cells.row (by repeat (first  | exact List.Mem.head _ | apply List.Mem.tail)) (by rw [Nat.zero_add]; exact durK_get (q.raw l nn).2 (q.raw l nn).1 k hkr 4 _ rfl) Cells.nil))) | exact (Cells.cons (by repeat (first  | exact List.Mem.head _ | apply List.Mem.tail)) rfl (Cells.row (by repeat (first  | exact List.Mem.head _ | apply List.Mem.tail)) (by rw [Nat.zero_add]; exact durK_get1 (q.raw l nn).2 (q.raw l nn).1 k hkr 3 _ (by omega) rfl) (Cells.row (by repeat (first  | exact List.Mem.head _ | apply List.Mem.tail)) (by rw [Nat.zero_add]; exact durK_get1 (q.raw l nn).2 (q.raw l nn).1 k hkr 4 _ (by omega) rfl) Cells.nil)))) (by decide) (Quiet.c (Q.move rfl)) ?_
              refine VA.take 1 rfl (by kernel_rfl) (by kernel_rfl) (by kernel_rfl) (Still.block (Still.then (Still.then (Still.block (Still.then Still.body))))) (List.nil_sublist _) (by first | exact (Cells.cons (by repeat (first  | exact List.Mem.head _ | apply List.Mem.tail)) rfl (Cells.row (by repeat (first  | exact List.Mem.head _ | apply List.Mem.tail)) (by rw [Nat.zero_add]; exact durK_get (q.raw l nn).2 (q.raw l nn).1 k hkr 3 _ rfl) (Cells.row (by repeat (first  | exact List.Mem.head _ | apply List.Mem.tail)) (by rw [Nat.zero_add]; exact durK_get (q.raw l nn).2 (q.raw l nn).1 k hkr 4 _ rfl) Cells.nil))) | exact (Cells.cons (by repeat (first  | exact List.Mem.head _ | apply List.Mem.tail)) rfl (Cells.row (by repeat (first  | exact List.Mem.head _ | apply List.Mem.tail)) (by rw [Nat.zero_add]; exact durK_get1 (q.raw l nn).2 (q.raw l nn).1 k hkr 3 _ (by omega) rfl) (Cells.row (by repeat (first  | exact List.Mem.head _ | apply List.Mem.tail)) (by rw [Nat.zero_add]; exact durK_get1 (q.raw l nn).2 (q.raw l nn).1 k hkr 4 _ (by omega) rfl) Cells.nil)))) (by decide) (Quiet.c (Q.fieldAddr fa106_1 rfl)) ?_
              refine VA.take 2 rfl (by kernel_rfl) (by kernel_rfl) (by kernel_rfl) (Still.block (Still.then (Still.then (Still.block (Still.then Still.body))))) (List.nil_sublist _) (by first | exact (Cells.cons (by repeat (first  | exact List.Mem.head _ | apply List.Mem.tail)) rfl (Cells.row (by repeat (first  | exact List.Mem.head _ | apply List.Mem.tail)) (by rw [Nat.zero_add]; exact durK_get (q.raw l nn).2 (q.raw l nn).1 k hkr 3 _ rfl) (Cells.row (by repeat (first  | exact List.Mem.head _ | apply List.Mem.tail)) (by rw [Nat.zero_add]; exact durK_get (q.raw l nn).2 (q.raw l nn).1 k hkr 4 _ rfl) Cells.nil))) | exact (Cells.cons (by repeat (first  | exact List.Mem.head _ | apply List.Mem.tail)) rfl (Cells.row (by repeat (first  | exact List.Mem.head _ | apply List.Mem.tail)) (by rw [Nat.zero_add]; exact durK_get1 (q.raw l nn).2 (q.raw l nn).1 k hkr 3 _ (by omega) rfl) (Cells.row (by repeat (first  | exact List.Mem.head _ | apply List.Mem.tail)) (by rw [Nat.zero_add]; exact durK_get1 (q.raw l nn).2 (q.raw l nn).1 k hkr 4 _ (by omega) rfl) Cells.nil)))) (by decide) (QC.load ty3 rfl (by repeat (first  | exact List.Mem.head _ | apply List.Mem.tail))) ?_
              refine VA.take 3 rfl (by kernel_rfl) (by kernel_rfl) (by kernel_rfl) (Still.block (Still.then (Still.then (Still.block (Still.then Still.body))))) (List.nil_sublist _) (by first | exact (Cells.cons (by repeat (first  | exact List.Mem.head _ | apply List.Mem.tail)) rfl (Cells.row (by repeat (first  | exact List.Mem.head _ | apply List.Mem.tail)) (by rw [Nat.zero_add]; exact durK_get (q.raw l nn).2 (q.raw l nn).1 k hkr 3 _ rfl) (Cells.row (by repeat (first  | exact List.Mem.head _ | apply List.Mem.tail)) (by rw [Nat.zero_add]; exact durK_get (q.raw l nn).2 (q.raw l nn).1 k hkr 4 _ rfl) Cells.nil))) | exact (Cells.cons (by repeat (first  | exact List.Mem.head _ | apply List.Mem.tail)) rfl (Cells.row (by repeat (first  | exact List.Mem.head _ | apply List.Mem.tail)) (by rw [Nat.zero_add]; exact durK_get1 (q.raw l nn).2 (q.raw l nn).1 k hkr 3 _ (by omega) rfl) (Cells.row (by repeat (first  | exact List.Mem.head _ | apply List.Mem.tail)) (by rw [Nat.zero_add]; exact durK_get1 (q.raw l nn).2 (q.raw l nn).1 k hkr 4 _ (by omega) rfl) Cells.nil)))) (by decide) (Quiet.c (Q.move rfl)) ?_
              refine VA.take 4 rfl (by kernel_rfl) (by kernel_rfl) (by kernel_rfl) (Still.block (Still.then (Still.then (Still.block (Still.then Still.body))))) (List.nil_sublist _) (by first | exact (Cells.cons (by repeat (first  | exact List.Mem.head _ | apply List.Mem.tail)) rfl (Cells.row (by repeat (first  | exact List.Mem.head _ | apply List.Mem.tail)) (by rw [Nat.zero_add]; exact durK_get (q.raw l nn).2 (q.raw l nn).1 k hkr 3 _ rfl) (Cells.row (by repeat (first  | exact List.Mem.head _ | apply List.Mem.tail)) (by rw [Nat.zero_add]; exact durK_get (q.raw l nn).2 (q.raw l nn).1 k hkr 4 _ rfl) Cells.nil))) | exact (Cells.cons (by repeat (first  | exact List.Mem.head _ | apply List.Mem.tail)) rfl (Cells.row (by repeat (first  | exact List.Mem.head _ | apply List.Mem.tail)) (by rw [Nat.zero_add]; exact durK_get1 (q.raw l nn).2 (q.raw l nn).1 k hkr 3 _ (by omega) rfl) (Cells.row (by repeat (first  | exact List.Mem.head _ | apply List.Mem.tail)) (by rw [Nat.zero_add]; exact durK_get1 (q.raw l nn).2 (q.raw l nn).1 k hkr 4 _ (by omega) rfl) Cells.nil)))) (by decide) (Quiet.c (Q.nilCheck rfl)) ?_
              refine VA.take 5 rfl (by kernel_rfl) (by kernel_rfl) (by kernel_rfl) (Still.block (Still.then (Still.then (Still.block (Still.then Still.body))))) (List.nil_sublist _) (by first | exact (Cells.cons (by repeat (first  | exact List.Mem.head _ | apply List.Mem.tail)) rfl (Cells.row (by repeat (first  | exact List.Mem.head _ | apply List.Mem.tail)) (by rw [Nat.zero_add]; exact durK_get (q.raw l nn).2 (q.raw l nn).1 k hkr 3 _ rfl) (Cells.row (by repeat (first  | exact List.Mem.head _ | apply List.Mem.tail)) (by rw [Nat.zero_add]; exact durK_get (q.raw l nn).2 (q.raw l nn).1 k hkr 4 _ rfl) Cells.nil))) | exact (Cells.cons (by repeat (first  | exact List.Mem.head _ | apply List.Mem.tail)) rfl (Cells.row (by repeat (first  | exact List.Mem.head _ | apply List.Mem.tail)) (by rw [Nat.zero_add]; exact durK_get1 (q.raw l nn).2 (q.raw l nn).1 k hkr 3 _ (by omega) rfl) (Cells.row (by repeat (first  | exact List.Mem.head _ | apply List.Mem.tail)) (by rw [Nat.zero_add]; exact durK_get1 (q.raw l nn).2 (q.raw l nn).1 k hkr 4 _ (by omega) rfl) Cells.nil)))) (by decide) (Quiet.c (Q.fieldAddr fa48_3 rfl)) ?_
              refine VA.take 6 rfl (by kernel_rfl) (by kernel_rfl) (by kernel_rfl) (Still.block (Still.then (Still.then (Still.block (Still.then Still.body))))) (List.nil_sublist _) (by first | exact (Cells.cons (by repeat (first  | exact List.Mem.head _ | apply List.Mem.tail)) rfl (Cells.row (by repeat (first  | exact List.Mem.head _ | apply List.Mem.tail)) (by rw [Nat.zero_add]; exact durK_get (q.raw l nn).2 (q.raw l nn).1 k hkr 3 _ rfl) (Cells.row (by repeat (first  | exact List.Mem.head _ | apply List.Mem.tail)) (by rw [Nat.zero_add]; exact durK_get (q.raw l nn).2 (q.raw l nn).1 k hkr 4 _ rfl) Cells.nil))) | exact (Cells.cons (by repeat (first  | exact List.Mem.head _ | apply List.Mem.tail)) rfl (Cells.row (by repeat (first  | exact List.Mem.head _ | apply List.Mem.tail)) (by rw [Nat.zero_add]; exact durK_get1 (q.raw l nn).2 (q.raw l nn).1 k hkr 3 _ (by omega) rfl) (Cells.row (by repeat (first  | exact List.Mem.head _ | apply List.Mem.tail)) (by rw [Nat.zero_add]; exact durK_get1 (q.raw l nn).2 (q.raw l nn).1 k hkr 4 _ (by omega) rfl) Cells.nil)))) (by decide) (QC.load ty3 rfl (by repeat (first  | exact List.Mem.head _ | apply List.Mem.tail))) ?_
              refine VA.take 7 rfl (by kernel_rfl) (by kernel_rfl) (by kernel_rfl) (Still.block (Still.then (Still.then (Still.block (Still.then Still.body))))) (List.nil_sublist _) (by first | exact (Cells.cons (by repeat (first  | exact List.Mem.head _ | apply List.Mem.tail)) rfl (Cells.row (by repeat (first  | exact List.Mem.head _ | apply List.Mem.tail)) (by rw [Nat.zero_add]; exact durK_get (q.raw l nn).2 (q.raw l nn).1 k hkr 3 _ rfl) (Cells.row (by repeat (first  | exact List.Mem.head _ | apply List.Mem.tail)) (by rw [Nat.zero_add]; exact durK_get (q.raw l nn).2 (q.raw l nn).1 k hkr 4 _ rfl) Cells.nil))) | exact (Cells.cons (by repeat (first  | exact List.Mem.head _ | apply List.Mem.tail)) rfl (Cells.row (by repeat (first  | exact List.Mem.head _ | apply List.Mem.tail)) (by rw [Nat.zero_add]; exact durK_get1 (q.raw l nn).2 (q.raw l nn).1 k hkr 3 _ (by omega) rfl) (Cells.row (by repeat (first  | exact List.Mem.head _ | apply List.Mem.tail)) (by rw [Nat.zero_add]; exact durK_get1 (q.raw l nn).2 (q.raw l nn).1 k hkr 4 _ (by omega) rfl) Cells.nil)))) (by decide) (Quiet.c ((by first | exact Q.subI rfl rfl (by omega) (by omega) | exact Q.sub rfl rfl))) ?_
              refine VA.take 8 rfl (by kernel_rfl) (by kernel_rfl) (by kernel_rfl) (Still.block (Still.then (Still.then (Still.block (Still.then Still.body))))) (List.nil_sublist _) (by first | exact (Cells.cons (by repeat (first  | exact List.Mem.head _ | apply List.Mem.tail)) rfl (Cells.row (by repeat (first  | exact List.Mem.head _ | apply List.Mem.tail)) (by rw [Nat.zero_add]; exact durK_get (q.raw l nn).2 (q.raw l nn).1 k hkr 3 _ rfl) (Cells.row (by repeat (first  | exact List.Mem.head _ | apply List.Mem.tail)) (by rw [Nat.zero_add]; exact durK_get (q.raw l nn).2 (q.raw l nn).1 k hkr 4 _ rfl) Cells.nil))) | exact (Cells.cons (by repeat (first  | exact List.Mem.head _ | apply List.Mem.tail)) rfl (Cells.row (by repeat (first  | exact List.Mem.head _ | apply List.Mem.tail)) (by rw [Nat.zero_add]; exact durK_get1 (q.raw l nn).2 (q.raw l nn).1 k hkr 3 _ (by omega) rfl) (Cells.row (by repeat (first  | exact List.Mem.head _ | apply List.Mem.tail)) (by rw [Nat.zero_add]; exact durK_get1 (q.raw l nn).2 (q.raw l nn).1 k hkr 4 _ (by omega) rfl) Cells.nil)))) (by decide) (Quiet.c (Q.move rfl)) ?_
              refine VA.take 9 rfl (by kernel_rfl) (by kernel_rfl) (by kernel_rfl) (Still.block (Still.then (Still.then (Still.block (Still.then Still.body))))) (List.nil_sublist _) (by first | exact (Cells.cons (by repeat (first  | exact List.Mem.head _ | apply List.Mem.tail)) rfl (Cells.row (by repeat (first  | exact List.Mem.head _ | apply List.Mem.tail)) (by rw [Nat.zero_add]; exact durK_get (q.raw l nn).2 (q.raw l nn).1 k hkr 3 _ rfl) (Cells.row (by repeat (first  | exact List.Mem.head _ | apply List.Mem.tail)) (by rw [Nat.zero_add]; exact durK_get (q.raw l nn).2 (q.raw l nn).1 k hkr 4 _ rfl) Cells.nil))) | exact (Cells.cons (by repeat (first  | exact List.Mem.head _ | apply List.Mem.tail)) rfl (Cells.row (by repeat (first  | exact List.Mem.head _ | apply List.Mem.tail)) (by rw [Nat.zero_add]; exact durK_get1 (q.raw l nn).2 (q.raw l nn).1 k hkr 3 _ (by omega) rfl) (Cells.row (by repeat (first  | exact List.Mem.head _ | apply List.Mem.tail)) (by rw [Nat.zero_add]; exact durK_get1 (q.raw l nn).2 (q.raw l nn).1 k hkr 4 _ (by omega) rfl) Cells.nil)))) (by decide) (Quiet.c (Q.nilCheck rfl)) ?_
              refine VA.take 10 rfl (by kernel_rfl) (by kernel_rfl) (by kernel_rfl) (Still.block (Still.then (Still.then (Still.block (Still.then Still.body))))) (List.nil_sublist _) (by first | exact (Cells.cons (by repeat (first  | exact List.Mem.head _ | apply List.Mem.tail)) rfl (Cells.row (by repeat (first  | exact List.Mem.head _ | apply List.Mem.tail)) (by rw [Nat.zero_add]; exact durK_get (q.raw l nn).2 (q.raw l nn).1 k hkr 3 _ rfl) (Cells.row (by repeat (first  | exact List.Mem.head _ | apply List.Mem.tail)) (by rw [Nat.zero_add]; exact durK_get (q.raw l nn).2 (q.raw l nn).1 k hkr 4 _ rfl) Cells.nil))) | exact (Cells.cons (by repeat (first  | exact List.Mem.head _ | apply List.Mem.tail)) rfl (Cells.row (by repeat (first  | exact List.Mem.head _ | apply List.Mem.tail)) (by rw [Nat.zero_add]; exact durK_get1 (q.raw l nn).2 (q.raw l nn).1 k hkr 3 _ (by omega) rfl) (Cells.row (by repeat (first  | exact List.Mem.head _ | apply List.Mem.tail)) (by rw [Nat.zero_add]; exact durK_get1 (q.raw l nn).2 (q.raw l nn).1 k hkr 4 _ (by omega) rfl) Cells.nil)))) (by decide) (Quiet.c (Q.fieldAddr fa48_4 rfl)) ?_
              refine VA.take 11 rfl (by kernel_rfl) (by kernel_rfl) (by kernel_rfl) (Still.block (Still.then (Still.then (Still.block (Still.then Still.body))))) (List.nil_sublist _) (by first | exact (Cells.cons (by repeat (first  | exact List.Mem.head _ | apply List.Mem.tail)) rfl (Cells.row (by repeat (first  | exact List.Mem.head _ | apply List.Mem.tail)) (by rw [Nat.zero_add]; exact durK_get (q.raw l nn).2 (q.raw l nn).1 k hkr 3 _ rfl) (Cells.row (by repeat (first  | exact List.Mem.head _ | apply List.Mem.tail)) (by rw [Nat.zero_add]; exact durK_get (q.raw l nn).2 (q.raw l nn).1 k hkr 4 _ rfl) Cells.nil))) | exact (Cells.cons (by repeat (first  | exact List.Mem.head _ | apply List.Mem.tail)) rfl (Cells.row (by repeat (first  | exact List.Mem.head _ | apply List.Mem.tail)) (by rw [Nat.zero_add]; exact durK_get1 (q.raw l nn).2 (q.raw l nn).1 k hkr 3 _ (by omega) rfl) (Cells.row (by repeat (first  | exact List.Mem.head _ | apply List.Mem.tail)) (by rw [Nat.zero_add]; exact durK_get1 (q.raw l nn).2 (q.raw l nn).1 k hkr 4 _ (by omega) rfl) Cells.nil)))) (by decide) (QC.load ty3 rfl (by repeat (first  | exact List.Mem.head _ | apply List.Mem.tail))) ?_
              refine VA.take 12 rfl (by kernel_rfl) (by kernel_rfl) (by kernel_rfl) (Still.block (Still.then (Still.then (Still.block (Still.then Still.body))))) (List.nil_sublist _) (by first | exact (Cells.cons (by repeat (first  | exact List.Mem.head _ | apply List.Mem.tail)) rfl (Cells.row (by repeat (first  | exact List.Mem.head _ | apply List.Mem.tail)) (by rw [Nat.zero_add]; exact durK_get (q.raw l nn).2 (q.raw l nn).1 k hkr 3 _ rfl) (Cells.row (by repeat (first  | exact List.Mem.head _ | apply List.Mem.tail)) (by rw [Nat.zero_add]; exact durK_get (q.raw l nn).2 (q.raw l nn).1 k hkr 4 _ rfl) Cells.nil))) | exact (Cells.cons (by repeat (first  | exact List.Mem.head _ | apply List.Mem.tail)) rfl (Cells.row (by repeat (first  | exact List.Mem.head _ | apply List.Mem.tail)) (by rw [Nat.zero_add]; exact durK_get1 (q.raw l nn).2 (q.raw l nn).1 k hkr 3 _ (by omega) rfl) (Cells.row (by repeat (first  | exact List.Mem.head _ | apply List.Mem.tail)) (by rw [Nat.zero_add]; exact durK_get1 (q.raw l nn).2 (q.raw l nn).1 k hkr 4 _ (by omega) rfl) Cells.nil)))) (by decide) (Quiet.c ((by first | exact Q.subI rfl rfl (by omega) (by omega) | exact Q.sub rfl rfl))) ?_
              refine VA.take 13 rfl (by kernel_rfl) (by kernel_rfl) (by kernel_rfl) (Still.block (Still.then (Still.then (Still.block (Still.then Still.body))))) (List.nil_sublist _) (by first | exact (Cells.cons (by repeat (first  | exact List.Mem.head _ | apply List.Mem.tail)) rfl (Cells.row (by repeat (first  | exact List.Mem.head _ | apply List.Mem.tail)) (by rw [Nat.zero_add]; exact durK_get (q.raw l nn).2 (q.raw l nn).1 k hkr 3 _ rfl) (Cells.row (by repeat (first  | exact List.Mem.head _ | apply List.Mem.tail)) (by rw [Nat.zero_add]; exact durK_get (q.raw l nn).2 (q.raw l nn).1 k hkr 4 _ rfl) Cells.nil))) | exact (Cells.cons (by repeat (first  | exact List.Mem.head _ | apply List.Mem.tail)) rfl (Cells.row (by repeat (first  | exact List.Mem.head _ | apply List.Mem.tail)) (by rw [Nat.zero_add]; exact durK_get1 (q.raw l nn).2 (q.raw l nn).1 k hkr 3 _ (by omega) rfl) (Cells.row (by repeat (first  | exact List.Mem.head _ | apply List.Mem.tail)) (by rw [Nat.zero_add]; exact durK_get1 (q.raw l nn).2 (q.raw l nn).1 k hkr 4 _ (by omega) rfl) Cells.nil)))) (by decide) (Quiet.c (Q.nilCheck rfl)) ?_
              refine VA.take 14 rfl (by kernel_rfl) (by kernel_rfl) (by kernel_rfl) (Still.block (Still.then (Still.then (Still.block (Still.then Still.body))))) (List.nil_sublist _) (by first | exact (Cells.cons (by repeat (first  | exact List.Mem.head _ | apply List.Mem.tail)) rfl (Cells.row (by repeat (first  | exact List.Mem.head _ | apply List.Mem.tail)) (by rw [Nat.zero_add]; exact durK_get (q.raw l nn).2 (q.raw l nn).1 k hkr 3 _ rfl) (Cells.row (by repeat (first  | exact List.Mem.head _ | apply List.Mem.tail)) (by rw [Nat.zero_add]; exact durK_get (q.raw l nn).2 (q.raw l nn).1 k hkr 4 _ rfl) Cells.nil))) | exact (Cells.cons (by repeat (first  | exact List.Mem.head _ | apply List.Mem.tail)) rfl (Cells.row (by repeat (first  | exact List.Mem.head _ | apply List.Mem.tail)) (by rw [Nat.zero_add]; exact durK_get1 (q.raw l nn).2 (q.raw l nn).1 k hkr 3 _ (by omega) rfl) (Cells.row (by repeat (first  | exact List.Mem.head _ | apply List.Mem.tail)) (by rw [Nat.zero_add]; exact durK_get1 (q.raw l nn).2 (q.raw l nn).1 k hkr 4 _ (by omega) rfl) Cells.nil)))) (by decide) (Quiet.c (Q.fieldAddr fa48_5 rfl)) ?_
              refine VA.all (rs := [15]) (by kernel_rfl) (by simp) ?_
              refine VA.forall1 ?_
              · skip
                refine VA.eff rfl ?_
                refine id (O.storeRow ty3 rfl rfl rfl rfl zA (by rw [Nat.zero_add]; exact durK_put (q.raw l nn).2 (q.raw l nn).1 k hkr _ rfl) ?_)
                refine VA.next (List.nil_sublist _) (by first | exact (Cells.cons (by repeat (first  | exact List.Mem.head _ | apply List.Mem.tail)) rfl (Cells.row (by repeat (first  | exact List.Mem.head _ | apply List.Mem.tail)) (by rw [Nat.zero_add]; exact durK_get (q.raw l nn).2 (q.raw l nn).1 k hkr 3 _ rfl) (Cells.row (by repeat (first  | exact List.Mem.head _ | apply List.Mem.tail)) (by rw [Nat.zero_add]; exact durK_get (q.raw l nn).2 (q.raw l nn).1 k hkr 4 _ rfl) Cells.nil))) | exact (Cells.cons (by repeat (first  | exact List.Mem.head _ | apply List.Mem.tail)) rfl (Cells.row (by repeat (first  | exact List.Mem.head _ | apply List.Mem.tail)) (by rw [Nat.zero_add]; exact durK_get1 (q.raw l nn).2 (q.raw l nn).1 k hkr 3 _ (by omega) rfl) (Cells.row (by repeat (first  | exact List.Mem.head _ | apply List.Mem.tail)) (by rw [Nat.zero_add]; exact durK_get1 (q.raw l nn).2 (q.raw l nn).1 k hkr 4 _ (by omega) rfl) Cells.nil)))) ?_
                refine VA.done (by kernel_rfl) ?_
                refine VE.block_normal ?_
                refine VE.seq ?_
                refine VC.region ?_
                refine VL.q ((by first | exact Q.addI rfl rfl (by omega) (by omega) | exact Q.add rfl rfl)) ?_
                refine VL.q (Q.move rfl) ?_
                refine VL.nil ?_
                refine VE.then_normal ?_
                exact VE.round (k + 1) (by omega) (by omega) zE (List.Sublist.refl _)
            · intro h68
              have hge : k = (q.raw l nn).1.length := by have := of_decide_eq_false h68; omega
              subst hge
              refine VC.exit ?_
              refine VE.then_exit ?_
              refine VE.then_exit ?_
              refine VE.block_here ?_
              refine VE.seq ?_
              refine VC.seq ?_
              refine VC.region ?_
              refine VL.q (Q.fieldAddr fa106_0 rfl) ?_
              refine VL.q (Q.load1 ty39 rfl zM rfl) ?_
              refine VL.q (Q.assign rfl) ?_
              refine VL.nil ?_
              refine VE.seq ?_
              refine VC.ret ?_
              exact VE.ret rfl (.tmp rfl .nil) (some ⟨gp, 0, none⟩, zc) trivial rfl (by rw [durK_all]; exact .cons _ (List.Sublist.refl _))

end Go.Proofs.YtencghlmckbmlaaDoor
