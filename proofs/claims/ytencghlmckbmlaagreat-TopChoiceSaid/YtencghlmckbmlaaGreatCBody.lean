/- The contracts of package body: a beacon is written. Conditions: those that each bears. -/
import Derived.Test.YtencghlmckbmlaaGreatRows
import Derived.Test.YtencghlmckbmlaaGreatCOctet
import Derived.Test.YtencghlmckbmlaaGreatCElem2
namespace Go.Proofs.YtencghlmckbmlaaGreat
open Go Go.RowKit Go.Sx
set_option maxRecDepth 100000

theorem fa111_0 : tyField Tryz.prog 111 0 = some 0 := by kernel_rfl
theorem fa111_1 : tyField Tryz.prog 111 1 = some 1 := by kernel_rfl
theorem fa111_2 : tyField Tryz.prog 111 2 = some 2 := by kernel_rfl
theorem fa111_3 : tyField Tryz.prog 111 3 = some 3 := by kernel_rfl
theorem fa279_0 : tyField Tryz.prog 279 0 = some 0 := by kernel_rfl
theorem lay279 : laysOf Tryz.prog 279 = some ([.slice none 0 0], [(0, 1)]) := by kernel_rfl
theorem ok140 : okFunc Tryz.prog 140 = true := by kernel_rfl
theorem ok141 : okFunc Tryz.prog 141 = true := by kernel_rfl
theorem ok142 : okFunc Tryz.prog 142 = true := by kernel_rfl
theorem ok171 : okFunc Tryz.prog 171 = true := by kernel_rfl
theorem ok193 : okFunc Tryz.prog 193 = true := by kernel_rfl
theorem ok194 : okFunc Tryz.prog 194 = true := by kernel_rfl
theorem sl36 : tySlice Tryz.prog 36 = some (26, 1, 2) := by kernel_rfl
theorem ty108 : tySz Tryz.prog 108 = some (false, 1) := by kernel_rfl
theorem ty26 : tySz Tryz.prog 26 = some (false, 1) := by kernel_rfl
theorem ze26 : (Tryz.prog.info? 26).bind (·.zero) = some (.int .u16 0) := by kernel_rfl

theorem fresh0 {A : List Nat} {N : Nat} (h : ∀ j ∈ A, j ∈ ([] : List Nat) ∨ N ≤ j) : ∀ j ∈ A, N ≤ j := fun j hj => (h j hj).elim (fun h => by cases h) id
/-- elements as they lie in memory -/
def RdE (p : Option Addr) (els : List El) (W : World) : Prop := Rd W p (els.flatMap elC) ∧ ∀ e ∈ els, Rd W e.p (bs e.d)
theorem RdE.only0 {p : Option Addr} {els : List El} {W0 W : World} (h : RdE p els W0) (ho : Only [] W0 W) : RdE p els W := ⟨h.1.only0 ho, fun e he => (h.2 e he).only0 ho⟩
/-- the bytes of a beacon -/
def bcnHead (iv : Nat) : List UInt8 := ([] ++ putLE 8 7) ++ putLE 2 iv ++ putLE 2 0
def bcnB (iv : Nat) (els : List El) : List UInt8 := bcnHead iv ++ encE els
theorem bcnHead_len (iv : Nat) : (bcnHead iv).length = 12 := rfl
theorem bcnB_len (iv : Nat) (els : List El) : (bcnB iv els).length = 12 + (encE els).length := by rw [bcnB, List.length_append, bcnHead_len]

theorem wtwo_c (gw gs : Nat) (p : Option Addr) (m c : Nat) (l : List UInt8) (hl : l.length = m) (hm : m ≤ 1000) (a b : Nat) (ha : a < 65536) (hb : b < 65536) :
  Does Tryz.prog 141 [.pointer (some ⟨gw, 0, none⟩), .slice (some ⟨gs, 0, none⟩) 2 2] [.blk gw [.slice p m c] 279, .row (.slice p m c) 5 1 m (bs l), .blk gs [.int .u16 (a : Int), .int .u16 (b : Int)] 26] (fun _ => True) (X := Option Addr × Nat) (fun x => m + 4 ≤ x.2) (fun _ => .tuple #[]) (fun x => [.blk gw [.slice x.1 (m + 4) x.2] 279, .row (.slice x.1 (m + 4) x.2) 5 1 (m + 4) (bs (l ++ putLE 2 a ++ putLE 2 b))]) := by
 refine Does.enter Tryz.func141 rfl (m := 22) rfl (by simp) ?_
 intro W0 hro
 refine VC.seq ?_
 refine VC.region ?_
 refine VL.q (Q.move rfl) ?_
 refine VL.q (Q.len sl36 rfl) ?_
 refine VL.q (Q.move rfl) ?_
 refine VL.nil ?_
 refine VE.seq ?_
 refine VC.block ?_
 refine VC.rounds 4 ?_
 refine VC.rnd (m := 3) ?_
 refine VC.seq ?_
 refine VC.region ?_
 refine VL.q (Q.lt rfl rfl) ?_
 refine VL.nil ?_
 refine VE.seq ?_
 refine VC.seq ?_
 refine VC.condT rfl ?_
 refine VC.skip ?_
 refine VE.seq ?_
 refine VC.seq ?_
 refine VC.block ?_
 refine VC.seq ?_
 refine VC.region ?_
 refine VL.q (Q.indexAddr sl36 (j := 0) rfl rfl rfl (by omega)) ?_
 refine VL.q (Q.load1 ty26 rfl zM rfl) ?_
 refine VL.q (Q.assign rfl) ?_
 refine VL.nil ?_
 refine VE.seq ?_
 refine VC.region ?_
 refine VL.q (Q.move rfl) ?_
 refine VL.q (Q.move rfl) ?_
 refine VL.q (Q.nilCheck rfl) ?_
 refine VL.q (Q.fieldAddr fa279_0 rfl) ?_
 refine VL.q (Q.load1 ty23 rfl zM rfl) ?_
 refine VL.q (Q.move rfl) ?_
 refine VL.eff (O.call0 ok193 rfl rfl (by decide) (oput16_c p m c a l hl (by omega) ha) (fun _ _ hW => Rd.row hW zM) ?_)
 intro x18 y18
 refine VL.q (Q.nilCheck rfl) ?_
 refine VL.q (Q.fieldAddr fa279_0 rfl) ?_
 refine VL.eff (O.store ty23 rfl rfl rfl rfl zU zP ?_)
 refine VL.nil ?_
 refine VE.block_normal ?_
 refine VE.seq ?_
 refine VC.region ?_
 refine VL.quietE (v' := .int .i64 1) (by decide) ((by first | exact Q.addI rfl rfl (by omega) (by omega) | exact Q.add rfl rfl)) (by rfl) ?_
 refine VL.q (Q.move rfl) ?_
 refine VL.nil ?_
 refine VE.then_normal ?_
 refine VC.rnd (m := 2) ?_
 refine VC.seq ?_
 refine VC.region ?_
 refine VL.q (Q.lt rfl rfl) ?_
 refine VL.nil ?_
 refine VE.seq ?_
 refine VC.seq ?_
 refine VC.condT rfl ?_
 refine VC.skip ?_
 refine VE.seq ?_
 refine VC.seq ?_
 refine VC.block ?_
 refine VC.seq ?_
 refine VC.region ?_
 refine VL.q (Q.indexAddr sl36 (j := 1) rfl rfl rfl (by omega)) ?_
 refine VL.q (Q.load1 ty26 rfl zM rfl) ?_
 refine VL.q (Q.assign rfl) ?_
 refine VL.nil ?_
 refine VE.seq ?_
 refine VC.region ?_
 refine VL.q (Q.move rfl) ?_
 refine VL.q (Q.move rfl) ?_
 refine VL.q (Q.nilCheck rfl) ?_
 refine VL.q (Q.fieldAddr fa279_0 rfl) ?_
 refine VL.q (Q.load1 ty23 rfl zM rfl) ?_
 refine VL.q (Q.move rfl) ?_
 refine VL.eff (O.call0 ok193 rfl rfl (by decide) (oput16_c x18.1 (m + 2) x18.2 b (l ++ putLE 2 a) (by rw [List.length_append, hl]; rfl) (by omega) hb) (fun _ _ hW => Rd.row hW zM) ?_)
 intro x18_1 y18_1
 refine VL.q (Q.nilCheck rfl) ?_
 refine VL.q (Q.fieldAddr fa279_0 rfl) ?_
 refine VL.eff (O.store ty23 rfl rfl rfl rfl zU zP ?_)
 refine VL.nil ?_
 refine VE.block_normal ?_
 refine VE.seq ?_
 refine VC.region ?_
 refine VL.quietE (v' := .int .i64 2) (by decide) ((by first | exact Q.addI rfl rfl (by omega) (by omega) | exact Q.add rfl rfl)) (by rfl) ?_
 refine VL.q (Q.move rfl) ?_
 refine VL.nil ?_
 refine VE.then_normal ?_
 refine VC.rnd (m := 1) ?_
 refine VC.seq ?_
 refine VC.region ?_
 refine VL.q (Q.lt rfl rfl) ?_
 refine VL.nil ?_
 refine VE.seq ?_
 refine VC.seq ?_
 refine VC.condF rfl ?_
 refine VC.exit ?_
 refine VE.then_exit ?_
 refine VE.then_exit ?_
 refine VE.block_here ?_
 rw [show m + 2 + 2 = m + 4 from rfl]
 refine VK.picks (Lin := [.blk gw [.slice x18_1.1 (m + 4) x18_1.2] 279, .row (.slice x18_1.1 (m + 4) x18_1.2) 5 1 (m + 4) (bs (l ++ putLE 2 a ++ putLE 2 b))]) zM2 ?_
 exact VE.end rfl (.nil) x18_1 y18_1 rfl zB

theorem wend_c (gw : Nat) (p q : Option Addr) (m c k d : Nat) (l l2 : List UInt8) (hl : l.length = m) (hl2 : l2.length = k) (hm : m + k ≤ 2304) :
  Does Tryz.prog 171 [.pointer (some ⟨gw, 0, none⟩), .slice q k d] [.blk gw [.slice p m c] 279, .row (.slice p m c) 5 1 m (bs l), .row (.slice q k d) 5 1 k (bs l2)] (fun _ => True) (X := Option Addr × Nat) (fun x => m + k ≤ x.2) (fun x => .tuple #[.slice x.1 (m + k) x.2, .int .i64 0]) (fun x => [.row (.slice x.1 (m + k) x.2) 5 1 (m + k) (bs (l ++ l2))]) := by
 refine Does.enter Tryz.func171 rfl (m := 21) rfl (by simp) ?_
 intro W0 hro
 refine VC.seq ?_
 refine VC.region ?_
 refine VL.q (Q.assign rfl) ?_
 refine VL.q (Q.assign rfl) ?_
 refine VL.nil ?_
 refine VE.seq ?_
 refine VC.seq ?_
 refine VC.seq ?_
 refine VC.region ?_
 refine VL.q (Q.move rfl) ?_
 refine VL.q (Q.nilCheck rfl) ?_
 refine VL.q (Q.fieldAddr fa279_0 rfl) ?_
 refine VL.q (Q.load1 ty23 rfl zM rfl) ?_
 refine VL.q (Q.len sl23 rfl) ?_
 refine VL.q (Q.move rfl) ?_
 refine VL.q (Q.len sl23 rfl) ?_
 refine VL.q ((by first | exact Q.addI rfl rfl (by omega) (by omega) | exact Q.add rfl rfl)) ?_
 refine VL.quietE (v' := .bool false) (by decide) (Q.gt rfl rfl) (congrArg Value.bool (decide_eq_false (by omega))) ?_
 refine VL.nil ?_
 refine VE.seq ?_
 refine VC.condF rfl ?_
 refine VC.skip ?_
 refine VE.seq ?_
 refine VC.seq ?_
 refine VC.region ?_
 refine VL.q (Q.move rfl) ?_
 refine VL.q (Q.nilCheck rfl) ?_
 refine VL.q (Q.fieldAddr fa279_0 rfl) ?_
 refine VL.q (Q.load1 ty23 rfl zM rfl) ?_
 refine VL.q (Q.move rfl) ?_
 refine VL.eff (O.append sl23 ze5 rfl (by decide) rfl rfl (by rw [bs_length]; omega) (bs_one l2) (by decide) (by unfold maxLen; omega) (by omega) zA (fun _ _ hW => Rd.row hW zM) ?_)
 intro p20 c20 hc20
 rw [← bs_append]
 refine VL.q (Q.assign rfl) ?_
 refine VL.q (Q.assign rfl) ?_
 refine VL.nil ?_
 refine VE.seq ?_
 refine VC.ret ?_
 exact VE.ret rfl (.tmp rfl (.tmp rfl .nil)) (p20, c20) hc20 rfl zB

theorem welems_c (Wb : World) (gw : Nat) (p : Option Addr) (m c : Nat) (l : List UInt8) (hl : l.length = m) (pe : Option Addr) (ce : Nat) (els : List El) (hok : ∀ e ∈ els, ElOk e) (hln : els.length ≤ 50) (hm : m + (encE els).length ≤ 2304) (hre : RdE pe els Wb) (hfr : ∀ j ∈ List.flatMap Rs.ids [.blk gw [.slice p m c] 279, .row (.slice p m c) 5 1 m (bs l)], Wb.heap.size ≤ j) :
  Does Tryz.prog 142 [.pointer (some ⟨gw, 0, none⟩), .slice pe els.length ce] [.blk gw [.slice p m c] 279, .row (.slice p m c) 5 1 m (bs l)] (fun W => Only [] Wb W) (X := Option Addr × Nat) (fun x => m + (encE els).length ≤ x.2) (fun x => .tuple #[.slice x.1 (m + (encE els).length) x.2, .int .i64 0]) (fun x => [.row (.slice x.1 (m + (encE els).length) x.2) 5 1 (m + (encE els).length) (bs (l ++ encE els))]) := by
 refine Does.enter Tryz.func142 rfl (m := 21) rfl (by simp) ?_
 intro W0 hro
 refine VC.seq ?_
 refine VC.region ?_
 refine VL.q (Q.assign rfl) ?_
 refine VL.q (Q.assign rfl) ?_
 refine VL.nil ?_
 refine VE.seq ?_
 refine VC.seq ?_
 refine VC.region ?_
 refine VL.q (Q.move rfl) ?_
 refine VL.eff (O.call0 ok194 rfl rfl (by decide) (elencode_c pe ce els hok hln) (fun _ ho _ => hre.only0 (only_base hro ho hfr)) ?_)
 intro x10 y10
 refine VL.q (Q.move rfl) ?_
 refine VL.q (Q.extract rfl rfl) ?_
 refine VL.q (Q.extract rfl rfl) ?_
 refine VL.q (Q.assign rfl) ?_
 refine VL.q (Q.assign rfl) ?_
 refine VL.nil ?_
 refine VE.seq ?_
 refine VC.seq ?_
 refine VC.seq ?_
 refine VC.region ?_
 refine VL.q (Q.move rfl) ?_
 refine VL.quietE (v' := .bool false) (by decide) (Q.ne rfl rfl) (by rfl) ?_
 refine VL.nil ?_
 refine VE.seq ?_
 refine VC.condF rfl ?_
 refine VC.skip ?_
 refine VE.seq ?_
 refine VC.seq ?_
 refine VC.region ?_
 refine VL.q (Q.move rfl) ?_
 refine VL.q (Q.move rfl) ?_
 refine VL.eff (O.callF ok171 rfl rfl (by decide) (wend_c gw p x10.1 m c (encE els).length x10.2 l (encE els) hl rfl hm) zM2 (fun _ _ _ => trivial) ?_)
 intro x18 y18
 refine VL.q (Q.extract rfl rfl) ?_
 refine VL.q (Q.extract rfl rfl) ?_
 refine VL.q (Q.assign rfl) ?_
 refine VL.q (Q.assign rfl) ?_
 refine VL.nil ?_
 refine VE.seq ?_
 refine VC.ret ?_
 exact VE.ret rfl (.tmp rfl (.tmp rfl .nil)) x18 y18 rfl (by repeat (first | exact List.Sublist.refl _ | exact List.Sublist.refl _ | exact List.nil_sublist _ | apply List.Sublist.cons_cons | apply List.Sublist.cons))

theorem encbcn_c (iv : Nat) (hiv : iv < 65536) (pe : Option Addr) (ce : Nat) (els : List El) (hok : ∀ e ∈ els, ElOk e) (hln : els.length ≤ 50) (hm : (encE els).length ≤ 2000) :
  Does Tryz.prog 63 [.agg #[.int .u64 7, .int .u16 (iv : Int), .int .u16 0, .slice pe els.length ce]] [] (RdE pe els) (X := Option Addr × Nat) (fun x => (bcnB iv els).length ≤ x.2) (fun x => .tuple #[.slice x.1 (bcnB iv els).length x.2, .int .i64 0]) (fun x => [.row (.slice x.1 (bcnB iv els).length x.2) 5 1 (bcnB iv els).length (bs (bcnB iv els))]) := by
 refine Does.enter Tryz.func63 rfl (m := 23) rfl (by simp) ?_
 intro W0 hro
 refine VC.seq ?_
 refine VC.region ?_
 refine VL.eff (O.box rfl rfl (by decide) ?_)
 intro g1
 refine VL.q (Q.assign rfl) ?_
 refine VL.q (Q.assign rfl) ?_
 refine VL.nil ?_
 refine VE.seq ?_
 refine VC.seq ?_
 refine VC.region ?_
 refine VL.q (Q.fieldAddr fa111_0 rfl) ?_
 refine VL.q (Q.load1 ty108 rfl zM rfl) ?_
 refine VL.eff (O.call0 ok140 rfl rfl (by decide) (put64_c none 0 0 7 [] rfl (by decide) (by decide)) (fun _ _ _ => Rd.nil) ?_)
 intro x7 y7
 refine VL.q (Q.build lay279 zF) ?_
 refine VL.eff (O.box rfl rfl (by decide) ?_)
 intro g9
 refine VL.q (Q.assign rfl) ?_
 refine VL.nil ?_
 refine VE.seq ?_
 refine VC.seq ?_
 refine VC.region ?_
 refine VL.q (Q.move rfl) ?_
 refine VL.q (Q.fieldAddr fa111_1 rfl) ?_
 refine VL.q (Q.load1 ty26 rfl zM rfl) ?_
 refine VL.q (Q.fieldAddr fa111_2 rfl) ?_
 refine VL.q (Q.load1 ty26 rfl zM rfl) ?_
 refine VL.eff (O.buildSlice sl36 ze26 (by decide) zF (by decide) ?_)
 intro g15
 rw [Nat.zero_add]
 refine VL.eff (O.callF ok141 rfl rfl (by decide) (wtwo_c g9 g15 x7.1 8 x7.2 ([] ++ putLE 8 7) rfl (by decide) iv 0 hiv (by decide)) zM2 (fun _ _ _ => trivial) ?_)
 intro x16 y16
 refine VL.nil ?_
 refine VE.seq ?_
 refine VC.seq ?_
 refine VC.region ?_
 refine VL.q (Q.move rfl) ?_
 refine VL.q (Q.fieldAddr fa111_3 rfl) ?_
 refine VL.q (Q.load1 ty109 rfl zM rfl) ?_
 refine VK.picks (Lin := [.blk g9 [.slice x16.1 12 x16.2] 279, .row (.slice x16.1 12 x16.2) 5 1 12 (bs (bcnHead iv))]) zM2 ?_
 refine VK.fresh fun hfr => ?_
 refine VL.eff (O.callF ok142 rfl rfl (by decide) (welems_c W0 g9 x16.1 12 x16.2 (bcnHead iv) rfl pe ce els hok hln (by omega) hro (fresh0 hfr)) zM2 (fun _ ho _ => ho) ?_)
 intro x20 y20
 refine VL.q (Q.extract rfl rfl) ?_
 refine VL.q (Q.extract rfl rfl) ?_
 refine VL.q (Q.assign rfl) ?_
 refine VL.q (Q.assign rfl) ?_
 refine VL.nil ?_
 refine VE.seq ?_
 refine VC.ret ?_
 rw [← bcnB_len iv els]
 exact VE.ret rfl (.tmp rfl (.tmp rfl .nil)) x20 (by rw [bcnB_len]; exact y20) rfl zB

end Go.Proofs.YtencghlmckbmlaaGreat
