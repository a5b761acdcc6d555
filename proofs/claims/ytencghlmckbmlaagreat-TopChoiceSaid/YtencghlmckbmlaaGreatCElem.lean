/- The contracts of package element: writing. Conditions: those that each bears. -/
import Derived.Test.YtencghlmckbmlaaGreatRows
import Derived.Test.YtencghlmckbmlaaGreatCel
namespace Go.Proofs.YtencghlmckbmlaaGreat
open Go Go.RowKit Go.Sx
set_option maxRecDepth 100000

theorem fa176_0 : tyField Tryz.prog 176 0 = some 0 := by kernel_rfl
theorem fa176_2 : tyField Tryz.prog 176 2 = some 2 := by kernel_rfl
theorem ok227 : okFunc Tryz.prog 227 = true := by kernel_rfl
theorem ok228 : okFunc Tryz.prog 228 = true := by kernel_rfl
theorem ok231 : okFunc Tryz.prog 231 = true := by kernel_rfl
theorem sl109 : tySlice Tryz.prog 109 = some (176, 4, 56) := by kernel_rfl
theorem sl23 : tySlice Tryz.prog 23 = some (5, 1, 1) := by kernel_rfl
theorem ti3 : tyInt Tryz.prog 3 = some .i64 := by kernel_rfl
theorem ti5 : tyInt Tryz.prog 5 = some .u8 := by kernel_rfl
theorem ty176 : tySz Tryz.prog 176 = some (true, 4) := by kernel_rfl
theorem ty23 : tySz Tryz.prog 23 = some (false, 1) := by kernel_rfl
theorem ty5 : tySz Tryz.prog 5 = some (false, 1) := by kernel_rfl
theorem ze5 : (Tryz.prog.info? 5).bind (·.zero) = some (.int .u8 0) := by kernel_rfl
theorem zo176 : tyZero Tryz.prog 176 = some [.int .u8 0, .int .u8 0, .slice none 0 0, .slice none 0 0] := by kernel_rfl
theorem zo23 : tyZero Tryz.prog 23 = some [.slice none 0 0] := by kernel_rfl
theorem zo5 : tyZero Tryz.prog 5 = some [.int .u8 0] := by kernel_rfl

/-- a plain element: its number, where its bytes lie, the bytes -/
structure El where
  id : Nat
  p : Option Addr
  c : Nat
  d : List UInt8
def elC (e : El) : List Value := [.int .u8 (e.id : Int), .int .u8 0, .slice e.p e.d.length e.c, .slice none 0 0]
theorem elC_len (e : El) : (elC e).length = 4 := rfl
structure ElOk (e : El) : Prop where
  id : e.id ≤ 199
  len : e.d.length ≤ 200
  cap : e.d.length ≤ e.c
def encE : List El → List UInt8
  | [] => []
  | e :: l => (UInt8.ofNat e.id :: UInt8.ofNat e.d.length :: e.d) ++ encE l
theorem encE_snoc (l : List El) (e : El) : encE (l ++ [e]) = encE l ++ (UInt8.ofNat e.id :: UInt8.ofNat e.d.length :: e.d) := by
  induction l with
  | nil => simp [encE]
  | cons x l ih => rw [List.cons_append, encE, ih, encE, List.append_assoc]
theorem encE_take (l : List El) {k : Nat} (h : k < l.length) : encE (l.take (k + 1)) = encE (l.take k) ++ (UInt8.ofNat l[k].id :: UInt8.ofNat l[k].d.length :: l[k].d) := by
  rw [List.take_add_one, List.getElem?_eq_getElem h]
  exact encE_snoc _ _
theorem encE_len {l : List El} (h : ∀ e ∈ l, ElOk e) : (encE l).length ≤ 202 * l.length := by
  induction l with
  | nil => simp [encE]
  | cons x l ih =>
    have h1 := (h x (.head _)).len
    have h2 := ih fun e he => h e (.tail _ he)
    simp only [encE, List.length_append, List.length_cons]
    omega

theorem container_c (i : Nat) (hi : i ≤ 199) :
  Does Tryz.prog 227 [.int .u8 (i : Int)] [] (fun _ => True) (X := Unit) (fun _ => True) (fun _ => .bool false) (fun _ => []) := by
 refine Does.enter Tryz.func227 rfl (m := 9) rfl (by simp) ?_
 intro W0 hro
 refine VC.seq ?_
 refine VC.region ?_
 refine VL.q (Q.assign rfl) ?_
 refine VL.nil ?_
 refine VE.seq ?_
 refine VC.seq ?_
 refine VC.region ?_
 refine VL.q (Q.move rfl) ?_
 refine VL.q (Q.ge rfl rfl) ?_
 refine VL.q (Q.move rfl) ?_
 refine VK.case 5 rfl ?_ ?_
 ·
  intro h5
  refine VL.yes rfl rfl ?_
  refine VL.q (Q.move rfl) ?_
  refine VL.yes rfl rfl ?_
  refine VL.q (Q.lt rfl rfl) ?_
  refine VL.q (Q.pick_true rfl rfl) ?_
  refine VL.q (Q.assign rfl) ?_
  refine VL.nil ?_
  refine VE.seq ?_
  refine VC.ret ?_
  refine VE.ret rfl (.tmp rfl .nil) () ?_ ?_ (List.nil_sublist _)
  ·
   trivial
  ·
   first | rfl | (exfalso; simp at *; omega)
 ·
  intro h5
  refine VL.no (by simp) rfl rfl (.inl rfl) ?_
  refine VL.no (by simp) rfl rfl (.inl rfl) ?_
  refine VL.quietE (v' := .bool false) (by decide) (Q.pick_false rfl rfl) (by rfl) ?_
  refine VL.q (Q.assign rfl) ?_
  refine VL.nil ?_
  refine VE.seq ?_
  refine VC.ret ?_
  refine VE.ret rfl (.tmp rfl .nil) () ?_ ?_ (List.nil_sublist _)
  ·
   trivial
  ·
   first | rfl | (exfalso; simp at *; omega)

theorem parts_c (p : Option Addr) (m c : Nat) :
  Does Tryz.prog 228 [.slice p m c] [] (fun _ => True) (X := Nat) (fun _ => True) (fun x => .func (.func 231) #[] #[.pointer (some ⟨x, 0, none⟩)]) (fun x => [.blk x [.slice p m c] 23]) := by
 refine Does.enter Tryz.func228 rfl (m := 4) rfl (by simp) ?_
 intro W0 hro
 refine VC.seq ?_
 refine VC.region ?_
 refine VL.eff (O.box rfl rfl (by decide) ?_)
 intro g1
 refine VL.q (Q.assign rfl) ?_
 refine VL.nil ?_
 refine VE.seq ?_
 refine VC.seq ?_
 refine VC.region ?_
 refine VL.q (Q.makeFunc rfl rfl) ?_
 refine VL.q (Q.assign rfl) ?_
 refine VL.nil ?_
 refine VE.seq ?_
 refine VC.ret ?_
 exact VE.ret rfl (.tmp rfl .nil) g1 trivial rfl zB

theorem parts1_c (Wb : World) (l : Nat) (r : Loop) (gc : Nat) (p : Option Addr) (m c : Nat) (hm : m < 255) (LB : List Rs) {X : Type} (ψ : X → Prop) (LB2 : X → List Rs) (hfr : ∀ j ∈ (.obj l (.loop r) :: .blk gc [.slice p m c] 23 :: LB).flatMap Rs.ids, Wb.heap.size ≤ j) (hy : YieldsTo Tryz.prog l [.slice p m c] (.obj l (.loop r) :: .blk gc [.slice p m c] 23 :: LB) (fun W => Only [] Wb W) ψ (fun _ => .bool true) (fun x => .obj l (.loop r) :: .blk gc [.slice p m c] 23 :: LB2 x)) :
  Does Tryz.prog 231 [.func (.yield l) #[] #[], .pointer (some ⟨gc, 0, none⟩)] (.obj l (.loop r) :: .blk gc [.slice p m c] 23 :: LB) (fun W => Only [] Wb W) (X := X) (ψ) (fun _ => .tuple #[]) (fun x => .obj l (.loop r) :: .blk gc [.slice p m c] 23 :: LB2 x) := by
 refine Does.enter Tryz.func231 rfl (m := 16) rfl (by simp) ?_
 intro W0 hro
 refine VC.seq ?_
 refine VC.block ?_
 refine VC.loop (X := Unit) (fun u => [(0, .func (.yield l) #[] #[]), (1, .pointer (some ⟨gc, 0, none⟩))]) (fun u => (.obj l (.loop r) :: .blk gc [.slice p m c] 23 :: LB)) (fun u => True) (fun u => 0) () trivial ?_ ?_
 ·
  exact VS.mk zE (List.Sublist.refl _)
 ·
  intro u _
  refine VC.seq ?_
  refine VC.seq ?_
  refine VC.region ?_
  refine VL.q (Q.load1 ty23 rfl zM rfl) ?_
  refine VL.q (Q.len sl23 rfl) ?_
  refine VL.q (Q.ge rfl rfl) ?_
  refine VL.nil ?_
  refine VE.seq ?_
  refine VC.cond rfl ?_ ?_
  ·
   intro h5
   exfalso
   have := of_decide_eq_true h5
   omega
  ·
   intro h5
   refine VC.exit ?_
   refine VE.then_exit ?_
   refine VE.then_exit ?_
   refine VE.block_here ?_
   refine VE.seq ?_
   refine VC.regionY ?_
   refine VI.op zD (O.quiet (by decide) (Q.move rfl) ?_)
   refine VI.op zD (O.quiet (by decide) (Q.load1 ty23 rfl zM rfl) ?_)
   refine VI.yieldF hy zM2 (fun _ ho _ => only_base hro ho hfr) rfl rfl (by decide) ?_
   intro x hx
   refine VI.nil ?_
   exact VE.end rfl (.nil) x hx rfl zB

theorem write_round (Wb : World) (gc g4 g11 : Nat) (id : Nat) (hid : id ≤ 199) (p : Option Addr) (m c : Nat) (d : List UInt8) (hd : d.length = m) (hm : m ≤ 200) (po : Option Addr) (co : Nat) (xs : List UInt8) (hx : xs.length ≤ 100000) (hrd : Rd Wb p (bs d)) (l : Nat) (r : Loop) (hr : Rec 66 [(4, .pointer (some ⟨g4, 0, none⟩)), (11, .pointer (some ⟨g11, 0, none⟩))] #[53] (rfA (bodyAt Tryz.f217 [1, 1, 1, 0, 1, 0, 0, 1, 1, 0, 0, 1, 1, 1, 1, 1, 1, 1, 0])) (rfB (bodyAt Tryz.f217 [1, 1, 1, 0, 1, 0, 0, 1, 1, 0, 0, 1, 1, 1, 1, 1, 1, 1, 0])) r) (hfr : ∀ j ∈ (.obj l (.loop r) :: [.blk gc [.slice p m c] 23, .blk g4 [.slice po (xs).length co] 23, .row (.slice po (xs).length co) 5 1 (xs).length (bs (xs)), .blk g11 [.int .u8 (id : Int)] 5]).flatMap Rs.ids, Wb.heap.size ≤ j) :
  YieldsTo Tryz.prog l [.slice p m c] (.obj l (.loop r) :: [.blk gc [.slice p m c] 23, .blk g4 [.slice po (xs).length co] 23, .row (.slice po (xs).length co) 5 1 (xs).length (bs (xs)), .blk g11 [.int .u8 (id : Int)] 5]) (fun W => Only [] Wb W) (X := Option Addr × Nat) (fun _ => True) (fun _ => .bool true) (fun x => .obj l (.loop r) :: [.blk gc [.slice p m c] 23, .blk g4 [.slice x.1 (xs ++ (UInt8.ofNat id :: UInt8.ofNat m :: d)).length x.2] 23, .row (.slice x.1 (xs ++ (UInt8.ofNat id :: UInt8.ofNat m :: d)).length x.2) 5 1 (xs ++ (UInt8.ofNat id :: UInt8.ofNat m :: d)).length (bs (xs ++ (UInt8.ofNat id :: UInt8.ofNat m :: d))), .blk g11 [.int .u8 254] 5]) := by
 refine YieldsTo.of hr (by decide) ?_
 intro W0 hro
 have hbs : bs xs ++ [.int .u8 (id : Int), .int .u8 (m : Int)] ++ bs d = bs (xs ++ (UInt8.ofNat id :: UInt8.ofNat m :: d)) := by
  simp [bs, List.append_assoc]
  omega
 have hys : (xs ++ (UInt8.ofNat id :: UInt8.ofNat m :: d)).length = xs.length + 2 + m := by simp; omega
 refine VI.region ?_
 refine VI.op zD (O.quiet (by decide) (Q.assign rfl) ?_)
 refine VI.nil ?_
 refine VE.begin hr.state zU ?_
 refine VI.block ?_
 refine VI.seq ?_
 refine VI.region ?_
 refine VI.op zD (O.quiet (by decide) (Q.load1 ty23 rfl zM rfl) ?_)
 refine VI.op zD (O.quiet (by decide) (Q.load1 ty5 rfl zM rfl) ?_)
 refine VI.op zD (O.quiet (by decide) (Q.move rfl) ?_)
 refine VI.op zD (O.quiet (by decide) (Q.len sl23 rfl) ?_)
 refine VI.op zD (O.quiet (by decide) (Q.convF ti3 ti5 rfl (by simp only [klo]; omega) (by simp only [khi]; omega)) ?_)
 refine VI.op zD (O.buildSlice sl23 ze5 (by decide) zF (by decide) ?_)
 intro g59
 refine VI.op zD (O.appendS sl23 ze5 rfl (by decide) rfl rfl zM zS rfl (by decide) (by unfold maxLen; omega) (by omega) zA ?_)
 intro p60 c60 hc60
 refine VI.op zD (O.quiet (by decide) (Q.move rfl) ?_)
 refine VI.op zD (O.append sl23 ze5 rfl (by decide) rfl rfl (by rw [bs_length]; omega) (bs_one d) (by decide) (by unfold maxLen; omega) (by omega) zA (fun _ ho _ => hrd.only0 (only_base hro ho hfr)) ?_)
 intro p62 c62 hc62
 rw [show xs.length + 2 + m = (xs ++ (UInt8.ofNat id :: UInt8.ofNat m :: d)).length from hys.symm]
 refine VI.op zD (O.store ty23 rfl rfl rfl rfl zU zP ?_)
 refine VI.nil ?_
 refine VE.then_normal ?_
 refine VI.region ?_
 refine VI.op zD (O.store ty5 rfl rfl rfl rfl zU zP ?_)
 refine VI.nil ?_
 refine VE.block_normal ?_
 rw [hbs]
 refine VK.picks (Lin := [.obj l (.loop { r with state := .busy }), .blk gc [.slice p m c] 23, .blk g4 [.slice p62 (xs ++ (UInt8.ofNat id :: UInt8.ofNat m :: d)).length c62] 23, .row (.slice p62 (xs ++ (UInt8.ofNat id :: UInt8.ofNat m :: d)).length c62) 5 1 (xs ++ (UInt8.ofNat id :: UInt8.ofNat m :: d)).length (bs (xs ++ (UInt8.ofNat id :: UInt8.ofNat m :: d))), .blk g11 [.int .u8 254] 5]) zM2 ?_
 exact VE.endRound hr.state hr.pending zU (p62, c62) trivial rfl (List.Sublist.refl _)

theorem write_c (p : Option Addr) (c : Nat) (els : List El) (hok : ∀ e ∈ els, ElOk e) (hln : els.length ≤ 50) :
  Does Tryz.prog 217 [.slice p els.length c] [] (fun W => Rd W p (els.flatMap elC) ∧ ∀ e ∈ els, Rd W e.p (bs e.d)) (X := Option Addr × Nat) (fun _ => True) (fun x => .tuple #[.slice x.1 (encE els).length x.2, .bool true]) (fun x => [.row (.slice x.1 (encE els).length x.2) 5 1 (encE els).length (bs (encE els))]) := by
 refine Does.enter Tryz.func217 rfl (m := 66) rfl (by simp) ?_
 rintro W0 ⟨hrd, hde⟩
 refine VC.seq ?_
 refine VC.region ?_
 refine VL.q (Q.assign rfl) ?_
 refine VL.q (Q.assign rfl) ?_
 refine VL.nil ?_
 refine VE.seq ?_
 refine VC.seq ?_
 refine VC.region ?_
 refine VL.eff (O.alloc zo23 (by decide) ?_)
 intro g4
 refine VL.nil ?_
 refine VE.seq ?_
 refine VC.seq ?_
 refine VC.region ?_
 refine VL.q (Q.assign rfl) ?_
 refine VL.nil ?_
 refine VE.seq ?_
 refine VC.seq ?_
 refine VC.seq ?_
 refine VC.region ?_
 refine VL.q (Q.move rfl) ?_
 refine VL.q (Q.len sl109 rfl) ?_
 refine VL.q (Q.move rfl) ?_
 refine VL.nil ?_
 refine VE.seq ?_
 refine VC.block ?_
 refine VK.addNil 5 1 ?_
 refine VK.picks (Lin := [.blk g4 [.slice none 0 0] 23, .row (.slice none 0 0) 5 1 0 []]) zM2 ?_
 refine VC.loop (X := Nat × (Option Addr × Nat)) (fun x => [(4, .pointer (some ⟨g4, 0, none⟩)), (5, .bool true), (13, .slice p els.length c), (14, .int .i64 (els.length : Int)), (15, .int .i64 (x.1 : Int))]) (fun x => [.blk g4 [.slice x.2.1 (encE (els.take x.1)).length x.2.2] 23, .row (.slice x.2.1 (encE (els.take x.1)).length x.2.2) 5 1 (encE (els.take x.1)).length (bs (encE (els.take x.1)))]) (fun x => x.1 ≤ els.length) (fun x => els.length - x.1) (0, (none, 0)) (Nat.zero_le _) ?_ ?_
 ·
  exact VS.mk zE (List.Sublist.refl _)
 ·
  intro x hx
  refine VC.seq ?_
  refine VC.region ?_
  refine VL.q (Q.lt rfl rfl) ?_
  refine VL.nil ?_
  refine VE.seq ?_
  refine VC.seq ?_
  refine VC.cond rfl ?_ ?_
  ·
   intro h16
   have hlt : x.1 < els.length := by have := of_decide_eq_true h16; omega
   obtain ⟨b0, o0, rfl⟩ := hrd.pos (by rw [fm_length elC_len]; omega)
   obtain ⟨he1, he2, he3⟩ := hok els[x.1] (List.getElem_mem hlt)
   have hel := encE_len (l := els.take x.1) fun e he => hok e (List.mem_of_mem_take he)
   rw [List.length_take] at hel
   refine VC.skip ?_
   refine VE.seq ?_
   refine VC.seq ?_
   refine VC.block ?_
   refine VC.seq ?_
   refine VC.region ?_
   refine VL.q (Q.indexAddr sl109 (j := x.1) rfl rfl rfl hlt) ?_
   refine VL.q (Q.load0A (xs := elC els[x.1]) ty176 rfl (Rd.sg hrd (fm_seg elC_len els x.1 hlt)) (by simp)) ?_
   refine VL.eff (O.alloc zo176 (by decide) ?_)
   intro g7
   refine VL.eff (O.store ty176 rfl rfl rfl rfl zU zP ?_)
   refine VL.nil ?_
   refine VE.seq ?_
   refine VC.seq ?_
   refine VC.region ?_
   refine VL.q (Q.fieldAddr fa176_2 rfl) ?_
   refine VL.q (Q.load1 ty23 rfl zM rfl) ?_
   refine VL.q (Q.assign rfl) ?_
   refine VL.nil ?_
   refine VE.seq ?_
   refine VC.seq ?_
   refine VC.seq ?_
   refine VC.region ?_
   refine VL.q (Q.fieldAddr fa176_0 rfl) ?_
   refine VL.q (Q.load1 ty5 rfl zM rfl) ?_
   refine VL.eff (O.call0 ok227 rfl rfl (by decide) (container_c els[x.1].id he1) (fun _ _ _ => trivial) ?_)
   intro x23 y23
   refine VL.nil ?_
   refine VE.seq ?_
   refine VC.condF rfl ?_
   refine VC.skip ?_
   refine VE.seq ?_
   refine VC.seq ?_
   refine VC.region ?_
   refine VL.q (Q.move rfl) ?_
   refine VL.q (Q.move rfl) ?_
   refine VL.yes rfl rfl ?_
   refine VL.q (Q.move rfl) ?_
   refine VL.yes rfl rfl ?_
   refine VL.q (Q.len sl23 rfl) ?_
   refine VL.yes rfl rfl ?_
   refine VL.quietE (v' := .bool true) (by decide) (Q.le rfl rfl) (congrArg Value.bool (decide_eq_true (by omega))) ?_
   refine VL.quietE (v' := .bool true) (by decide) (Q.pick_true rfl rfl) (by rfl) ?_
   refine VL.q (Q.assign rfl) ?_
   refine VL.nil ?_
   refine VE.seq ?_
   refine VC.seq ?_
   refine VC.seq ?_
   refine VC.region ?_
   refine VL.q (Q.fieldAddr fa176_0 rfl) ?_
   refine VL.q (Q.load1 ty5 rfl zM rfl) ?_
   refine VL.quietE (v' := .bool false) (by decide) (Q.eq rfl rfl) (congrArg Value.bool (decide_eq_false (by omega))) ?_
   refine VL.nil ?_
   refine VE.seq ?_
   refine VC.condF rfl ?_
   refine VC.skip ?_
   refine VE.seq ?_
   refine VC.seq ?_
   refine VC.region ?_
   refine VL.q (Q.fieldAddr fa176_0 rfl) ?_
   refine VL.q (Q.load1 ty5 rfl zM rfl) ?_
   refine VL.eff (O.alloc zo5 (by decide) ?_)
   intro g11
   refine VL.eff (O.store ty5 rfl rfl rfl rfl zU zP ?_)
   refine VL.nil ?_
   refine VE.seq ?_
   refine VC.seq ?_
   refine VC.region ?_
   refine VL.q (Q.move rfl) ?_
   refine VL.eff (O.call0 ok228 rfl rfl (by decide) (parts_c els[x.1].p els[x.1].d.length els[x.1].c) (fun _ _ _ => trivial) ?_)
   intro gp _
   refine VL.nil ?_
   refine VE.seq ?_
   refine VC.block ?_
   refine VK.picks (Lin := .blk gp [.slice els[x.1].p els[x.1].d.length els[x.1].c] 23 :: [.blk g4 [.slice x.2.1 (encE (els.take x.1)).length x.2.2] 23, .row (.slice x.2.1 (encE (els.take x.1)).length x.2.2) 5 1 (encE (els.take x.1)).length (bs (encE (els.take x.1))), .blk g11 [.int .u8 (els[x.1].id : Int)] 5]) zM2 ?_
   refine VK.fresh fun hfr => ?_
   refine VC.rangeFunc (X := Option Addr × Nat) (ψ := fun _ => True) (Lout := fun q => .blk gp [.slice els[x.1].p els[x.1].d.length els[x.1].c] 23 :: [.blk g4 [.slice q.1 (encE (els.take x.1) ++ (UInt8.ofNat els[x.1].id :: UInt8.ofNat els[x.1].d.length :: els[x.1].d)).length q.2] 23, .row (.slice q.1 (encE (els.take x.1) ++ (UInt8.ofNat els[x.1].id :: UInt8.ofNat els[x.1].d.length :: els[x.1].d)).length q.2) 5 1 (encE (els.take x.1) ++ (UInt8.ofNat els[x.1].id :: UInt8.ofNat els[x.1].d.length :: els[x.1].d)).length (bs (encE (els.take x.1) ++ (UInt8.ofNat els[x.1].id :: UInt8.ofNat els[x.1].d.length :: els[x.1].d))), .blk g11 [.int .u8 254] 5]) rfl ok231 (fun l r hl hr => parts1_c W0 l r gp els[x.1].p els[x.1].d.length els[x.1].c (by omega) [.blk g4 [.slice x.2.1 (encE (els.take x.1)).length x.2.2] 23, .row (.slice x.2.1 (encE (els.take x.1)).length x.2.2) 5 1 (encE (els.take x.1)).length (bs (encE (els.take x.1))), .blk g11 [.int .u8 (els[x.1].id : Int)] 5] (X := Option Addr × Nat) (fun _ => True) (fun q => [.blk g4 [.slice q.1 (encE (els.take x.1) ++ (UInt8.ofNat els[x.1].id :: UInt8.ofNat els[x.1].d.length :: els[x.1].d)).length q.2] 23, .row (.slice q.1 (encE (els.take x.1) ++ (UInt8.ofNat els[x.1].id :: UInt8.ofNat els[x.1].d.length :: els[x.1].d)).length q.2) 5 1 (encE (els.take x.1) ++ (UInt8.ofNat els[x.1].id :: UInt8.ofNat els[x.1].d.length :: els[x.1].d)).length (bs (encE (els.take x.1) ++ (UInt8.ofNat els[x.1].id :: UInt8.ofNat els[x.1].d.length :: els[x.1].d))), .blk g11 [.int .u8 254] 5]) (fresh_cons hl hfr) (write_round W0 gp g4 g11 els[x.1].id he1 els[x.1].p els[x.1].d.length els[x.1].c els[x.1].d rfl he2 x.2.1 x.2.2 (encE (els.take x.1)) (by omega) (hde _ (List.getElem_mem hlt)) l r (hr.sub zE) (fresh_cons hl hfr))) (fun _ ho _ => ho) ?_
   intro q _
   refine VE.block_normal ?_
   refine VE.block_normal ?_
   refine VE.seq ?_
   refine VC.region ?_
   refine VL.q ((by first | exact Q.addI rfl rfl (by omega) (by omega) | exact Q.add rfl rfl)) ?_
   refine VL.q (Q.move rfl) ?_
   refine VL.nil ?_
   refine VE.then_normal ?_
   rw [← encE_take els hlt]
   refine VK.picks (Lin := [.blk g4 [.slice q.1 (encE (els.take (x.1 + 1))).length q.2] 23, .row (.slice q.1 (encE (els.take (x.1 + 1))).length q.2) 5 1 (encE (els.take (x.1 + 1))).length (bs (encE (els.take (x.1 + 1))))]) zM2 ?_
   exact VE.round (x.1 + 1, q) (by show x.1 + 1 ≤ _; omega) (by show els.length - (x.1 + 1) < els.length - x.1; omega) zE (List.Sublist.refl _)
  ·
   intro h16
   have he : x.1 = els.length := by have := of_decide_eq_false h16; omega
   obtain ⟨k, q1, q2⟩ := x
   obtain rfl : k = els.length := he
   rw [List.take_length]
   refine VC.exit ?_
   refine VE.then_exit ?_
   refine VE.then_exit ?_
   refine VE.block_here ?_
   refine VE.seq ?_
   refine VC.seq ?_
   refine VC.region ?_
   refine VL.q (Q.load1 ty23 rfl zM rfl) ?_
   refine VL.q (Q.move rfl) ?_
   refine VL.q (Q.assign rfl) ?_
   refine VL.q (Q.assign rfl) ?_
   refine VL.nil ?_
   refine VE.seq ?_
   refine VC.ret ?_
   exact VE.ret rfl (.tmp rfl (.tmp rfl .nil)) (q1, q2) trivial rfl (by repeat (first | exact List.Sublist.refl _ | exact .cons_cons _ (List.nil_sublist _) | apply List.Sublist.cons))

end Go.Proofs.YtencghlmckbmlaaGreat
