/- Bytes as values; the check value as a function of bytes. Plain; no program. -/
import Derived.Test.YtencghlmckbmlaaGreatKit
namespace Go.Sx
open Go Go.RowKit

def bs (l : List UInt8) : List Value := l.map fun c => .int .u8 (c.toNat : Int)
theorem bs_length (l : List UInt8) : (bs l).length = l.length := by simp [bs]
theorem bs_append (l m : List UInt8) : bs (l ++ m) = bs l ++ bs m := by simp [bs]
theorem bs_nil : bs [] = [] := rfl
theorem bs_get (l : List UInt8) (j : Nat) (h : j < l.length) : (bs l)[j]? = some (.int .u8 (l[j].toNat : Int)) := by simp [bs, h]
theorem bs_one (l : List UInt8) : (bs l).all one = true := by simp [bs, one]
theorem bs_take (l : List UInt8) (k : Nat) : bs (l.take k) = (bs l).take k := by simp [bs]
theorem bs_drop (l : List UInt8) (k : Nat) : bs (l.drop k) = (bs l).drop k := by simp [bs]
theorem byte_bd (c : UInt8) : 0 ≤ (c.toNat : Int) ∧ (c.toNat : Int) ≤ 255 := by have := c.toNat_lt; omega

/-- one bit of the division -/
def crcStep (r : Nat) : Nat := if r &&& 2147483648 ≠ 0 then (2 * r % 4294967296) ^^^ 136331795 else 2 * r % 4294967296
def crcIt : Nat → Nat → Nat
  | 0, r => r
  | k + 1, r => crcStep (crcIt k r)
def crcEntry (i : Nat) : Nat := crcIt 8 (i * 16777216)
def crcUpd (s c : Nat) : Nat := (s * 256 % 4294967296) ^^^ crcEntry ((s / 16777216) ^^^ c)
def crcExt (s : Nat) (l : List UInt8) : Nat := l.foldl (fun s c => crcUpd s c.toNat) s
def crc32 (l : List UInt8) : Nat := 4294967295 - crcExt 4294967295 l
def crcBytes (l : List UInt8) : List UInt8 := [UInt8.ofNat (crc32 l / 16777216), UInt8.ofNat (crc32 l / 65536), UInt8.ofNat (crc32 l / 256), UInt8.ofNat (crc32 l)]
def crcOk (l q : List UInt8) : Bool := decide (q = crcBytes l)

theorem xor_lt32 {a b : Nat} (ha : a < 4294967296) (hb : b < 4294967296) : a ^^^ b < 4294967296 := Nat.xor_lt_two_pow (n := 32) ha hb
theorem xor_lt8 {a b : Nat} (ha : a < 256) (hb : b < 256) : a ^^^ b < 256 := Nat.xor_lt_two_pow (n := 8) ha hb
theorem crcStep_lt (r : Nat) : crcStep r < 4294967296 := by
  unfold crcStep
  split
  · exact xor_lt32 (by omega) (by omega)
  · omega
theorem crcIt_lt (k r : Nat) (hr : r < 4294967296) : crcIt k r < 4294967296 := by
  cases k with
  | zero => exact hr
  | succ k => exact crcStep_lt _
theorem crcEntry_lt (i : Nat) (hi : i < 256) : crcEntry i < 4294967296 := crcIt_lt 8 _ (by omega)
theorem crcUpd_lt (s c : Nat) (hs : s < 4294967296) (hc : c < 256) : crcUpd s c < 4294967296 := xor_lt32 (by omega) (crcEntry_lt _ (xor_lt8 (by omega) hc))
theorem crcExt_lt (l : List UInt8) : ∀ s, s < 4294967296 → crcExt s l < 4294967296 := by
  induction l with
  | nil => exact fun s h => h
  | cons c l ih => exact fun s h => ih _ (crcUpd_lt s _ h c.toNat_lt)
theorem crcExt_snoc (s : Nat) (l : List UInt8) (k : Nat) (h : k < l.length) : crcExt s (l.take (k + 1)) = crcUpd (crcExt s (l.take k)) l[k].toNat := by
  unfold crcExt
  rw [List.take_succ_eq_append_getElem h, List.foldl_append]
  rfl
theorem crc32_lt (l : List UInt8) : crc32 l < 4294967296 := by unfold crc32; omega

def tabC (i : Nat) : List Value := (List.range 256).map fun k => .int .u32 (if k < i then (crcEntry k : Int) else 0)
theorem step_yes (r : Nat) (h : (((((r : Int).toNat &&& (2147483648 : Int).toNat : Nat) : Int) != 0) = true)) : ((((r : Int) * 2 % 4294967296).toNat ^^^ (136331795 : Int).toNat : Nat) : Int) = (crcStep r : Int) := by
  have e1 : ((r : Int) * 2 % 4294967296).toNat = 2 * r % 4294967296 := by omega
  have e2 : r &&& 2147483648 ≠ 0 := by
    intro e
    simp [e] at h
  unfold crcStep
  rw [if_pos e2, e1]
  rfl
theorem step_no (r : Nat) (h : (((((r : Int).toNat &&& (2147483648 : Int).toNat : Nat) : Int) != 0) = false)) : (r : Int) * 2 % 4294967296 = (crcStep r : Int) := by
  have e2 : ¬ (r &&& 2147483648 ≠ 0) := by
    intro e
    simp at h
    exact e h
  unfold crcStep
  rw [if_neg e2]
  omega
theorem upd_eq (s : Nat) (c : UInt8) (v : Nat) (hv : ((s : Int) / 16777216).toNat ^^^ ((c.toNat : Int)).toNat = v) : ((((s : Int) * 256 % 4294967296).toNat ^^^ ((crcEntry v : Nat) : Int).toNat : Nat) : Int) = (crcUpd s c.toNat : Int) := by
  have e1 : ((s : Int) * 256 % 4294967296).toNat = s * 256 % 4294967296 := by omega
  have e2 : ((s : Int) / 16777216).toNat = s / 16777216 := by omega
  rw [e2, Int.toNat_natCast] at hv
  unfold crcUpd
  rw [e1, Int.toNat_natCast, hv]
theorem idx_lt (s : Nat) (c : UInt8) (hs : s < 4294967296) : ((s : Int) / 16777216).toNat ^^^ ((c.toNat : Int)).toNat < 256 := by
  have e2 : ((s : Int) / 16777216).toNat = s / 16777216 := by omega
  rw [e2, Int.toNat_natCast]
  exact xor_lt8 (by omega) c.toNat_lt

theorem tabC_length (i : Nat) : (tabC i).length = 256 := by simp [tabC]
theorem tabC_set (i : Nat) (hi : i < 256) (o : Nat) (ho : o = i) (v : Int) (hv : v = crcEntry i) : (tabC i).set o (.int .u32 v) = tabC (i + 1) := by
  subst ho; subst hv
  apply List.ext_getElem?
  intro k
  rw [List.getElem?_set]
  simp only [tabC, List.length_map, List.length_range, List.getElem?_map]
  by_cases h : o = k
  · subst h
    simp [hi]
  · by_cases hk : k < 256
    · simp only [h, if_false, List.getElem?_range hk, Option.map_some, Option.some.injEq, Value.int.injEq, true_and]
      by_cases h1 : k < o
      · rw [if_pos h1, if_pos (by omega)]
      · rw [if_neg h1, if_neg (by omega)]
    · rw [List.getElem?_eq_none (by simp; omega)]
      simp [h]
theorem tabC_get (k : Nat) (hk : k < 256) : (tabC 256)[0 + k * 1]? = some (.int .u32 (crcEntry k : Int)) := by
  simp only [Nat.mul_one, Nat.zero_add, tabC, List.getElem?_map, List.getElem?_range hk, Option.map_some, if_pos hk]

theorem crcOk_eq (l : List UInt8) (a b c d : UInt8) : crcOk l [a, b, c, d] =
    (((crc32 l : Int) / 16777216 == (a.toNat : Int)) && (((crc32 l : Int) / 65536 % 256 == (b.toNat : Int)) && (((crc32 l : Int) / 256 % 256 == (c.toNat : Int)) && ((crc32 l : Int) % 256 == (d.toNat : Int))))) := by
  have h := crc32_lt l
  generalize hc : crc32 l = x at *
  have key : ∀ (u : UInt8) (m : Nat), (u = UInt8.ofNat m) ↔ ((m : Int) % 256 = (u.toNat : Int)) := by
    intro u m
    constructor
    · rintro rfl
      simp
    · intro h
      apply UInt8.toNat_inj.1
      simp
      omega
  rw [Bool.eq_iff_iff]
  unfold crcOk crcBytes
  simp only [decide_eq_true_eq, hc, List.cons.injEq, and_true, key, Bool.and_eq_true, beq_iff_eq, Int.natCast_ediv]
  have e : ((x : Int) / ((16777216 : Nat) : Int)) % 256 = (x : Int) / 16777216 := by omega
  constructor
  · rintro ⟨h1, h2, h3, h4⟩
    refine ⟨?_, ?_, ?_, h4⟩ <;> omega
  · rintro ⟨h1, h2, h3, h4⟩
    refine ⟨?_, ?_, ?_, h4⟩ <;> omega
theorem crcBytes_bs (l : List UInt8) : bs (crcBytes l) = [.int .u8 ((crc32 l : Int) / 16777216), .int .u8 ((crc32 l : Int) / 65536 % 256), .int .u8 ((crc32 l : Int) / 256 % 256), .int .u8 ((crc32 l : Int) % 256)] := by
  have h := crc32_lt l
  unfold crcBytes bs
  generalize crc32 l = x at *
  simp only [List.map_cons, List.map_nil, List.cons.injEq, Value.int.injEq, true_and, and_true, UInt8.toNat_ofNat']
  refine ⟨?_, ?_, ?_, ?_⟩ <;> omega

/-- what 'Verify' gives: the bytes, and an error -/
def verifyP (l : List UInt8) : List UInt8 × Int :=
  if l.length < 4 then ([], 10) else if crcOk (l.take (l.length - 4)) (l.drop (l.length - 4)) = true then (l.take (l.length - 4), 0) else ([], 31)
theorem four {l : List UInt8} (h : l.length = 4) : ∃ a b c d, l = [a, b, c, d] := by
  match l, h with
  | [a, b, c, d], _ => exact ⟨a, b, c, d, rfl⟩

theorem verifyP_crc (l : List UInt8) : verifyP (l ++ crcBytes l) = (l, 0) := by
  have h4 : (crcBytes l).length = 4 := rfl
  have e : (l ++ crcBytes l).length - 4 = l.length := by simp [h4]
  unfold verifyP
  rw [if_neg (by simp [h4]), e]
  simp [crcOk]
/-! short names of the searches that the printed walks make -/
theorem zM {r : Rs} {L : List Rs} (h : r ∈ L := by repeat (first | exact List.Mem.head _ | apply List.Mem.tail)) : r ∈ L := h
theorem zS {C xs : List Value} {o s : Nat} (h : Seg C o s xs := by repeat (first | exact Seg.nil | apply Seg.here | apply Seg.skip)) : Seg C o s xs := h
theorem zP {C xs C' : List Value} {o : Nat} (h : Put C o xs C' := by repeat (first | exact Put.nil | apply Put.here | apply Put.skip)) : Put C o xs C' := h
theorem zU {L L' : List Rs} {r r' : Rs} (h : Upd L r r' L' := by repeat (first | exact Upd.here | apply Upd.there)) : Upd L r r' L' := h
theorem zK {L L' : List Rs} {r : Rs} (h : Pick L r L' := by repeat (first | exact Pick.here | apply Pick.there)) : Pick L r L' := h
theorem zA {L : List Rs} {r : Rs} {F : Rs → List Rs} (h : At L r F := by repeat (first | exact At.here | apply At.there)) : At L r F := h
theorem zE {E E' : List (Nat × Value)} (h : Env E E' := by repeat (first | exact Env.nil | apply Env.cons rfl)) : Env E E' := h
theorem zB {L L' : List Rs} (h : L'.Sublist L := by repeat (first | exact List.Sublist.refl _ | exact List.nil_sublist _ | apply List.Sublist.cons_cons | apply List.Sublist.cons)) : L'.Sublist L := h
theorem zF {E : List (Nat × Value)} {lay : List (Nat × Nat)} {C xs : List Value} {ps : List (Nat × Operand)} (h : Puts E lay C ps xs := by repeat (first | exact Puts.nil | apply Puts.cons rfl rfl rfl rfl (by repeat (first | exact Put.nil | apply Put.here | apply Put.skip)))) : Puts E lay C ps xs := h
theorem VL.q {P : Program} {W0 : World} {gs : List Nat} {n : Nat} {E : List (Nat × Value)} {L : List Rs} {ops : Array Oper} {Q : Exit → Act → World → Prop} {rest : List Oper} {op : Op} {v : Value} {d : Nat} {t : TypeId} {pos : String} {after : Array Edge} (hq : Quiet P W0 gs E L op v)
    (h : VK W0 gs n (wpList P ops Q rest) ((d, v) :: E) L) (hd : d < n := by decide) : VK W0 gs n (wpList P ops Q (⟨some d, op, t, pos, after, none⟩ :: rest)) E L := VL.quiet hd hq h
end Go.Sx
