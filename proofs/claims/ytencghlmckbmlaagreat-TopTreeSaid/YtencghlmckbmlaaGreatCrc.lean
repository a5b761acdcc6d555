/- One bit of a frame that is flipped changes its check value: plain, no program. Conditions: none. -/
import Derived.Test.YtencghlmckbmlaaGreatCells
namespace Go.Sx
open Go Go.RowKit

def crcInv : List Nat := [0, 170, 92, 246, 185, 19, 229, 79, 123, 209, 39, 141, 194, 104, 158, 52, 247, 93, 171, 1, 78, 228, 18, 184, 140, 38, 208, 122, 53, 159, 105, 195, 231, 77, 187, 17, 94, 244, 2, 168, 156, 54, 192, 106, 37, 143, 121, 211, 16, 186, 76, 230, 169, 3, 245, 95, 107, 193, 55, 157, 210, 120, 142, 36, 198, 108, 154, 48, 127, 213, 35, 137, 189, 23, 225, 75, 4, 174, 88, 242, 49, 155, 109, 199, 136, 34, 212, 126, 74, 224, 22, 188, 243, 89, 175, 5, 33, 139, 125, 215, 152, 50, 196, 110, 90, 240, 6, 172, 227, 73, 191, 21, 214, 124, 138, 32, 111, 197, 51, 153, 173, 7, 241, 91, 20, 190, 72, 226, 132, 46, 216, 114, 61, 151, 97, 203, 255, 85, 163, 9, 70, 236, 26, 176, 115, 217, 47, 133, 202, 96, 150, 60, 8, 162, 84, 254, 177, 27, 237, 71, 99, 201, 63, 149, 218, 112, 134, 44, 24, 178, 68, 238, 161, 11, 253, 87, 148, 62, 200, 98, 45, 135, 113, 219, 239, 69, 179, 25, 86, 252, 10, 160, 66, 232, 30, 180, 251, 81, 167, 13, 57, 147, 101, 207, 128, 42, 220, 118, 181, 31, 233, 67, 12, 166, 80, 250, 206, 100, 146, 56, 119, 221, 43, 129, 165, 15, 249, 83, 28, 182, 64, 234, 222, 116, 130, 40, 103, 205, 59, 145, 82, 248, 14, 164, 235, 65, 183, 29, 41, 131, 117, 223, 144, 58, 204, 102]
theorem crcInv_all : ((List.range 256).all fun i => crcInv.getD (crcEntry i % 256) 0 == i) = true := by kernel_rfl
theorem crcEntry_low {i j : Nat} (hi : i < 256) (hj : j < 256) (h : crcEntry i % 256 = crcEntry j % 256) : i = j := by
  have ha := List.all_eq_true.1 crcInv_all
  have h1 := ha i (by simpa using hi)
  have h2 := ha j (by simpa using hj)
  rw [h] at h1
  have h1 := eq_of_beq h1
  have h2 := eq_of_beq h2
  omega
theorem xor_low (s a : Nat) : ((s * 256 % 4294967296) ^^^ a) % 256 = a % 256 := by
  have e : (256 : Nat) = 2 ^ 8 := rfl
  rw [e, Nat.xor_mod_two_pow]
  have h0 : s * 2 ^ 8 % 4294967296 % 2 ^ 8 = 0 := by omega
  rw [h0, Nat.zero_xor]
theorem xor_cancel {a b c : Nat} (h : a ^^^ b = a ^^^ c) : b = c := by
  have := congrArg (fun x => a ^^^ x) h
  simpa [← Nat.xor_assoc] using this
theorem idx8 (s c : Nat) (hs : s < 4294967296) (hc : c < 256) : (s / 16777216) ^^^ c < 256 := xor_lt8 (by omega) hc
theorem crcUpd_byte {s c c' : Nat} (hs : s < 4294967296) (hc : c < 256) (hc' : c' < 256) (h : crcUpd s c = crcUpd s c') : c = c' := by
  unfold crcUpd at h
  have h1 := xor_cancel h
  exact xor_cancel (crcEntry_low (idx8 s c hs hc) (idx8 s c' hs hc') (by rw [h1]))
theorem crcUpd_state {s s' c : Nat} (hs : s < 4294967296) (hs' : s' < 4294967296) (hc : c < 256) (h : crcUpd s c = crcUpd s' c) : s = s' := by
  unfold crcUpd at h
  have h1 : crcEntry ((s / 16777216) ^^^ c) % 256 = crcEntry ((s' / 16777216) ^^^ c) % 256 := by
    have e1 := xor_low s (crcEntry ((s / 16777216) ^^^ c))
    have e2 := xor_low s' (crcEntry ((s' / 16777216) ^^^ c))
    rw [h] at e1
    exact e1.symm.trans e2
  have h2 := crcEntry_low (idx8 s c hs hc) (idx8 s' c hs' hc) h1
  rw [h2] at h
  have h3 : s * 256 % 4294967296 = s' * 256 % 4294967296 := by
    rw [Nat.xor_comm, Nat.xor_comm (s' * 256 % 4294967296)] at h
    exact xor_cancel h
  have h4 : s / 16777216 = s' / 16777216 := by
    rw [Nat.xor_comm, Nat.xor_comm (s' / 16777216)] at h2
    exact xor_cancel h2
  omega
theorem crcExt_inj (l : List UInt8) : ∀ {s s' : Nat}, s < 4294967296 → s' < 4294967296 → crcExt s l = crcExt s' l → s = s' := by
  induction l with
  | nil => exact fun _ _ h => h
  | cons c l ih =>
    intro s s' hs hs' h
    have := ih (crcUpd_lt s _ hs c.toNat_lt) (crcUpd_lt s' _ hs' c.toNat_lt) h
    exact crcUpd_state hs hs' c.toNat_lt this
theorem crcExt_set (l : List UInt8) : ∀ (i : Nat) (x : UInt8) {s : Nat} (hi : i < l.length), s < 4294967296 → crcExt s (l.set i x) = crcExt s l → x = l[i] := by
  induction l with
  | nil => intro i x s hi; simp at hi
  | cons c l ih =>
    intro i x s hi hs h
    cases i with
    | zero =>
      have h2 : crcExt (crcUpd s x.toNat) l = crcExt (crcUpd s c.toNat) l := h
      have h3 := crcExt_inj l (crcUpd_lt s _ hs x.toNat_lt) (crcUpd_lt s _ hs c.toNat_lt) h2
      exact UInt8.toNat_inj.1 (crcUpd_byte hs x.toNat_lt c.toNat_lt h3)
    | succ i => exact ih i x (by simpa using hi) (crcUpd_lt s _ hs c.toNat_lt) h
theorem crcBytes_inj {l m : List UInt8} (h : crcBytes l = crcBytes m) : crc32 l = crc32 m := by
  have h1 := crc32_lt l
  have h2 := crc32_lt m
  unfold crcBytes at h
  simp only [List.cons.injEq, and_true] at h
  obtain ⟨a, b, c, d⟩ := h
  have key : ∀ {x y : Nat}, UInt8.ofNat x = UInt8.ofNat y → x % 256 = y % 256 := fun {x y} e => by
    have := congrArg UInt8.toNat e
    simpa using this
  have a := key a
  have b := key b
  have c := key c
  have d := key d
  omega

/-- a bit of a byte is flipped -/
def flipB (x : UInt8) (b : Nat) : UInt8 := UInt8.ofNat (x.toNat ^^^ 2 ^ b)
theorem flipB_nat (x : UInt8) {b : Nat} (hb : b < 8) : (flipB x b).toNat = x.toNat ^^^ 2 ^ b := by
  have h1 : 2 ^ b < 256 := Nat.pow_lt_pow_right (by decide) hb
  have h2 : x.toNat ^^^ 2 ^ b < 256 := xor_lt8 x.toNat_lt h1
  unfold flipB
  rw [UInt8.toNat_ofNat']
  exact Nat.mod_eq_of_lt h2
theorem flipB_ne (x : UInt8) {b : Nat} (hb : b < 8) : flipB x b ≠ x := fun h => by
  have h1 := congrArg UInt8.toNat h
  rw [flipB_nat x hb] at h1
  have h2 : x.toNat ^^^ 2 ^ b = x.toNat ^^^ 0 := by rw [Nat.xor_zero]; exact h1
  have h3 := xor_cancel h2
  have : 0 < 2 ^ b := Nat.two_pow_pos b
  omega
def flipL (l : List UInt8) (i b : Nat) : List UInt8 := l.set i (flipB (l.getD i 0) b)
theorem verify_flip (l : List UInt8) (i b : Nat) (hi : i < (l ++ crcBytes l).length) (hb : b < 8) : verifyP (flipL (l ++ crcBytes l) i b) = ([], 31) := by
  have h4 : (crcBytes l).length = 4 := rfl
  have hlen : (flipL (l ++ crcBytes l) i b).length = l.length + 4 := by simp [flipL, h4]
  unfold verifyP
  rw [if_neg (by omega), if_neg]
  rw [hlen, show l.length + 4 - 4 = l.length from by omega]
  unfold flipL crcOk
  simp only [decide_eq_true_eq]
  intro h
  by_cases hil : i < l.length
  · rw [List.set_append_left _ _ hil] at h
    rw [List.drop_left' (by simp), List.take_left' (by simp)] at h
    have h2 := crcBytes_inj h
    unfold crc32 at h2
    have h5 := crcExt_lt (l.set i (flipB ((l ++ crcBytes l).getD i 0) b)) 4294967295 (by omega)
    have h6 := crcExt_lt l 4294967295 (by omega)
    have h3 := crcExt_set l i (flipB ((l ++ crcBytes l).getD i 0) b) (s := 4294967295) hil (by omega) (by omega)
    have e : (l ++ crcBytes l).getD i 0 = l[i] := by
      rw [List.getD_eq_getElem?_getD, List.getElem?_append_left hil, List.getElem?_eq_getElem hil]
      rfl
    rw [e] at h3
    exact flipB_ne _ hb h3
  · rw [List.set_append_right _ _ (by omega)] at h
    rw [List.drop_left' rfl, List.take_left' rfl] at h
    have hj : i - l.length < 4 := by
      rw [List.length_append, h4] at hi
      omega
    have h3 := congrArg (fun q => q[i - l.length]?) h
    simp only [List.getElem?_set_self (show i - l.length < (crcBytes l).length from hj)] at h3
    have e : (l ++ crcBytes l).getD i 0 = (crcBytes l)[i - l.length] := by
      rw [List.getD_eq_getElem?_getD, List.getElem?_append_right (by omega), List.getElem?_eq_getElem hj]
      rfl
    rw [e, List.getElem?_eq_getElem hj] at h3
    exact flipB_ne _ hb (Option.some.inj h3)
end Go.Sx
