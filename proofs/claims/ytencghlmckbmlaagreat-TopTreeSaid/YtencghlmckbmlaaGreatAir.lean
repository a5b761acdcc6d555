/- Bytes as texts, and a flipped bit, as rules of the calculus. Conditions: those of the rules. -/
import Derived.Test.YtencghlmckbmlaaGreatCrc
import Derived.Laws.BytesString
namespace Go.Sx
open Go Go.RowKit

def strOf (l : List UInt8) : ByteArray := (l.map fun c => (c.toNat : Int)).foldl (fun r n => r.push (UInt8.ofNat n.toNat)) ByteArray.empty
def flatV : Value → Bool
  | .int _ _ => true
  | .bool _ => true
  | _ => false
theorem vsEq_refl : ∀ xs : List Value, xs.all flatV = true → vsEq xs xs = true
  | [], _ => by simp [vsEq]
  | x :: xs, h => by
    simp only [List.all_cons, Bool.and_eq_true] at h
    have ih := vsEq_refl xs h.2
    cases x with
    | int k n => simp [vsEq, vEq, ih]
    | bool b => simp [vsEq, vEq, ih]
    | _ => cases h.1

section
variable {P : Program} {W0 : World} {gs : List Nat} {n : Nat} {E E' : List (Nat × Value)} {L L' : List Rs} {K : Act → World → Prop}
  {ops : Array Oper} {Q : Exit → Act → World → Prop} {a : Act} {W : World}

theorem Q.convStr {ts td e : TypeId} {x : Operand} {b o m c s by_ : Nat} {l : List UInt8} (ht : tySlice P ts = some (e, s, by_)) (he : tyInt P e = some .u8) (hd : P.underlying td = some .string) (hx : ev E x = some (.slice (some ⟨b, o, none⟩) m c)) (hl : l.length = m)
    (hrd : ∀ W, Only gs W0 W → Own W L → Rd W (some ⟨b, o, none⟩) (bs l)) : Quiet P W0 gs E L (.convert ts td x) (.string (strOf l)) := by
  intro a W dst ty pos after g hev ho hw
  obtain ⟨i, hu, _⟩ := tySlice_spec ht
  have hue : P.underlying e = some (.int .u8) := by
    unfold tyInt at he
    split at he
    · simp only [Option.some.injEq] at he
      subst he
      assumption
    · cases he
  have hr := hrd W ho hw
  have hcells : (loadCells ⟨b, o, none⟩ m).run P W = .ok ((l.map fun c => (c.toNat : Int)).map (Value.int .u8)).toArray W := by
    have := run_loadCells_list (P := P) W ⟨b, o, none⟩ (bs l) (fun j u hj => by
      rw [Addr.add_lit]
      exact Rd.at hr hj)
    rw [bs_length, hl] at this
    rw [this]
    simp [bs, Function.comp_def]
  simp [execOp, hev x _ hx, run_convert_bytes_string W ts td e _ _ _ hu hue hd, run_bytesToString W _ _ _ _ hcells, strOf]
theorem Q.eqStr {t t' : TypeId} {x y : Operand} {s : ByteArray} (hx : ev E x = some (.string s)) (hy : ev E y = some (.string s)) : Quiet P W0 gs E L (.binOp .eql t x y t') (.bool true) :=
  Q.bin hx hy (fun _ => by rw [eqGuard_at_string]; rfl) fun W => by simp [binOp, Op.stringOp]
theorem bs_set (l : List UInt8) (i : Nat) (x : UInt8) : bs (l.set i x) = (bs l).set i (.int .u8 (x.toNat : Int)) := by simp [bs, List.map_set]
theorem put_flip (l : List UInt8) (i b : Nat) (hi : i < l.length) (v : Int) (hv : v = ((flipB l[i] b).toNat : Int)) : Put (bs l) i [.int .u8 v] (bs (flipL l i b)) := by
  subst hv
  unfold flipL
  have e : l.getD i 0 = l[i] := by
    rw [List.getD_eq_getElem?_getD, List.getElem?_eq_getElem hi]
    rfl
  rw [e, bs_set]
  exact Put.set (by rw [bs_length]; exact hi)
theorem shl_bit (b : Nat) (hb : b < 8) : IntKind.u8.wrap ((1 : Int) * 2 ^ min ((b : Int)).toNat IntKind.u8.bits) = ((2 ^ b : Nat) : Int) := by
  have e : ((b : Int)).toNat = b := by omega
  have e2 : min b IntKind.u8.bits = b := by have : IntKind.u8.bits = 8 := rfl; omega
  have h1 : 2 ^ b < 256 := Nat.pow_lt_pow_right (by decide) hb
  have h3 : ((2 ^ b : Nat) : Int) = (2 : Int) ^ b := by push_cast; rfl
  rw [e, e2, ← h3, Int.one_mul]
  generalize 2 ^ b = z at *
  exact wrap_fit (by simp only [klo]; omega) (by simp only [khi]; omega)
theorem xor_bit (x : UInt8) (b : Nat) (hb : b < 8) : ((((x.toNat : Int)).toNat ^^^ (((2 ^ b : Nat) : Int)).toNat : Nat) : Int) = ((flipB x b).toNat : Int) := by
  rw [flipB_nat x hb, Int.toNat_natCast, Int.toNat_natCast]
end
end Go.Sx
