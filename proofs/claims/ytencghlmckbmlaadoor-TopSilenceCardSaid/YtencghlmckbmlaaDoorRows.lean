/-
  NARROWER THAN 'FOR EVERY INPUT', by the rows' own cells (each row's printed sentence says how): TopSilence: laid.
  DERIVED. THE GIVEN ROWS OF THIS SEAT. 1 by the template 'for every input the law returns true; each argument reads behind the call as it read before'; 0 by the template 'total and deterministic' (their statements: YtencghlmckbmlaaDoorTotals.lean).
  GIVEN WITH THE SEED: the statements are not yours to turn. If you find one false, say at which input.
  Laid BY PROGRAM, IN A SANDBOX (cutbox-rows.mjs): the forced cells as the released guide's own fill.sh prints them over the translation 4eab3864f7270128… (all of the seat's roots in one cut). By AI agents, Wed Nov 11 2026. No macro, syntax, notation, axiom, sorry.
-/
import Derived.Test.YtencghlmckbmlaaDoorChecked
import GoSem.Claim
import GoSem.ClaimJoined
import GoSem.ClaimMapViews
import Derived.JoinedTies
import Derived.KernelRfl
namespace Go.Proofs.YtencghlmckbmlaaDoor
/- THE CELL 'sum', in the pinned program and in every row, IS THE sha256 OF THE DUMP (.gsa) THAT YtencghlmckbmlaaDoorProg.lean LOADS. Nothing in Lean hashes anything: it is a label: what it is worth is what the hold of that sum in a sandbox is worth. -/
noncomputable def Tryd.pinned : Pinned := { name := "ytencghlmckbmlaadoor", sum := "4eab3864f72701282b35022c2716627e7cdb6bd9797dd2758f70ba76a5875033", checked := Tryd.checked }
namespace Rows
def none {H : Type} : Left H := { results := [], args := [] }

/- WHAT THE LISTED PACKAGE-LEVEL VARIABLES READ AS WHEN THE CALL BEGINS. Each datum BY PROGRAM (the guide's laid-datum.mjs) off the statement by which the dump's own 'gosem.cut.vars' lays the variable. In a bare row this is a premise. The card (YtencghlmckbmlaaDoorCards.lean) ties it to the program's text. -/
def laid_hotspot_deferral_slots {H : Type} : DataW H := .agg [.lit (.int .i64 7), .lit (.int .i64 3), .lit (.int .i64 2), .lit (.int .i64 2)]
def laid_hotspot_exchange_subs {H : Type} : DataW H := .map [(.int .u8 1, .agg [.lit (.int .u8 1), .lit (.int .u8 11)]), (.int .u8 2, .agg [.lit (.int .u8 1), .lit (.int .u8 12)]), (.int .u8 3, .agg [.lit (.int .u8 1), .lit (.int .u8 12)]), (.int .u8 4, .agg [.lit (.int .u8 2), .lit (.int .u8 8)]), (.int .u8 5, .agg [.lit (.int .u8 1), .lit (.int .u8 13)]), (.int .u8 6, .agg [.lit (.int .u8 1), .lit (.int .u8 8)]), (.int .u8 7, .agg [.lit (.int .u8 1), .lit (.int .u8 9)])]

/-- 'hotspottop.TopSilence': WHATEVER THE INPUT: true; the input reads as it did. -/
def topSilenceSpec : ChangeSpec := { name := "topSilence", fn := fun _ => fun
  | [d] => { results := [.lit (.bool true)], args := [d] }
  | _ => none }
def topSilenceRow : OpenClaim := { program := "ytencghlmckbmlaadoor", sum := "4eab3864f72701282b35022c2716627e7cdb6bd9797dd2758f70ba76a5875033", func := "hotspot/hotspottop.TopSilence", spec := "topSilence", unfollowed := true, recurses := true, named := ["hotspot/exchange.subs", "hotspot/deferral.slots"], apart := false, laid := [("hotspot/deferral.slots", laid_hotspot_deferral_slots), ("hotspot/exchange.subs", laid_hotspot_exchange_subs)] }
def TopSilenceSaid : Prop := topSilenceRow.holds Tryd.pinned (OpenSpec.ofChange topSilenceSpec)

/-- ITS FALSE NEIGHBOUR: 'it returns false'. Refute it at one input. -/
def topSilenceWrong : ChangeSpec := { name := "topSilence", fn := fun _ => fun
  | [d] => { results := [.lit (.bool false)], args := [d] }
  | _ => none }
def TopSilenceWrongFalsely : Prop := topSilenceRow.holds Tryd.pinned (OpenSpec.ofChange topSilenceWrong)

/- THE SECOND FORM. 'bulk': how many values and letters a reading holds, each counted each time it is reached (what is shared counts as often as it is met; a slice's spare places count too). A statement '..UptoSaid' is the law's where the arguments, and the package variables that the reading takes, are together of bulk at most 1048576: NARROWER than '..Said'. Prove '..Said' where nothing that the law and all that it calls make is longer than what came in: it says more and counts as full. Else prove '..UptoSaid'. A law counts once. -/
mutual
def uptoBulk {H : Type} : DataW H → Nat
  | .lit (.string bytes) => bytes.length + 1
  | .lit _ => 1
  | .nil => 1
  | .ptr d => uptoBulk d + 1
  | .slice elems spare => uptoBulkAll elems + uptoBulkAll spare + 1
  | .agg parts => uptoBulkAll parts + 1
  | .iface _ d => uptoBulk d + 1
  | .map entries => uptoBulkEntries entries + 1
  | .held _ => 1
def uptoBulkAll {H : Type} : List (DataW H) → Nat
  | [] => 0
  | d :: r => uptoBulk d + uptoBulkAll r
def uptoBulkEntries {H : Type} : List (Lit × DataW H) → Nat
  | [] => 0
  | x :: r => uptoBulkEntry x + uptoBulkEntries r
def uptoBulkEntry {H : Type} : Lit × DataW H → Nat
  | (.string bytes, d) => bytes.length + uptoBulk d + 1
  | (_, d) => uptoBulk d + 1
 end
def uptoSmall : (H : Type) → List (DataW H) → Bool := fun _ ds => decide (uptoBulkAll ds ≤ 1048576)
def OpenSpec.upto (s : _root_.Go.ChangeSpec) : _root_.Go.OpenSpec := { _root_.Go.OpenSpec.ofChange s with cond := some uptoSmall }

/-- 'hotspottop.TopSilence', WHERE WHAT IT READS IS OF BULK AT MOST 1048576: true; the input reads as it did. -/
def topSilenceUptoRow : OpenClaim := { program := "ytencghlmckbmlaadoor", sum := "4eab3864f72701282b35022c2716627e7cdb6bd9797dd2758f70ba76a5875033", func := "hotspot/hotspottop.TopSilence", spec := "topSilence", unfollowed := true, recurses := true, named := ["hotspot/exchange.subs", "hotspot/deferral.slots"], apart := false, laid := [("hotspot/deferral.slots", laid_hotspot_deferral_slots), ("hotspot/exchange.subs", laid_hotspot_exchange_subs)], narrowed := true }
def TopSilenceUptoSaid : Prop := topSilenceUptoRow.holds Tryd.pinned (OpenSpec.upto topSilenceSpec)

end Rows
end Go.Proofs.YtencghlmckbmlaaDoor
