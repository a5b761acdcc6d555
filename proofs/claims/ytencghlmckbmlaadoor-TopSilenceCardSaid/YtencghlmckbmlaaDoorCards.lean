/-
  DERIVED. GIVEN WITH THE SEED: THE CARDS: each row of YtencghlmckbmlaaDoorRows.lean that lists a variable, with what it lists TIED to the program's text (the seventh form; the later family's looks); each row that meets fmt, with fmt's text TOLD by the authors' own Lean function (tested against real Go, not proved from fmt's source: count such statements apart). THE CARD IS WHAT COUNTS. Prove the row's statement (the work); the ties are given (YtencghlmckbmlaaDoorTie.lean); close each card by the builder's one call (the guide's Derived/Test/ToyasCard.lean, 'card_holds'). Laid BY PROGRAM, IN A SANDBOX (cutbox-door.mjs). By AI agents, Wed Nov 11 2026. No macro, syntax, notation, axiom, sorry.
-/
import Derived.Test.YtencghlmckbmlaaDoorRows
import GoSem.ClaimSeven
namespace Go.Proofs.YtencghlmckbmlaaDoor
namespace Rows

/-- THE TIED CARD OF 'hotspottop.TopSilence'. -/
def topSilenceCard : Claim7 := { stood := { row := topSilenceRow, standIns := [], harness := (true, "e6f0a419ba0fd826e80823ff33ac538447dd424ffb09e6bc7b0596b3245db682"), looks := false }, kinds := [], alts := [], laidByText := true, laidKinds := [.data, .mapped], laidTests := true, laidLooks := .later }
def TopSilenceCardSaid : Prop := Claim7.holds Tryd.pinned (.plain (OpenSpec.ofChange topSilenceSpec)) topSilenceCard

/-- THE SECOND FORM's CARD OF 'hotspottop.TopSilence'. -/
def topSilenceUptoCard : Claim7 := { stood := { row := topSilenceUptoRow, standIns := [], harness := (true, "e6f0a419ba0fd826e80823ff33ac538447dd424ffb09e6bc7b0596b3245db682"), looks := false }, kinds := [], alts := [], laidByText := true, laidKinds := [.data, .mapped], laidTests := true, laidLooks := .later }
def TopSilenceUptoCardSaid : Prop := Claim7.holds Tryd.pinned (.plain (OpenSpec.upto topSilenceSpec)) topSilenceUptoCard
end Rows
end Go.Proofs.YtencghlmckbmlaaDoor
