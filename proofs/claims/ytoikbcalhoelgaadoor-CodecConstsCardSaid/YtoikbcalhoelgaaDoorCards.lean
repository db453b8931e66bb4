/-
  DERIVED. GIVEN WITH THE SEED: THE CARDS: each row of YtoikbcalhoelgaaDoorRows.lean that lists a variable, with what it lists TIED to the program's text (the seventh form; the later family's looks); each row that meets fmt, with fmt's text TOLD by the authors' own Lean function (tested against real Go, not proved from fmt's source: count such statements apart). THE CARD IS WHAT COUNTS. Prove the row's statement (the work); the ties are given (YtoikbcalhoelgaaDoorTie.lean); close each card by the builder's one call (the guide's Derived/Test/ToyasCard.lean, 'card_holds'). Laid BY PROGRAM, IN A SANDBOX (cutbox-door.mjs). By AI agents, Wed Nov 11 2026. No macro, syntax, notation, axiom, sorry.
-/
import Derived.Test.YtoikbcalhoelgaaDoorRows
import GoSem.ClaimSeven
namespace Go.Proofs.YtoikbcalhoelgaaDoor
namespace Rows

/-- THE TIED CARD OF 'cisternlaw21.CodecConsts'. -/
def codecConstsCard : Claim7 := { stood := { row := codecConstsRow, standIns := [], harness := (true, "f4bf4788a957ede607e3a41293a2b0e7e082bc71e323b19141a57895e579cf69"), looks := false }, kinds := [], alts := [], laidByText := true, laidKinds := [.data], laidTests := true, laidLooks := .later }
def CodecConstsCardSaid : Prop := Claim7.holds Tryd.pinned (.plain (OpenSpec.ofChange codecConstsSpec)) codecConstsCard

/-- THE SECOND FORM's CARD OF 'cisternlaw21.CodecConsts'. -/
def codecConstsUptoCard : Claim7 := { stood := { row := codecConstsUptoRow, standIns := [], harness := (true, "f4bf4788a957ede607e3a41293a2b0e7e082bc71e323b19141a57895e579cf69"), looks := false }, kinds := [], alts := [], laidByText := true, laidKinds := [.data], laidTests := true, laidLooks := .later }
def CodecConstsUptoCardSaid : Prop := Claim7.holds Tryd.pinned (.plain (OpenSpec.upto codecConstsSpec)) codecConstsUptoCard
end Rows
end Go.Proofs.YtoikbcalhoelgaaDoor
