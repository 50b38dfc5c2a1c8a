/-
  DERIVED. GIVEN WITH THE SEED: THE CARDS: each row of YtkmieoelgamdpaaGreatDoorRows.lean that lists a variable, with what it lists TIED to the program's text (the seventh form; the later family's looks); each row that meets fmt, with fmt's text TOLD by the authors' own Lean function (tested against real Go, not proved from fmt's source: count such statements apart). THE CARD IS WHAT COUNTS. Prove the row's statement (the work); the ties are given (YtkmieoelgamdpaaGreatDoorTie.lean); close each card by the builder's one call (the guide's Derived/Test/ToyasCard.lean, 'card_holds'). Laid BY PROGRAM, IN A SANDBOX (cutbox-door.mjs). By AI agents, Wed Nov 11 2026. No macro, syntax, notation, axiom, sorry.
-/
import Derived.Test.YtkmieoelgamdpaaGreatDoorRows
import GoSem.ClaimSeven
namespace Go.Proofs.YtkmieoelgamdpaaGreatDoor
namespace Rows

/-- THE TIED CARD OF 'hatchwaylaw22.ValueKinds'. -/
def valueKindsCard : Claim7 := { stood := { row := valueKindsRow, standIns := [], harness := (true, "911290862de31cc6e81aa032df97a63aaf8ad50ddfa9ed5e9bb7b4daffa8f563"), looks := false }, kinds := [], alts := [], laidByText := true, laidKinds := [.data], laidTests := true, laidLooks := .later }
def ValueKindsCardSaid : Prop := Claim7.holds Tryz.pinned (.plain (OpenSpec.ofChange valueKindsSpec)) valueKindsCard

/-- THE SECOND FORM's CARD OF 'hatchwaylaw22.ValueKinds'. -/
def valueKindsUptoCard : Claim7 := { stood := { row := valueKindsUptoRow, standIns := [], harness := (true, "911290862de31cc6e81aa032df97a63aaf8ad50ddfa9ed5e9bb7b4daffa8f563"), looks := false }, kinds := [], alts := [], laidByText := true, laidKinds := [.data], laidTests := true, laidLooks := .later }
def ValueKindsUptoCardSaid : Prop := Claim7.holds Tryz.pinned (.plain (OpenSpec.upto valueKindsSpec)) valueKindsUptoCard
end Rows
end Go.Proofs.YtkmieoelgamdpaaGreatDoor
