/-
  DERIVED. GIVEN WITH THE SEED: THE CARDS: each row of YtkinkfieackmdaaGreatDoorRows.lean that lists a variable, with what it lists TIED to the program's text (the seventh form; the later family's looks); each row that meets fmt, with fmt's text TOLD by the authors' own Lean function (tested against real Go, not proved from fmt's source: count such statements apart). THE CARD IS WHAT COUNTS. Prove the row's statement (the work); the ties are given (YtkinkfieackmdaaGreatDoorTie.lean); close each card by the builder's one call (the guide's Derived/Test/ToyasCard.lean, 'card_holds'). Laid BY PROGRAM, IN A SANDBOX (cutbox-door.mjs). By AI agents, Wed Nov 11 2026. No macro, syntax, notation, axiom, sorry.
-/
import Derived.Test.YtkinkfieackmdaaGreatDoorRows
import GoSem.ClaimSeven
namespace Go.Proofs.YtkinkfieackmdaaGreatDoor
namespace Rows

/-- THE TIED CARD OF 'laws.FnExactPathDecreases'. -/
def fnExactPathDecreasesCard : Claim7 := { stood := { row := fnExactPathDecreasesRow, standIns := [], harness := (true, "55a62c6a2098c7b170f84c92793c8ab6538007f91f0a63aad5ad90016af95258"), looks := false }, kinds := [], alts := [], laidByText := true, laidKinds := [.data, .data, .data], laidTests := true, laidLooks := .later }
def FnExactPathDecreasesCardSaid : Prop := Claim7.holds Tryz.pinned (.plain (OpenSpec.ofChange fnExactPathDecreasesSpec)) fnExactPathDecreasesCard

/-- THE SECOND FORM's CARD OF 'laws.FnExactPathDecreases'. -/
def fnExactPathDecreasesUptoCard : Claim7 := { stood := { row := fnExactPathDecreasesUptoRow, standIns := [], harness := (true, "55a62c6a2098c7b170f84c92793c8ab6538007f91f0a63aad5ad90016af95258"), looks := false }, kinds := [], alts := [], laidByText := true, laidKinds := [.data, .data, .data], laidTests := true, laidLooks := .later }
def FnExactPathDecreasesUptoCardSaid : Prop := Claim7.holds Tryz.pinned (.plain (OpenSpec.upto fnExactPathDecreasesSpec)) fnExactPathDecreasesUptoCard
end Rows
end Go.Proofs.YtkinkfieackmdaaGreatDoor
