/-
  DERIVED. GIVEN WITH THE SEED: THE CARDS: each row of YtjafncnjefnloaaDoorRows.lean that lists a variable, with what it lists TIED to the program's text (the seventh form; the later family's looks); each row that meets fmt, with fmt's text TOLD by the authors' own Lean function (tested against real Go, not proved from fmt's source: count such statements apart). THE CARD IS WHAT COUNTS. Prove the row's statement (the work); the ties are given (YtjafncnjefnloaaDoorTie.lean); close each card by the builder's one call (the guide's Derived/Test/ToyasCard.lean, 'card_holds'). Laid BY PROGRAM, IN A SANDBOX (cutbox-door.mjs). By AI agents, Wed Nov 11 2026. No macro, syntax, notation, axiom, sorry.
-/
import Derived.Test.YtjafncnjefnloaaDoorRows
import GoSem.ClaimSeven
namespace Go.Proofs.YtjafncnjefnloaaDoor
namespace Rows

/-- THE TIED CARD OF 'laws.FnExactCounterRun'. -/
def fnExactCounterRunCard : Claim7 := { stood := { row := fnExactCounterRunRow, standIns := [], harness := (true, "2f5b324496a1b3f506762d45e8ed081554964ac07a5a75904071388516b70b90"), looks := false }, kinds := [], alts := [], laidByText := true, laidKinds := [.data, .data, .data], laidTests := true, laidLooks := .later }
def FnExactCounterRunCardSaid : Prop := Claim7.holds Tryd.pinned (.plain (OpenSpec.ofChange fnExactCounterRunSpec)) fnExactCounterRunCard

/-- THE TIED CARD OF 'laws.FnExactAllRunsHold'. -/
def fnExactAllRunsHoldCard : Claim7 := { stood := { row := fnExactAllRunsHoldRow, standIns := [], harness := (true, "2f5b324496a1b3f506762d45e8ed081554964ac07a5a75904071388516b70b90"), looks := false }, kinds := [], alts := [], laidByText := true, laidKinds := [.data, .data, .data], laidTests := true, laidLooks := .later }
def FnExactAllRunsHoldCardSaid : Prop := Claim7.holds Tryd.pinned (.plain (OpenSpec.ofChange fnExactAllRunsHoldSpec)) fnExactAllRunsHoldCard

/-- THE TIED CARD OF 'laws.FnExactSomeRunHolds'. -/
def fnExactSomeRunHoldsCard : Claim7 := { stood := { row := fnExactSomeRunHoldsRow, standIns := [], harness := (true, "2f5b324496a1b3f506762d45e8ed081554964ac07a5a75904071388516b70b90"), looks := false }, kinds := [], alts := [], laidByText := true, laidKinds := [.data, .data, .data], laidTests := true, laidLooks := .later }
def FnExactSomeRunHoldsCardSaid : Prop := Claim7.holds Tryd.pinned (.plain (OpenSpec.ofChange fnExactSomeRunHoldsSpec)) fnExactSomeRunHoldsCard

/-- THE TIED CARD OF 'laws.FnModelCheck'. -/
def fnModelCheckCard : Claim7 := { stood := { row := fnModelCheckRow, standIns := [], harness := (true, "2f5b324496a1b3f506762d45e8ed081554964ac07a5a75904071388516b70b90"), looks := false }, kinds := [], alts := [], laidByText := true, laidKinds := [.data, .data, .data], laidTests := true, laidLooks := .later }
def FnModelCheckCardSaid : Prop := Claim7.holds Tryd.pinned (.plain (OpenSpec.ofChange fnModelCheckSpec)) fnModelCheckCard

/-- THE TIED CARD OF 'laws.FnCounterRun'. -/
def fnCounterRunCard : Claim7 := { stood := { row := fnCounterRunRow, standIns := [], harness := (true, "2f5b324496a1b3f506762d45e8ed081554964ac07a5a75904071388516b70b90"), looks := false }, kinds := [], alts := [], laidByText := true, laidKinds := [.data, .data, .data], laidTests := true, laidLooks := .later }
def FnCounterRunCardSaid : Prop := Claim7.holds Tryd.pinned (.plain (OpenSpec.ofChange fnCounterRunSpec)) fnCounterRunCard

/-- THE SECOND FORM's CARD OF 'laws.FnExactCounterRun'. -/
def fnExactCounterRunUptoCard : Claim7 := { stood := { row := fnExactCounterRunUptoRow, standIns := [], harness := (true, "2f5b324496a1b3f506762d45e8ed081554964ac07a5a75904071388516b70b90"), looks := false }, kinds := [], alts := [], laidByText := true, laidKinds := [.data, .data, .data], laidTests := true, laidLooks := .later }
def FnExactCounterRunUptoCardSaid : Prop := Claim7.holds Tryd.pinned (.plain (OpenSpec.upto fnExactCounterRunSpec)) fnExactCounterRunUptoCard

/-- THE SECOND FORM's CARD OF 'laws.FnExactAllRunsHold'. -/
def fnExactAllRunsHoldUptoCard : Claim7 := { stood := { row := fnExactAllRunsHoldUptoRow, standIns := [], harness := (true, "2f5b324496a1b3f506762d45e8ed081554964ac07a5a75904071388516b70b90"), looks := false }, kinds := [], alts := [], laidByText := true, laidKinds := [.data, .data, .data], laidTests := true, laidLooks := .later }
def FnExactAllRunsHoldUptoCardSaid : Prop := Claim7.holds Tryd.pinned (.plain (OpenSpec.upto fnExactAllRunsHoldSpec)) fnExactAllRunsHoldUptoCard

/-- THE SECOND FORM's CARD OF 'laws.FnExactSomeRunHolds'. -/
def fnExactSomeRunHoldsUptoCard : Claim7 := { stood := { row := fnExactSomeRunHoldsUptoRow, standIns := [], harness := (true, "2f5b324496a1b3f506762d45e8ed081554964ac07a5a75904071388516b70b90"), looks := false }, kinds := [], alts := [], laidByText := true, laidKinds := [.data, .data, .data], laidTests := true, laidLooks := .later }
def FnExactSomeRunHoldsUptoCardSaid : Prop := Claim7.holds Tryd.pinned (.plain (OpenSpec.upto fnExactSomeRunHoldsSpec)) fnExactSomeRunHoldsUptoCard

/-- THE SECOND FORM's CARD OF 'laws.FnModelCheck'. -/
def fnModelCheckUptoCard : Claim7 := { stood := { row := fnModelCheckUptoRow, standIns := [], harness := (true, "2f5b324496a1b3f506762d45e8ed081554964ac07a5a75904071388516b70b90"), looks := false }, kinds := [], alts := [], laidByText := true, laidKinds := [.data, .data, .data], laidTests := true, laidLooks := .later }
def FnModelCheckUptoCardSaid : Prop := Claim7.holds Tryd.pinned (.plain (OpenSpec.upto fnModelCheckSpec)) fnModelCheckUptoCard

/-- THE SECOND FORM's CARD OF 'laws.FnCounterRun'. -/
def fnCounterRunUptoCard : Claim7 := { stood := { row := fnCounterRunUptoRow, standIns := [], harness := (true, "2f5b324496a1b3f506762d45e8ed081554964ac07a5a75904071388516b70b90"), looks := false }, kinds := [], alts := [], laidByText := true, laidKinds := [.data, .data, .data], laidTests := true, laidLooks := .later }
def FnCounterRunUptoCardSaid : Prop := Claim7.holds Tryd.pinned (.plain (OpenSpec.upto fnCounterRunSpec)) fnCounterRunUptoCard
end Rows
end Go.Proofs.YtjafncnjefnloaaDoor
