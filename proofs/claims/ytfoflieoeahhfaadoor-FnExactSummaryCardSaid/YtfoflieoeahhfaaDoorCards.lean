/-
  DERIVED. GIVEN WITH THE SEED: THE CARDS: each row of YtfoflieoeahhfaaDoorRows.lean that lists a variable, with what it lists TIED to the program's text (the seventh form; the later family's looks); each row that meets fmt, with fmt's text TOLD by the authors' own Lean function (tested against real Go, not proved from fmt's source: count such statements apart). THE CARD IS WHAT COUNTS. Prove the row's statement (the work); the ties are given (YtfoflieoeahhfaaDoorTie.lean); close each card by the builder's one call (the guide's Derived/Test/ToyasCard.lean, 'card_holds'). Laid BY PROGRAM, IN A SANDBOX (cutbox-door.mjs). By AI agents, Wed Nov 11 2026. No macro, syntax, notation, axiom, sorry.
-/
import Derived.Test.YtfoflieoeahhfaaDoorRows
import GoSem.ClaimSeven
namespace Go.Proofs.YtfoflieoeahhfaaDoor
namespace Rows

/-- THE TIED CARD OF 'laws.FnExactSummary'. -/
def fnExactSummaryCard : Claim7 := { stood := { row := fnExactSummaryRow, standIns := [], harness := (true, "ea79d0d73bbf8eb27c3bc86f0db069f9d0eaf8881b97d0d9d7e6b320d5f60326"), looks := false }, kinds := [], alts := [], laidByText := true, laidKinds := [.data, .data, .data], laidTests := true, laidLooks := .later }
def FnExactSummaryCardSaid : Prop := Claim7.holds Tryd.pinned (.plain (OpenSpec.ofChange fnExactSummarySpec)) fnExactSummaryCard

/-- THE SECOND FORM's CARD OF 'laws.FnExactSummary'. -/
def fnExactSummaryUptoCard : Claim7 := { stood := { row := fnExactSummaryUptoRow, standIns := [], harness := (true, "ea79d0d73bbf8eb27c3bc86f0db069f9d0eaf8881b97d0d9d7e6b320d5f60326"), looks := false }, kinds := [], alts := [], laidByText := true, laidKinds := [.data, .data, .data], laidTests := true, laidLooks := .later }
def FnExactSummaryUptoCardSaid : Prop := Claim7.holds Tryd.pinned (.plain (OpenSpec.upto fnExactSummarySpec)) fnExactSummaryUptoCard
end Rows
end Go.Proofs.YtfoflieoeahhfaaDoor
