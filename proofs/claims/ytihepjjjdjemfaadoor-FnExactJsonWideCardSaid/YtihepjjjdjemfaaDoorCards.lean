/-
  DERIVED. GIVEN WITH THE SEED: THE CARDS: each row of YtihepjjjdjemfaaDoorRows.lean that lists a variable, with what it lists TIED to the program's text (the seventh form; the later family's looks); each row that meets fmt, with fmt's text TOLD by the authors' own Lean function (tested against real Go, not proved from fmt's source: count such statements apart). THE CARD IS WHAT COUNTS. Prove the row's statement (the work); the ties are given (YtihepjjjdjemfaaDoorTie.lean); close each card by the builder's one call (the guide's Derived/Test/ToyasCard.lean, 'card_holds'). Laid BY PROGRAM, IN A SANDBOX (cutbox-door.mjs). By AI agents, Wed Nov 11 2026. No macro, syntax, notation, axiom, sorry.
-/
import Derived.Test.YtihepjjjdjemfaaDoorRows
import GoSem.ClaimSeven
namespace Go.Proofs.YtihepjjjdjemfaaDoor
namespace Rows

/-- THE TIED CARD OF 'laws.FnExactJsonWide'. -/
def fnExactJsonWideCard : Claim7 := { stood := { row := fnExactJsonWideRow, standIns := [], harness := (true, "613aa8a75ce07f9de4a94b4dafd5e9af212a6341bb975685915271a9f6892465"), looks := false }, kinds := [], alts := [], laidByText := true, laidKinds := [.data, .data, .data, .widerDeep], laidTests := true, laidLooks := .later }
def FnExactJsonWideCardSaid : Prop := Claim7.holds Tryd.pinned (.plain (OpenSpec.ofChange fnExactJsonWideSpec)) fnExactJsonWideCard

/-- THE SECOND FORM's CARD OF 'laws.FnExactJsonWide'. -/
def fnExactJsonWideUptoCard : Claim7 := { stood := { row := fnExactJsonWideUptoRow, standIns := [], harness := (true, "613aa8a75ce07f9de4a94b4dafd5e9af212a6341bb975685915271a9f6892465"), looks := false }, kinds := [], alts := [], laidByText := true, laidKinds := [.data, .data, .data, .widerDeep], laidTests := true, laidLooks := .later }
def FnExactJsonWideUptoCardSaid : Prop := Claim7.holds Tryd.pinned (.plain (OpenSpec.upto fnExactJsonWideSpec)) fnExactJsonWideUptoCard
end Rows
end Go.Proofs.YtihepjjjdjemfaaDoor
