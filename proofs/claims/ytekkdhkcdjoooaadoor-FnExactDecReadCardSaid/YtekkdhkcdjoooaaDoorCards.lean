/-
  DERIVED. GIVEN WITH THE SEED: THE CARDS: each row of YtekkdhkcdjoooaaDoorRows.lean that lists a variable, with what it lists TIED to the program's text (the seventh form; the later family's looks); each row that meets fmt, with fmt's text TOLD by the authors' own Lean function (tested against real Go, not proved from fmt's source: count such statements apart). THE CARD IS WHAT COUNTS. Prove the row's statement (the work); the ties are given (YtekkdhkcdjoooaaDoorTie.lean); close each card by the builder's one call (the guide's Derived/Test/ToyasCard.lean, 'card_holds'). Laid BY PROGRAM, IN A SANDBOX (cutbox-door.mjs). By AI agents, Wed Nov 11 2026. No macro, syntax, notation, axiom, sorry.
-/
import Derived.Test.YtekkdhkcdjoooaaDoorRows
import GoSem.ClaimSeven
namespace Go.Proofs.YtekkdhkcdjoooaaDoor
namespace Rows

/-- THE TIED CARD OF 'laws.FnExactDecRead'. -/
def fnExactDecReadCard : Claim7 := { stood := { row := fnExactDecReadRow, standIns := [], harness := (true, "8ba90f092a7b928e5bc9c9387d4d60db16eea4415db80388f3d50e8367dda246"), looks := true }, kinds := [], alts := [], laidByText := true, laidKinds := [.data, .data, .data, .sentinel, .sentinel], laidTests := true, laidLooks := .later }
def FnExactDecReadCardSaid : Prop := Claim7.holds Tryd.pinned (.plain (OpenSpec.ofChange fnExactDecReadSpec)) fnExactDecReadCard

/-- THE SECOND FORM's CARD OF 'laws.FnExactDecRead'. -/
def fnExactDecReadUptoCard : Claim7 := { stood := { row := fnExactDecReadUptoRow, standIns := [], harness := (true, "8ba90f092a7b928e5bc9c9387d4d60db16eea4415db80388f3d50e8367dda246"), looks := true }, kinds := [], alts := [], laidByText := true, laidKinds := [.data, .data, .data, .sentinel, .sentinel], laidTests := true, laidLooks := .later }
def FnExactDecReadUptoCardSaid : Prop := Claim7.holds Tryd.pinned (.plain (OpenSpec.upto fnExactDecReadSpec)) fnExactDecReadUptoCard
end Rows
end Go.Proofs.YtekkdhkcdjoooaaDoor
