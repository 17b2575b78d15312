/-
  DERIVED. GIVEN WITH THE SEED: THE CARDS: each row of YtlmdhmfhopgekaaDoorRows.lean that lists a variable, with what it lists TIED to the program's text (the seventh form; the later family's looks); each row that meets fmt, with fmt's text TOLD by the authors' own Lean function (tested against real Go, not proved from fmt's source: count such statements apart). THE CARD IS WHAT COUNTS. Prove the row's statement (the work); the ties are given (YtlmdhmfhopgekaaDoorTie.lean); close each card by the builder's one call (the guide's Derived/Test/ToyasCard.lean, 'card_holds'). Laid BY PROGRAM, IN A SANDBOX (cutbox-door.mjs). By AI agents, Wed Nov 11 2026. No macro, syntax, notation, axiom, sorry.
-/
import Derived.Test.YtlmdhmfhopgekaaDoorRows
import GoSem.ClaimSeven
namespace Go.Proofs.YtlmdhmfhopgekaaDoor
namespace Rows

/-- THE TIED CARD OF 'laws.FnExactJsonPut'. -/
def fnExactJsonPutCard : Claim7 := { stood := { row := fnExactJsonPutRow, standIns := [], harness := (true, "a78c6b59f565ef922270cb4cf34259479bba484ce0b7c1104ba1180efad15625"), looks := false }, kinds := [], alts := [], laidByText := true, laidKinds := [.data, .data, .data, .widerDeep], laidTests := true, laidLooks := .later }
def FnExactJsonPutCardSaid : Prop := Claim7.holds Tryd.pinned (.plain (OpenSpec.ofChange fnExactJsonPutSpec)) fnExactJsonPutCard

/-- THE SECOND FORM's CARD OF 'laws.FnExactJsonPut'. -/
def fnExactJsonPutUptoCard : Claim7 := { stood := { row := fnExactJsonPutUptoRow, standIns := [], harness := (true, "a78c6b59f565ef922270cb4cf34259479bba484ce0b7c1104ba1180efad15625"), looks := false }, kinds := [], alts := [], laidByText := true, laidKinds := [.data, .data, .data, .widerDeep], laidTests := true, laidLooks := .later }
def FnExactJsonPutUptoCardSaid : Prop := Claim7.holds Tryd.pinned (.plain (OpenSpec.upto fnExactJsonPutSpec)) fnExactJsonPutUptoCard
end Rows
end Go.Proofs.YtlmdhmfhopgekaaDoor
