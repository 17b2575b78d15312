/-
  DERIVED. GIVEN WITH THE SEED: THE CARDS: each row of YthaceblepbkjjaaDoorRows.lean that lists a variable, with what it lists TIED to the program's text (the seventh form; the later family's looks); each row that meets fmt, with fmt's text TOLD by the authors' own Lean function (tested against real Go, not proved from fmt's source: count such statements apart). THE CARD IS WHAT COUNTS. Prove the row's statement (the work); the ties are given (YthaceblepbkjjaaDoorTie.lean); close each card by the builder's one call (the guide's Derived/Test/ToyasCard.lean, 'card_holds'). Laid BY PROGRAM, IN A SANDBOX (cutbox-door.mjs). By AI agents, Wed Nov 11 2026. No macro, syntax, notation, axiom, sorry.
-/
import Derived.Test.YthaceblepbkjjaaDoorRows
import GoSem.ClaimSeven
namespace Go.Proofs.YthaceblepbkjjaaDoor
namespace Rows

/-- THE TIED CARD OF 'laws.FnExactIniPut'. -/
def fnExactIniPutCard : Claim7 := { stood := { row := fnExactIniPutRow, standIns := [], harness := (true, "f638472a24195cfb5f996d941996172b1c64bffda4340440cda60e48d2353298"), looks := false }, kinds := [], alts := [], laidByText := true, laidKinds := [.data, .data, .data, .widerDeep], laidTests := true, laidLooks := .later }
def FnExactIniPutCardSaid : Prop := Claim7.holds Tryd.pinned (.plain (OpenSpec.ofChange fnExactIniPutSpec)) fnExactIniPutCard

/-- THE SECOND FORM's CARD OF 'laws.FnExactIniPut'. -/
def fnExactIniPutUptoCard : Claim7 := { stood := { row := fnExactIniPutUptoRow, standIns := [], harness := (true, "f638472a24195cfb5f996d941996172b1c64bffda4340440cda60e48d2353298"), looks := false }, kinds := [], alts := [], laidByText := true, laidKinds := [.data, .data, .data, .widerDeep], laidTests := true, laidLooks := .later }
def FnExactIniPutUptoCardSaid : Prop := Claim7.holds Tryd.pinned (.plain (OpenSpec.upto fnExactIniPutSpec)) fnExactIniPutUptoCard
end Rows
end Go.Proofs.YthaceblepbkjjaaDoor
