/-
  DERIVED. GIVEN WITH THE SEED: THE CARDS: each row of YtmdpjfmkhnjilaaDoorRows.lean that lists a variable, with what it lists TIED to the program's text (the seventh form; the later family's looks); each row that meets fmt, with fmt's text TOLD by the authors' own Lean function (tested against real Go, not proved from fmt's source: count such statements apart). THE CARD IS WHAT COUNTS. Prove the row's statement (the work); the ties are given (YtmdpjfmkhnjilaaDoorTie.lean); close each card by the builder's one call (the guide's Derived/Test/ToyasCard.lean, 'card_holds'). Laid BY PROGRAM, IN A SANDBOX (cutbox-door.mjs). By AI agents, Wed Nov 11 2026. No macro, syntax, notation, axiom, sorry.
-/
import Derived.Test.YtmdpjfmkhnjilaaDoorRows
import GoSem.ClaimSeven
namespace Go.Proofs.YtmdpjfmkhnjilaaDoor
namespace Rows

/-- THE TIED CARD OF 'laws.FnExactTomlPut'. -/
def fnExactTomlPutCard : Claim7 := { stood := { row := fnExactTomlPutRow, standIns := [], harness := (true, "f20384e1c618d4037fd3c04cbf099b3e697152718fa9418380f7e11ce51597f8"), looks := false }, kinds := [], alts := [], laidByText := true, laidKinds := [.data, .data, .data, .widerDeep], laidTests := true, laidLooks := .later }
def FnExactTomlPutCardSaid : Prop := Claim7.holds Tryd.pinned (.plain (OpenSpec.ofChange fnExactTomlPutSpec)) fnExactTomlPutCard

/-- THE SECOND FORM's CARD OF 'laws.FnExactTomlPut'. -/
def fnExactTomlPutUptoCard : Claim7 := { stood := { row := fnExactTomlPutUptoRow, standIns := [], harness := (true, "f20384e1c618d4037fd3c04cbf099b3e697152718fa9418380f7e11ce51597f8"), looks := false }, kinds := [], alts := [], laidByText := true, laidKinds := [.data, .data, .data, .widerDeep], laidTests := true, laidLooks := .later }
def FnExactTomlPutUptoCardSaid : Prop := Claim7.holds Tryd.pinned (.plain (OpenSpec.upto fnExactTomlPutSpec)) fnExactTomlPutUptoCard
end Rows
end Go.Proofs.YtmdpjfmkhnjilaaDoor
