/-
  DERIVED. GIVEN WITH THE SEED: THE CARDS: each row of YtoajejdicfabmaaDoorRows.lean that lists a variable, with what it lists TIED to the program's text (the seventh form; the later family's looks); each row that meets fmt, with fmt's text TOLD by the authors' own Lean function (tested against real Go, not proved from fmt's source: count such statements apart). THE CARD IS WHAT COUNTS. Prove the row's statement (the work); the ties are given (YtoajejdicfabmaaDoorTie.lean); close each card by the builder's one call (the guide's Derived/Test/ToyasCard.lean, 'card_holds'). Laid BY PROGRAM, IN A SANDBOX (cutbox-door.mjs). By AI agents, Wed Nov 11 2026. No macro, syntax, notation, axiom, sorry.
-/
import Derived.Test.YtoajejdicfabmaaDoorRows
import GoSem.ClaimSeven
namespace Go.Proofs.YtoajejdicfabmaaDoor
namespace Rows

/-- THE TIED CARD OF 'laws.FnExactValueOk'. -/
def fnExactValueOkCard : Claim7 := { stood := { row := fnExactValueOkRow, standIns := [], harness := (true, "48622c94dc73044a8128477cfc180b75b4585ab6f8ebd577eb18844b29b8fffa"), looks := false }, kinds := [], alts := [], laidByText := true, laidKinds := [.widerDeep], laidTests := true, laidLooks := .later }
def FnExactValueOkCardSaid : Prop := Claim7.holds Tryd.pinned (.plain (OpenSpec.ofChange fnExactValueOkSpec)) fnExactValueOkCard

/-- THE TIED CARD OF 'laws.FnValueOk'. -/
def fnValueOkCard : Claim7 := { stood := { row := fnValueOkRow, standIns := [], harness := (true, "48622c94dc73044a8128477cfc180b75b4585ab6f8ebd577eb18844b29b8fffa"), looks := false }, kinds := [], alts := [], laidByText := true, laidKinds := [.widerDeep], laidTests := true, laidLooks := .later }
def FnValueOkCardSaid : Prop := Claim7.holds Tryd.pinned (.plain (OpenSpec.ofChange fnValueOkSpec)) fnValueOkCard

/-- THE TIED CARD OF 'laws.FnValueCmp'. -/
def fnValueCmpCard : Claim7 := { stood := { row := fnValueCmpRow, standIns := [], harness := (true, "48622c94dc73044a8128477cfc180b75b4585ab6f8ebd577eb18844b29b8fffa"), looks := false }, kinds := [], alts := [], laidByText := true, laidKinds := [.widerDeep], laidTests := true, laidLooks := .later }
def FnValueCmpCardSaid : Prop := Claim7.holds Tryd.pinned (.plain (OpenSpec.ofChange fnValueCmpSpec)) fnValueCmpCard

/-- THE SECOND FORM's CARD OF 'laws.FnExactValueOk'. -/
def fnExactValueOkUptoCard : Claim7 := { stood := { row := fnExactValueOkUptoRow, standIns := [], harness := (true, "48622c94dc73044a8128477cfc180b75b4585ab6f8ebd577eb18844b29b8fffa"), looks := false }, kinds := [], alts := [], laidByText := true, laidKinds := [.widerDeep], laidTests := true, laidLooks := .later }
def FnExactValueOkUptoCardSaid : Prop := Claim7.holds Tryd.pinned (.plain (OpenSpec.upto fnExactValueOkSpec)) fnExactValueOkUptoCard

/-- THE SECOND FORM's CARD OF 'laws.FnValueOk'. -/
def fnValueOkUptoCard : Claim7 := { stood := { row := fnValueOkUptoRow, standIns := [], harness := (true, "48622c94dc73044a8128477cfc180b75b4585ab6f8ebd577eb18844b29b8fffa"), looks := false }, kinds := [], alts := [], laidByText := true, laidKinds := [.widerDeep], laidTests := true, laidLooks := .later }
def FnValueOkUptoCardSaid : Prop := Claim7.holds Tryd.pinned (.plain (OpenSpec.upto fnValueOkSpec)) fnValueOkUptoCard

/-- THE SECOND FORM's CARD OF 'laws.FnValueCmp'. -/
def fnValueCmpUptoCard : Claim7 := { stood := { row := fnValueCmpUptoRow, standIns := [], harness := (true, "48622c94dc73044a8128477cfc180b75b4585ab6f8ebd577eb18844b29b8fffa"), looks := false }, kinds := [], alts := [], laidByText := true, laidKinds := [.widerDeep], laidTests := true, laidLooks := .later }
def FnValueCmpUptoCardSaid : Prop := Claim7.holds Tryd.pinned (.plain (OpenSpec.upto fnValueCmpSpec)) fnValueCmpUptoCard
end Rows
end Go.Proofs.YtoajejdicfabmaaDoor
