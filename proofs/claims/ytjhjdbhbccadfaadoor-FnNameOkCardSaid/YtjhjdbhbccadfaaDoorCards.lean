/-
  DERIVED. GIVEN WITH THE SEED: THE CARDS: each row of YtjhjdbhbccadfaaDoorRows.lean that lists a variable, with what it lists TIED to the program's text (the seventh form; the later family's looks); each row that meets fmt, with fmt's text TOLD by the authors' own Lean function (tested against real Go, not proved from fmt's source: count such statements apart). THE CARD IS WHAT COUNTS. Prove the row's statement (the work); the ties are given (YtjhjdbhbccadfaaDoorTie.lean); close each card by the builder's one call (the guide's Derived/Test/ToyasCard.lean, 'card_holds'). Laid BY PROGRAM, IN A SANDBOX (cutbox-door.mjs). By AI agents, Wed Nov 11 2026. No macro, syntax, notation, axiom, sorry.
-/
import Derived.Test.YtjhjdbhbccadfaaDoorRows
import GoSem.ClaimSeven
namespace Go.Proofs.YtjhjdbhbccadfaaDoor
namespace Rows

/-- THE TIED CARD OF 'laws.FnExactNameOk'. -/
def fnExactNameOkCard : Claim7 := { stood := { row := fnExactNameOkRow, standIns := [], harness := (true, "2c923a288b74f7c0191a3f549a8262e16aff7fd575908b18099928763319b26b"), looks := false }, kinds := [], alts := [], laidByText := true, laidKinds := [.widerDeep], laidTests := true, laidLooks := .later }
def FnExactNameOkCardSaid : Prop := Claim7.holds Tryd.pinned (.plain (OpenSpec.ofChange fnExactNameOkSpec)) fnExactNameOkCard

/-- THE TIED CARD OF 'laws.FnNameOk'. -/
def fnNameOkCard : Claim7 := { stood := { row := fnNameOkRow, standIns := [], harness := (true, "2c923a288b74f7c0191a3f549a8262e16aff7fd575908b18099928763319b26b"), looks := false }, kinds := [], alts := [], laidByText := true, laidKinds := [.widerDeep], laidTests := true, laidLooks := .later }
def FnNameOkCardSaid : Prop := Claim7.holds Tryd.pinned (.plain (OpenSpec.ofChange fnNameOkSpec)) fnNameOkCard

/-- THE TIED CARD OF 'laws.FnExactPapersOk'. -/
def fnExactPapersOkCard : Claim7 := { stood := { row := fnExactPapersOkRow, standIns := [], harness := (true, "2c923a288b74f7c0191a3f549a8262e16aff7fd575908b18099928763319b26b"), looks := false }, kinds := [], alts := [], laidByText := true, laidKinds := [.widerDeep], laidTests := true, laidLooks := .later }
def FnExactPapersOkCardSaid : Prop := Claim7.holds Tryd.pinned (.plain (OpenSpec.ofChange fnExactPapersOkSpec)) fnExactPapersOkCard

/-- THE SECOND FORM's CARD OF 'laws.FnExactNameOk'. -/
def fnExactNameOkUptoCard : Claim7 := { stood := { row := fnExactNameOkUptoRow, standIns := [], harness := (true, "2c923a288b74f7c0191a3f549a8262e16aff7fd575908b18099928763319b26b"), looks := false }, kinds := [], alts := [], laidByText := true, laidKinds := [.widerDeep], laidTests := true, laidLooks := .later }
def FnExactNameOkUptoCardSaid : Prop := Claim7.holds Tryd.pinned (.plain (OpenSpec.upto fnExactNameOkSpec)) fnExactNameOkUptoCard

/-- THE SECOND FORM's CARD OF 'laws.FnNameOk'. -/
def fnNameOkUptoCard : Claim7 := { stood := { row := fnNameOkUptoRow, standIns := [], harness := (true, "2c923a288b74f7c0191a3f549a8262e16aff7fd575908b18099928763319b26b"), looks := false }, kinds := [], alts := [], laidByText := true, laidKinds := [.widerDeep], laidTests := true, laidLooks := .later }
def FnNameOkUptoCardSaid : Prop := Claim7.holds Tryd.pinned (.plain (OpenSpec.upto fnNameOkSpec)) fnNameOkUptoCard

/-- THE SECOND FORM's CARD OF 'laws.FnExactPapersOk'. -/
def fnExactPapersOkUptoCard : Claim7 := { stood := { row := fnExactPapersOkUptoRow, standIns := [], harness := (true, "2c923a288b74f7c0191a3f549a8262e16aff7fd575908b18099928763319b26b"), looks := false }, kinds := [], alts := [], laidByText := true, laidKinds := [.widerDeep], laidTests := true, laidLooks := .later }
def FnExactPapersOkUptoCardSaid : Prop := Claim7.holds Tryd.pinned (.plain (OpenSpec.upto fnExactPapersOkSpec)) fnExactPapersOkUptoCard
end Rows
end Go.Proofs.YtjhjdbhbccadfaaDoor
