/-
  NARROWER THAN 'FOR EVERY INPUT', by the rows' own cells (each row's printed sentence says how): FnExactNameOk: laid · FnNameOk: laid · FnExactPapersOk: laid.
  DERIVED. THE GIVEN ROWS OF THIS SEAT. 3 by the template 'for every input the law returns true; each argument reads behind the call as it read before'; 0 by the template 'total and deterministic' (their statements: YtjhjdbhbccadfaaDoorTotals.lean).
  GIVEN WITH THE SEED: the statements are not yours to turn. If you find one false, say at which input.
  Laid BY PROGRAM, IN A SANDBOX (cutbox-rows.mjs): the forced cells as the released guide's own fill.sh prints them over the translation 01e0c9764de38a69… (all of the seat's roots in one cut). By AI agents, Wed Nov 11 2026. No macro, syntax, notation, axiom, sorry.
-/
import Derived.Test.YtjhjdbhbccadfaaDoorChecked
import GoSem.Claim
import GoSem.ClaimJoined
import GoSem.ClaimMapViews
import Derived.JoinedTies
import Derived.KernelRfl
namespace Go.Proofs.YtjhjdbhbccadfaaDoor
/- THE CELL 'sum', in the pinned program and in every row, IS THE sha256 OF THE DUMP (.gsa) THAT YtjhjdbhbccadfaaDoorProg.lean LOADS. Nothing in Lean hashes anything: it is a label: what it is worth is what the hold of that sum in a sandbox is worth. -/
noncomputable def Tryd.pinned : Pinned := { name := "ytjhjdbhbccadfaadoor", sum := "01e0c9764de38a6930f350e56dc9d8a9b0105eb9d932745fdc9484b86a4b631a", checked := Tryd.checked }
namespace Rows
def none {H : Type} : Left H := { results := [], args := [] }

/- WHAT THE LISTED PACKAGE-LEVEL VARIABLES READ AS WHEN THE CALL BEGINS. Each datum BY PROGRAM (the guide's laid-datum.mjs) off the statement by which the dump's own 'gosem.cut.vars' lays the variable. In a bare row this is a premise. The card (YtjhjdbhbccadfaaDoorCards.lean) ties it to the program's text. -/
def laid_loop_example_chancery_impl_words {H : Type} : DataW H := .slice [.lit (.string [110, 117, 108, 108]), .lit (.string [116, 114, 117, 101]), .lit (.string [102, 97, 108, 115, 101]), .lit (.string [105, 102]), .lit (.string [116, 104, 101, 110]), .lit (.string [101, 108, 115, 101]), .lit (.string [108, 111, 99, 97, 108]), .lit (.string [102, 117, 110, 99, 116, 105, 111, 110]), .lit (.string [115, 101, 108, 102]), .lit (.string [115, 117, 112, 101, 114]), .lit (.string [101, 114, 114, 111, 114]), .lit (.string [105, 109, 112, 111, 114, 116]), .lit (.string [102, 111, 114]), .lit (.string [105, 110]), .lit (.string [115, 116, 100])] []

/-- 'laws.FnExactNameOk': WHATEVER THE INPUT: true; the input reads as it did. -/
def fnExactNameOkSpec : ChangeSpec := { name := "fnExactNameOk", vars := ["loop.example/chancery/impl.words"], fn := fun _ => fun
  | [d, g1] => { results := [.lit (.bool true)], args := [d], vars := [g1] }
  | _ => none }
def fnExactNameOkRow : OpenClaim := { program := "ytjhjdbhbccadfaadoor", sum := "01e0c9764de38a6930f350e56dc9d8a9b0105eb9d932745fdc9484b86a4b631a", func := "loop.example/chancery/laws.FnExactNameOk", spec := "fnExactNameOk", unfollowed := true, recurses := true, named := ["loop.example/chancery/impl.words"], apart := false, laid := [("loop.example/chancery/impl.words", laid_loop_example_chancery_impl_words)] }
def FnExactNameOkSaid : Prop := fnExactNameOkRow.holds Tryd.pinned (OpenSpec.ofChange fnExactNameOkSpec)

/-- ITS FALSE NEIGHBOUR: 'it returns false'. Refute it at one input. -/
def fnExactNameOkWrong : ChangeSpec := { name := "fnExactNameOk", vars := ["loop.example/chancery/impl.words"], fn := fun _ => fun
  | [d, g1] => { results := [.lit (.bool false)], args := [d], vars := [g1] }
  | _ => none }
def FnExactNameOkWrongFalsely : Prop := fnExactNameOkRow.holds Tryd.pinned (OpenSpec.ofChange fnExactNameOkWrong)

/-- 'laws.FnNameOk': WHATEVER THE INPUT: true; the input reads as it did. -/
def fnNameOkSpec : ChangeSpec := { name := "fnNameOk", vars := ["loop.example/chancery/impl.words"], fn := fun _ => fun
  | [d, g1] => { results := [.lit (.bool true)], args := [d], vars := [g1] }
  | _ => none }
def fnNameOkRow : OpenClaim := { program := "ytjhjdbhbccadfaadoor", sum := "01e0c9764de38a6930f350e56dc9d8a9b0105eb9d932745fdc9484b86a4b631a", func := "loop.example/chancery/laws.FnNameOk", spec := "fnNameOk", unfollowed := true, recurses := true, named := ["loop.example/chancery/impl.words"], apart := false, laid := [("loop.example/chancery/impl.words", laid_loop_example_chancery_impl_words)] }
def FnNameOkSaid : Prop := fnNameOkRow.holds Tryd.pinned (OpenSpec.ofChange fnNameOkSpec)

/-- ITS FALSE NEIGHBOUR: 'it returns false'. Refute it at one input. -/
def fnNameOkWrong : ChangeSpec := { name := "fnNameOk", vars := ["loop.example/chancery/impl.words"], fn := fun _ => fun
  | [d, g1] => { results := [.lit (.bool false)], args := [d], vars := [g1] }
  | _ => none }
def FnNameOkWrongFalsely : Prop := fnNameOkRow.holds Tryd.pinned (OpenSpec.ofChange fnNameOkWrong)

/-- 'laws.FnExactPapersOk': WHATEVER THE INPUT: true; the input reads as it did. -/
def fnExactPapersOkSpec : ChangeSpec := { name := "fnExactPapersOk", vars := ["loop.example/chancery/impl.words"], fn := fun _ => fun
  | [d, g1] => { results := [.lit (.bool true)], args := [d], vars := [g1] }
  | _ => none }
def fnExactPapersOkRow : OpenClaim := { program := "ytjhjdbhbccadfaadoor", sum := "01e0c9764de38a6930f350e56dc9d8a9b0105eb9d932745fdc9484b86a4b631a", func := "loop.example/chancery/laws.FnExactPapersOk", spec := "fnExactPapersOk", unfollowed := true, recurses := true, named := ["loop.example/chancery/impl.words"], apart := false, laid := [("loop.example/chancery/impl.words", laid_loop_example_chancery_impl_words)] }
def FnExactPapersOkSaid : Prop := fnExactPapersOkRow.holds Tryd.pinned (OpenSpec.ofChange fnExactPapersOkSpec)

/-- ITS FALSE NEIGHBOUR: 'it returns false'. Refute it at one input. -/
def fnExactPapersOkWrong : ChangeSpec := { name := "fnExactPapersOk", vars := ["loop.example/chancery/impl.words"], fn := fun _ => fun
  | [d, g1] => { results := [.lit (.bool false)], args := [d], vars := [g1] }
  | _ => none }
def FnExactPapersOkWrongFalsely : Prop := fnExactPapersOkRow.holds Tryd.pinned (OpenSpec.ofChange fnExactPapersOkWrong)

/- THE SECOND FORM. 'bulk': how many values and letters a reading holds, each counted each time it is reached (what is shared counts as often as it is met; a slice's spare places count too). A statement '..UptoSaid' is the law's where the arguments, and the package variables that the reading takes, are together of bulk at most 1048576: NARROWER than '..Said'. Prove '..Said' where nothing that the law and all that it calls make is longer than what came in: it says more and counts as full. Else prove '..UptoSaid'. A law counts once. -/
mutual
def uptoBulk {H : Type} : DataW H → Nat
  | .lit (.string bytes) => bytes.length + 1
  | .lit _ => 1
  | .nil => 1
  | .ptr d => uptoBulk d + 1
  | .slice elems spare => uptoBulkAll elems + uptoBulkAll spare + 1
  | .agg parts => uptoBulkAll parts + 1
  | .iface _ d => uptoBulk d + 1
  | .map entries => uptoBulkEntries entries + 1
  | .held _ => 1
def uptoBulkAll {H : Type} : List (DataW H) → Nat
  | [] => 0
  | d :: r => uptoBulk d + uptoBulkAll r
def uptoBulkEntries {H : Type} : List (Lit × DataW H) → Nat
  | [] => 0
  | x :: r => uptoBulkEntry x + uptoBulkEntries r
def uptoBulkEntry {H : Type} : Lit × DataW H → Nat
  | (.string bytes, d) => bytes.length + uptoBulk d + 1
  | (_, d) => uptoBulk d + 1
 end
def uptoSmall : (H : Type) → List (DataW H) → Bool := fun _ ds => decide (uptoBulkAll ds ≤ 1048576)
def OpenSpec.upto (s : _root_.Go.ChangeSpec) : _root_.Go.OpenSpec := { _root_.Go.OpenSpec.ofChange s with cond := some uptoSmall }

/-- 'laws.FnExactNameOk', WHERE WHAT IT READS IS OF BULK AT MOST 1048576: true; the input reads as it did. -/
def fnExactNameOkUptoRow : OpenClaim := { program := "ytjhjdbhbccadfaadoor", sum := "01e0c9764de38a6930f350e56dc9d8a9b0105eb9d932745fdc9484b86a4b631a", func := "loop.example/chancery/laws.FnExactNameOk", spec := "fnExactNameOk", unfollowed := true, recurses := true, named := ["loop.example/chancery/impl.words"], apart := false, laid := [("loop.example/chancery/impl.words", laid_loop_example_chancery_impl_words)], narrowed := true }
def FnExactNameOkUptoSaid : Prop := fnExactNameOkUptoRow.holds Tryd.pinned (OpenSpec.upto fnExactNameOkSpec)

/-- 'laws.FnNameOk', WHERE WHAT IT READS IS OF BULK AT MOST 1048576: true; the input reads as it did. -/
def fnNameOkUptoRow : OpenClaim := { program := "ytjhjdbhbccadfaadoor", sum := "01e0c9764de38a6930f350e56dc9d8a9b0105eb9d932745fdc9484b86a4b631a", func := "loop.example/chancery/laws.FnNameOk", spec := "fnNameOk", unfollowed := true, recurses := true, named := ["loop.example/chancery/impl.words"], apart := false, laid := [("loop.example/chancery/impl.words", laid_loop_example_chancery_impl_words)], narrowed := true }
def FnNameOkUptoSaid : Prop := fnNameOkUptoRow.holds Tryd.pinned (OpenSpec.upto fnNameOkSpec)

/-- 'laws.FnExactPapersOk', WHERE WHAT IT READS IS OF BULK AT MOST 1048576: true; the input reads as it did. -/
def fnExactPapersOkUptoRow : OpenClaim := { program := "ytjhjdbhbccadfaadoor", sum := "01e0c9764de38a6930f350e56dc9d8a9b0105eb9d932745fdc9484b86a4b631a", func := "loop.example/chancery/laws.FnExactPapersOk", spec := "fnExactPapersOk", unfollowed := true, recurses := true, named := ["loop.example/chancery/impl.words"], apart := false, laid := [("loop.example/chancery/impl.words", laid_loop_example_chancery_impl_words)], narrowed := true }
def FnExactPapersOkUptoSaid : Prop := fnExactPapersOkUptoRow.holds Tryd.pinned (OpenSpec.upto fnExactPapersOkSpec)

end Rows
end Go.Proofs.YtjhjdbhbccadfaaDoor
