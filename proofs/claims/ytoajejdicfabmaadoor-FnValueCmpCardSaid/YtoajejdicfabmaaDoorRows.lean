/-
  NARROWER THAN 'FOR EVERY INPUT', by the rows' own cells (each row's printed sentence says how): FnExactValueOk: loops, laid · FnValueOk: laid · FnValueCmp: laid.
  DERIVED. THE GIVEN ROWS OF THIS SEAT. 3 by the template 'for every input the law returns true; each argument reads behind the call as it read before'; 0 by the template 'total and deterministic' (their statements: YtoajejdicfabmaaDoorTotals.lean).
  GIVEN WITH THE SEED: the statements are not yours to turn. If you find one false, say at which input.
  Laid BY PROGRAM, IN A SANDBOX (cutbox-rows.mjs): the forced cells as the released guide's own fill.sh prints them over the translation 2a28a15f5cf5697b… (all of the seat's roots in one cut). By AI agents, Wed Nov 11 2026. No macro, syntax, notation, axiom, sorry.
-/
import Derived.Test.YtoajejdicfabmaaDoorChecked
import GoSem.Claim
import GoSem.ClaimJoined
import GoSem.ClaimMapViews
import Derived.JoinedTies
import Derived.KernelRfl
namespace Go.Proofs.YtoajejdicfabmaaDoor
/- THE CELL 'sum', in the pinned program and in every row, IS THE sha256 OF THE DUMP (.gsa) THAT YtoajejdicfabmaaDoorProg.lean LOADS. Nothing in Lean hashes anything: it is a label: what it is worth is what the hold of that sum in a sandbox is worth. -/
noncomputable def Tryd.pinned : Pinned := { name := "ytoajejdicfabmaadoor", sum := "2a28a15f5cf5697b7c63b994dedfea44579a80088bb038f08bb5d14acab4691a", checked := Tryd.checked }
namespace Rows
def none {H : Type} : Left H := { results := [], args := [] }

/- WHAT THE LISTED PACKAGE-LEVEL VARIABLES READ AS WHEN THE CALL BEGINS. Each datum BY PROGRAM (the guide's laid-datum.mjs) off the statement by which the dump's own 'gosem.cut.vars' lays the variable. In a bare row this is a premise. The card (YtoajejdicfabmaaDoorCards.lean) ties it to the program's text. -/
def laid_loop_example_chancery_impl_words {H : Type} : DataW H := .slice [.lit (.string [110, 117, 108, 108]), .lit (.string [116, 114, 117, 101]), .lit (.string [102, 97, 108, 115, 101]), .lit (.string [105, 102]), .lit (.string [116, 104, 101, 110]), .lit (.string [101, 108, 115, 101]), .lit (.string [108, 111, 99, 97, 108]), .lit (.string [102, 117, 110, 99, 116, 105, 111, 110]), .lit (.string [115, 101, 108, 102]), .lit (.string [115, 117, 112, 101, 114]), .lit (.string [101, 114, 114, 111, 114]), .lit (.string [105, 109, 112, 111, 114, 116]), .lit (.string [102, 111, 114]), .lit (.string [105, 110]), .lit (.string [115, 116, 100])] []

/-- 'laws.FnExactValueOk': WHATEVER THE INPUT: true; the input reads as it did. -/
def fnExactValueOkSpec : ChangeSpec := { name := "fnExactValueOk", vars := ["loop.example/chancery/impl.words"], fn := fun _ => fun
  | [d, g1] => { results := [.lit (.bool true)], args := [d], vars := [g1] }
  | _ => none }
def fnExactValueOkRow : OpenClaim := { program := "ytoajejdicfabmaadoor", sum := "2a28a15f5cf5697b7c63b994dedfea44579a80088bb038f08bb5d14acab4691a", func := "loop.example/chancery/laws.FnExactValueOk", spec := "fnExactValueOk", unfollowed := true, recurses := true, named := ["loop.example/chancery/impl.words"], loops := true, apart := false, laid := [("loop.example/chancery/impl.words", laid_loop_example_chancery_impl_words)] }
def FnExactValueOkSaid : Prop := fnExactValueOkRow.holds Tryd.pinned (OpenSpec.ofChange fnExactValueOkSpec)

/-- ITS FALSE NEIGHBOUR: 'it returns false'. Refute it at one input. -/
def fnExactValueOkWrong : ChangeSpec := { name := "fnExactValueOk", vars := ["loop.example/chancery/impl.words"], fn := fun _ => fun
  | [d, g1] => { results := [.lit (.bool false)], args := [d], vars := [g1] }
  | _ => none }
def FnExactValueOkWrongFalsely : Prop := fnExactValueOkRow.holds Tryd.pinned (OpenSpec.ofChange fnExactValueOkWrong)

/-- 'laws.FnValueOk': WHATEVER THE INPUT: true; the input reads as it did. -/
def fnValueOkSpec : ChangeSpec := { name := "fnValueOk", vars := ["loop.example/chancery/impl.words"], fn := fun _ => fun
  | [d, g1] => { results := [.lit (.bool true)], args := [d], vars := [g1] }
  | _ => none }
def fnValueOkRow : OpenClaim := { program := "ytoajejdicfabmaadoor", sum := "2a28a15f5cf5697b7c63b994dedfea44579a80088bb038f08bb5d14acab4691a", func := "loop.example/chancery/laws.FnValueOk", spec := "fnValueOk", unfollowed := true, recurses := true, named := ["loop.example/chancery/impl.words"], apart := false, laid := [("loop.example/chancery/impl.words", laid_loop_example_chancery_impl_words)] }
def FnValueOkSaid : Prop := fnValueOkRow.holds Tryd.pinned (OpenSpec.ofChange fnValueOkSpec)

/-- ITS FALSE NEIGHBOUR: 'it returns false'. Refute it at one input. -/
def fnValueOkWrong : ChangeSpec := { name := "fnValueOk", vars := ["loop.example/chancery/impl.words"], fn := fun _ => fun
  | [d, g1] => { results := [.lit (.bool false)], args := [d], vars := [g1] }
  | _ => none }
def FnValueOkWrongFalsely : Prop := fnValueOkRow.holds Tryd.pinned (OpenSpec.ofChange fnValueOkWrong)

/-- 'laws.FnValueCmp': WHATEVER THE INPUT: true; the input reads as it did. -/
def fnValueCmpSpec : ChangeSpec := { name := "fnValueCmp", vars := ["loop.example/chancery/impl.words"], fn := fun _ => fun
  | [d1, d2, g1] => { results := [.lit (.bool true)], args := [d1, d2], vars := [g1] }
  | _ => none }
def fnValueCmpRow : OpenClaim := { program := "ytoajejdicfabmaadoor", sum := "2a28a15f5cf5697b7c63b994dedfea44579a80088bb038f08bb5d14acab4691a", func := "loop.example/chancery/laws.FnValueCmp", spec := "fnValueCmp", inPlace := ["internal/bytealg.abigen_runtime_cmpstring"], unfollowed := true, recurses := true, named := ["loop.example/chancery/impl.words"], apart := false, laid := [("loop.example/chancery/impl.words", laid_loop_example_chancery_impl_words)] }
def FnValueCmpSaid : Prop := fnValueCmpRow.holds Tryd.pinned (OpenSpec.ofChange fnValueCmpSpec)

/-- ITS FALSE NEIGHBOUR: 'it returns false'. Refute it at one input. -/
def fnValueCmpWrong : ChangeSpec := { name := "fnValueCmp", vars := ["loop.example/chancery/impl.words"], fn := fun _ => fun
  | [d1, d2, g1] => { results := [.lit (.bool false)], args := [d1, d2], vars := [g1] }
  | _ => none }
def FnValueCmpWrongFalsely : Prop := fnValueCmpRow.holds Tryd.pinned (OpenSpec.ofChange fnValueCmpWrong)

/- THE SECOND FORM. 'bulk': how many values and letters a reading holds, each counted each time it is reached (what is shared counts as often as it is met; a slice's spare places count too). A statement '..UptoSaid' is the law's where the arguments, and the package variables that the reading takes, are together of bulk at most 1048576: NARROWER than '..Said'. Prove '..Said' where nothing that the law and all that it calls make is longer than what came in: it says more and counts as full. Else prove '..UptoSaid'. A law counts once. -/
mutual
def uptoBulk {H : Type} : DataW H → Nat
  | .lit (.string bytes) => bytes.length + 1
  | .lit _ => 1
  | .nil => 1
  | .ptr d => uptoBulk d + 1
  | .slice elems spare => uptoBulkAll elems + uptoBulkAll spare + 1
  | .agg parts => uptoBulkAll parts + 1
  | .iface _ d => uptoBulk d + 1
  | .map entries => uptoBulkEntries entries + 1
  | .held _ => 1
def uptoBulkAll {H : Type} : List (DataW H) → Nat
  | [] => 0
  | d :: r => uptoBulk d + uptoBulkAll r
def uptoBulkEntries {H : Type} : List (Lit × DataW H) → Nat
  | [] => 0
  | x :: r => uptoBulkEntry x + uptoBulkEntries r
def uptoBulkEntry {H : Type} : Lit × DataW H → Nat
  | (.string bytes, d) => bytes.length + uptoBulk d + 1
  | (_, d) => uptoBulk d + 1
 end
def uptoSmall : (H : Type) → List (DataW H) → Bool := fun _ ds => decide (uptoBulkAll ds ≤ 1048576)
def OpenSpec.upto (s : _root_.Go.ChangeSpec) : _root_.Go.OpenSpec := { _root_.Go.OpenSpec.ofChange s with cond := some uptoSmall }

/-- 'laws.FnExactValueOk', WHERE WHAT IT READS IS OF BULK AT MOST 1048576: true; the input reads as it did. -/
def fnExactValueOkUptoRow : OpenClaim := { program := "ytoajejdicfabmaadoor", sum := "2a28a15f5cf5697b7c63b994dedfea44579a80088bb038f08bb5d14acab4691a", func := "loop.example/chancery/laws.FnExactValueOk", spec := "fnExactValueOk", unfollowed := true, recurses := true, named := ["loop.example/chancery/impl.words"], loops := true, apart := false, laid := [("loop.example/chancery/impl.words", laid_loop_example_chancery_impl_words)], narrowed := true }
def FnExactValueOkUptoSaid : Prop := fnExactValueOkUptoRow.holds Tryd.pinned (OpenSpec.upto fnExactValueOkSpec)

/-- 'laws.FnValueOk', WHERE WHAT IT READS IS OF BULK AT MOST 1048576: true; the input reads as it did. -/
def fnValueOkUptoRow : OpenClaim := { program := "ytoajejdicfabmaadoor", sum := "2a28a15f5cf5697b7c63b994dedfea44579a80088bb038f08bb5d14acab4691a", func := "loop.example/chancery/laws.FnValueOk", spec := "fnValueOk", unfollowed := true, recurses := true, named := ["loop.example/chancery/impl.words"], apart := false, laid := [("loop.example/chancery/impl.words", laid_loop_example_chancery_impl_words)], narrowed := true }
def FnValueOkUptoSaid : Prop := fnValueOkUptoRow.holds Tryd.pinned (OpenSpec.upto fnValueOkSpec)

/-- 'laws.FnValueCmp', WHERE WHAT IT READS IS OF BULK AT MOST 1048576: true; the input reads as it did. -/
def fnValueCmpUptoRow : OpenClaim := { program := "ytoajejdicfabmaadoor", sum := "2a28a15f5cf5697b7c63b994dedfea44579a80088bb038f08bb5d14acab4691a", func := "loop.example/chancery/laws.FnValueCmp", spec := "fnValueCmp", inPlace := ["internal/bytealg.abigen_runtime_cmpstring"], unfollowed := true, recurses := true, named := ["loop.example/chancery/impl.words"], apart := false, laid := [("loop.example/chancery/impl.words", laid_loop_example_chancery_impl_words)], narrowed := true }
def FnValueCmpUptoSaid : Prop := fnValueCmpUptoRow.holds Tryd.pinned (OpenSpec.upto fnValueCmpSpec)

end Rows
end Go.Proofs.YtoajejdicfabmaaDoor
