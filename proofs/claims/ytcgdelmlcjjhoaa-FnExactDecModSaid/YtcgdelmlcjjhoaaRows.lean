/-
  No cell of these rows narrows 'for every input' (looked for: loops, veiled, ifaces, maps, wideKeys, modest, calm, conditions, laid).
  DERIVED. THE GIVEN ROWS OF THIS SEAT. 11 by the template 'for every input the law returns true; each argument reads behind the call as it read before'; 0 by the template 'total and deterministic' (their statements: YtcgdelmlcjjhoaaTotals.lean).
  GIVEN WITH THE SEED: the statements are not yours to turn. If you find one false, say at which input.
  Laid BY PROGRAM, IN A SANDBOX (cutbox-rows.mjs): the forced cells as the released guide's own fill.sh prints them over the translation 915b89e775c60a92… (all of the seat's roots in one cut). By AI agents, Wed Nov 11 2026. No macro, syntax, notation, axiom, sorry.
-/
import Derived.Test.YtcgdelmlcjjhoaaChecked
import GoSem.Claim
import GoSem.ClaimJoined
import GoSem.ClaimMapViews
import Derived.JoinedTies
import Derived.KernelRfl
namespace Go.Proofs.Ytcgdelmlcjjhoaa
/- THE CELL 'sum', in the pinned program and in every row, IS THE sha256 OF THE DUMP (.gsa) THAT YtcgdelmlcjjhoaaProg.lean LOADS. Nothing in Lean hashes anything: it is a label: what it is worth is what the hold of that sum in a sandbox is worth. -/
noncomputable def Try.pinned : Pinned := { name := "ytcgdelmlcjjhoaa", sum := "915b89e775c60a920fbfd83d95bc60ece6dbe0bafa74f4e7e5af4a05246d1fa7", checked := Try.checked }
namespace Rows
def none {H : Type} : Left H := { results := [], args := [] }

/-- 'laws.FnExactConstants': WHATEVER THE INPUT: true; the input reads as it did. -/
def fnExactConstantsSpec : ChangeSpec := { name := "fnExactConstants", fn := fun _ => fun
  | [] => { results := [.lit (.bool true)], args := [] }
  | _ => none }
def fnExactConstantsRow : OpenClaim := { program := "ytcgdelmlcjjhoaa", sum := "915b89e775c60a920fbfd83d95bc60ece6dbe0bafa74f4e7e5af4a05246d1fa7", func := "loop.example/chancery/laws.FnExactConstants", spec := "fnExactConstants", apart := false }
def FnExactConstantsSaid : Prop := fnExactConstantsRow.holds Try.pinned (OpenSpec.ofChange fnExactConstantsSpec)

/-- ITS FALSE NEIGHBOUR: 'it returns false'. Refute it at one input. -/
def fnExactConstantsWrong : ChangeSpec := { name := "fnExactConstants", fn := fun _ => fun
  | [] => { results := [.lit (.bool false)], args := [] }
  | _ => none }
def FnExactConstantsWrongFalsely : Prop := fnExactConstantsRow.holds Try.pinned (OpenSpec.ofChange fnExactConstantsWrong)

/-- 'laws.FnExactDecOk': WHATEVER THE INPUT: true; the input reads as it did. -/
def fnExactDecOkSpec : ChangeSpec := { name := "fnExactDecOk", fn := fun _ => fun
  | [d] => { results := [.lit (.bool true)], args := [d] }
  | _ => none }
def fnExactDecOkRow : OpenClaim := { program := "ytcgdelmlcjjhoaa", sum := "915b89e775c60a920fbfd83d95bc60ece6dbe0bafa74f4e7e5af4a05246d1fa7", func := "loop.example/chancery/laws.FnExactDecOk", spec := "fnExactDecOk", apart := false }
def FnExactDecOkSaid : Prop := fnExactDecOkRow.holds Try.pinned (OpenSpec.ofChange fnExactDecOkSpec)

/-- ITS FALSE NEIGHBOUR: 'it returns false'. Refute it at one input. -/
def fnExactDecOkWrong : ChangeSpec := { name := "fnExactDecOk", fn := fun _ => fun
  | [d] => { results := [.lit (.bool false)], args := [d] }
  | _ => none }
def FnExactDecOkWrongFalsely : Prop := fnExactDecOkRow.holds Try.pinned (OpenSpec.ofChange fnExactDecOkWrong)

/-- 'laws.FnExactQuotePut': WHATEVER THE INPUT: true; the input reads as it did. -/
def fnExactQuotePutSpec : ChangeSpec := { name := "fnExactQuotePut", fn := fun _ => fun
  | [d] => { results := [.lit (.bool true)], args := [d] }
  | _ => none }
def fnExactQuotePutRow : OpenClaim := { program := "ytcgdelmlcjjhoaa", sum := "915b89e775c60a920fbfd83d95bc60ece6dbe0bafa74f4e7e5af4a05246d1fa7", func := "loop.example/chancery/laws.FnExactQuotePut", spec := "fnExactQuotePut", apart := false }
def FnExactQuotePutSaid : Prop := fnExactQuotePutRow.holds Try.pinned (OpenSpec.ofChange fnExactQuotePutSpec)

/-- ITS FALSE NEIGHBOUR: 'it returns false'. Refute it at one input. -/
def fnExactQuotePutWrong : ChangeSpec := { name := "fnExactQuotePut", fn := fun _ => fun
  | [d] => { results := [.lit (.bool false)], args := [d] }
  | _ => none }
def FnExactQuotePutWrongFalsely : Prop := fnExactQuotePutRow.holds Try.pinned (OpenSpec.ofChange fnExactQuotePutWrong)

/-- 'laws.FnExactDecNew': WHATEVER THE INPUT: true; the input reads as it did. -/
def fnExactDecNewSpec : ChangeSpec := { name := "fnExactDecNew", fn := fun _ => fun
  | [d1, d2] => { results := [.lit (.bool true)], args := [d1, d2] }
  | _ => none }
def fnExactDecNewRow : OpenClaim := { program := "ytcgdelmlcjjhoaa", sum := "915b89e775c60a920fbfd83d95bc60ece6dbe0bafa74f4e7e5af4a05246d1fa7", func := "loop.example/chancery/laws.FnExactDecNew", spec := "fnExactDecNew", apart := false }
def FnExactDecNewSaid : Prop := fnExactDecNewRow.holds Try.pinned (OpenSpec.ofChange fnExactDecNewSpec)

/-- ITS FALSE NEIGHBOUR: 'it returns false'. Refute it at one input. -/
def fnExactDecNewWrong : ChangeSpec := { name := "fnExactDecNew", fn := fun _ => fun
  | [d1, d2] => { results := [.lit (.bool false)], args := [d1, d2] }
  | _ => none }
def FnExactDecNewWrongFalsely : Prop := fnExactDecNewRow.holds Try.pinned (OpenSpec.ofChange fnExactDecNewWrong)

/-- 'laws.FnExactDecMul': WHATEVER THE INPUT: true; the input reads as it did. -/
def fnExactDecMulSpec : ChangeSpec := { name := "fnExactDecMul", fn := fun _ => fun
  | [d1, d2] => { results := [.lit (.bool true)], args := [d1, d2] }
  | _ => none }
def fnExactDecMulRow : OpenClaim := { program := "ytcgdelmlcjjhoaa", sum := "915b89e775c60a920fbfd83d95bc60ece6dbe0bafa74f4e7e5af4a05246d1fa7", func := "loop.example/chancery/laws.FnExactDecMul", spec := "fnExactDecMul", apart := false }
def FnExactDecMulSaid : Prop := fnExactDecMulRow.holds Try.pinned (OpenSpec.ofChange fnExactDecMulSpec)

/-- ITS FALSE NEIGHBOUR: 'it returns false'. Refute it at one input. -/
def fnExactDecMulWrong : ChangeSpec := { name := "fnExactDecMul", fn := fun _ => fun
  | [d1, d2] => { results := [.lit (.bool false)], args := [d1, d2] }
  | _ => none }
def FnExactDecMulWrongFalsely : Prop := fnExactDecMulRow.holds Try.pinned (OpenSpec.ofChange fnExactDecMulWrong)

/-- 'laws.FnExactQuoteGet': WHATEVER THE INPUT: true; the input reads as it did. -/
def fnExactQuoteGetSpec : ChangeSpec := { name := "fnExactQuoteGet", fn := fun _ => fun
  | [d] => { results := [.lit (.bool true)], args := [d] }
  | _ => none }
def fnExactQuoteGetRow : OpenClaim := { program := "ytcgdelmlcjjhoaa", sum := "915b89e775c60a920fbfd83d95bc60ece6dbe0bafa74f4e7e5af4a05246d1fa7", func := "loop.example/chancery/laws.FnExactQuoteGet", spec := "fnExactQuoteGet", inPlace := ["internal/bytealg.IndexByteString"], apart := false }
def FnExactQuoteGetSaid : Prop := fnExactQuoteGetRow.holds Try.pinned (OpenSpec.ofChange fnExactQuoteGetSpec)

/-- ITS FALSE NEIGHBOUR: 'it returns false'. Refute it at one input. -/
def fnExactQuoteGetWrong : ChangeSpec := { name := "fnExactQuoteGet", fn := fun _ => fun
  | [d] => { results := [.lit (.bool false)], args := [d] }
  | _ => none }
def FnExactQuoteGetWrongFalsely : Prop := fnExactQuoteGetRow.holds Try.pinned (OpenSpec.ofChange fnExactQuoteGetWrong)

/-- 'laws.FnExactDecCmp': WHATEVER THE INPUT: true; the input reads as it did. -/
def fnExactDecCmpSpec : ChangeSpec := { name := "fnExactDecCmp", fn := fun _ => fun
  | [d1, d2] => { results := [.lit (.bool true)], args := [d1, d2] }
  | _ => none }
def fnExactDecCmpRow : OpenClaim := { program := "ytcgdelmlcjjhoaa", sum := "915b89e775c60a920fbfd83d95bc60ece6dbe0bafa74f4e7e5af4a05246d1fa7", func := "loop.example/chancery/laws.FnExactDecCmp", spec := "fnExactDecCmp", unfollowed := true, recurses := true, apart := false }
def FnExactDecCmpSaid : Prop := fnExactDecCmpRow.holds Try.pinned (OpenSpec.ofChange fnExactDecCmpSpec)

/-- ITS FALSE NEIGHBOUR: 'it returns false'. Refute it at one input. -/
def fnExactDecCmpWrong : ChangeSpec := { name := "fnExactDecCmp", fn := fun _ => fun
  | [d1, d2] => { results := [.lit (.bool false)], args := [d1, d2] }
  | _ => none }
def FnExactDecCmpWrongFalsely : Prop := fnExactDecCmpRow.holds Try.pinned (OpenSpec.ofChange fnExactDecCmpWrong)

/-- 'laws.FnExactDecAdd': WHATEVER THE INPUT: true; the input reads as it did. -/
def fnExactDecAddSpec : ChangeSpec := { name := "fnExactDecAdd", fn := fun _ => fun
  | [d1, d2] => { results := [.lit (.bool true)], args := [d1, d2] }
  | _ => none }
def fnExactDecAddRow : OpenClaim := { program := "ytcgdelmlcjjhoaa", sum := "915b89e775c60a920fbfd83d95bc60ece6dbe0bafa74f4e7e5af4a05246d1fa7", func := "loop.example/chancery/laws.FnExactDecAdd", spec := "fnExactDecAdd", apart := false }
def FnExactDecAddSaid : Prop := fnExactDecAddRow.holds Try.pinned (OpenSpec.ofChange fnExactDecAddSpec)

/-- ITS FALSE NEIGHBOUR: 'it returns false'. Refute it at one input. -/
def fnExactDecAddWrong : ChangeSpec := { name := "fnExactDecAdd", fn := fun _ => fun
  | [d1, d2] => { results := [.lit (.bool false)], args := [d1, d2] }
  | _ => none }
def FnExactDecAddWrongFalsely : Prop := fnExactDecAddRow.holds Try.pinned (OpenSpec.ofChange fnExactDecAddWrong)

/-- 'laws.FnExactDecSub': WHATEVER THE INPUT: true; the input reads as it did. -/
def fnExactDecSubSpec : ChangeSpec := { name := "fnExactDecSub", fn := fun _ => fun
  | [d1, d2] => { results := [.lit (.bool true)], args := [d1, d2] }
  | _ => none }
def fnExactDecSubRow : OpenClaim := { program := "ytcgdelmlcjjhoaa", sum := "915b89e775c60a920fbfd83d95bc60ece6dbe0bafa74f4e7e5af4a05246d1fa7", func := "loop.example/chancery/laws.FnExactDecSub", spec := "fnExactDecSub", apart := false }
def FnExactDecSubSaid : Prop := fnExactDecSubRow.holds Try.pinned (OpenSpec.ofChange fnExactDecSubSpec)

/-- ITS FALSE NEIGHBOUR: 'it returns false'. Refute it at one input. -/
def fnExactDecSubWrong : ChangeSpec := { name := "fnExactDecSub", fn := fun _ => fun
  | [d1, d2] => { results := [.lit (.bool false)], args := [d1, d2] }
  | _ => none }
def FnExactDecSubWrongFalsely : Prop := fnExactDecSubRow.holds Try.pinned (OpenSpec.ofChange fnExactDecSubWrong)

/-- 'laws.FnExactDecDiv': WHATEVER THE INPUT: true; the input reads as it did. -/
def fnExactDecDivSpec : ChangeSpec := { name := "fnExactDecDiv", fn := fun _ => fun
  | [d1, d2, d3] => { results := [.lit (.bool true)], args := [d1, d2, d3] }
  | _ => none }
def fnExactDecDivRow : OpenClaim := { program := "ytcgdelmlcjjhoaa", sum := "915b89e775c60a920fbfd83d95bc60ece6dbe0bafa74f4e7e5af4a05246d1fa7", func := "loop.example/chancery/laws.FnExactDecDiv", spec := "fnExactDecDiv", apart := false }
def FnExactDecDivSaid : Prop := fnExactDecDivRow.holds Try.pinned (OpenSpec.ofChange fnExactDecDivSpec)

/-- ITS FALSE NEIGHBOUR: 'it returns false'. Refute it at one input. -/
def fnExactDecDivWrong : ChangeSpec := { name := "fnExactDecDiv", fn := fun _ => fun
  | [d1, d2, d3] => { results := [.lit (.bool false)], args := [d1, d2, d3] }
  | _ => none }
def FnExactDecDivWrongFalsely : Prop := fnExactDecDivRow.holds Try.pinned (OpenSpec.ofChange fnExactDecDivWrong)

/-- 'laws.FnExactDecMod': WHATEVER THE INPUT: true; the input reads as it did. -/
def fnExactDecModSpec : ChangeSpec := { name := "fnExactDecMod", fn := fun _ => fun
  | [d1, d2] => { results := [.lit (.bool true)], args := [d1, d2] }
  | _ => none }
def fnExactDecModRow : OpenClaim := { program := "ytcgdelmlcjjhoaa", sum := "915b89e775c60a920fbfd83d95bc60ece6dbe0bafa74f4e7e5af4a05246d1fa7", func := "loop.example/chancery/laws.FnExactDecMod", spec := "fnExactDecMod", apart := false }
def FnExactDecModSaid : Prop := fnExactDecModRow.holds Try.pinned (OpenSpec.ofChange fnExactDecModSpec)

/-- ITS FALSE NEIGHBOUR: 'it returns false'. Refute it at one input. -/
def fnExactDecModWrong : ChangeSpec := { name := "fnExactDecMod", fn := fun _ => fun
  | [d1, d2] => { results := [.lit (.bool false)], args := [d1, d2] }
  | _ => none }
def FnExactDecModWrongFalsely : Prop := fnExactDecModRow.holds Try.pinned (OpenSpec.ofChange fnExactDecModWrong)

/- THE SECOND FORM. 'bulk': how many values and letters a reading holds, each counted each time it is reached (what is shared counts as often as it is met; a slice's spare places count too). A statement '..UptoSaid' is the law's where the arguments, and the package variables that the reading takes, are together of bulk at most 1048576: NARROWER than '..Said'. Prove '..Said' where nothing that the law and all that it calls make is longer than what came in: it says more and counts as full. Else prove '..UptoSaid'. A law counts once. -/
mutual
def uptoBulk {H : Type} : DataW H → Nat
  | .lit (.string bytes) => bytes.length + 1
  | .lit _ => 1
  | .nil => 1
  | .ptr d => uptoBulk d + 1
  | .slice elems spare => uptoBulkAll elems + uptoBulkAll spare + 1
  | .agg parts => uptoBulkAll parts + 1
  | .iface _ d => uptoBulk d + 1
  | .map entries => uptoBulkEntries entries + 1
  | .held _ => 1
def uptoBulkAll {H : Type} : List (DataW H) → Nat
  | [] => 0
  | d :: r => uptoBulk d + uptoBulkAll r
def uptoBulkEntries {H : Type} : List (Lit × DataW H) → Nat
  | [] => 0
  | x :: r => uptoBulkEntry x + uptoBulkEntries r
def uptoBulkEntry {H : Type} : Lit × DataW H → Nat
  | (.string bytes, d) => bytes.length + uptoBulk d + 1
  | (_, d) => uptoBulk d + 1
 end
def uptoSmall : (H : Type) → List (DataW H) → Bool := fun _ ds => decide (uptoBulkAll ds ≤ 1048576)
def OpenSpec.upto (s : _root_.Go.ChangeSpec) : _root_.Go.OpenSpec := { _root_.Go.OpenSpec.ofChange s with cond := some uptoSmall }

/-- 'laws.FnExactConstants', WHERE WHAT IT READS IS OF BULK AT MOST 1048576: true; the input reads as it did. -/
def fnExactConstantsUptoRow : OpenClaim := { program := "ytcgdelmlcjjhoaa", sum := "915b89e775c60a920fbfd83d95bc60ece6dbe0bafa74f4e7e5af4a05246d1fa7", func := "loop.example/chancery/laws.FnExactConstants", spec := "fnExactConstants", apart := false, narrowed := true }
def FnExactConstantsUptoSaid : Prop := fnExactConstantsUptoRow.holds Try.pinned (OpenSpec.upto fnExactConstantsSpec)

/-- 'laws.FnExactDecOk', WHERE WHAT IT READS IS OF BULK AT MOST 1048576: true; the input reads as it did. -/
def fnExactDecOkUptoRow : OpenClaim := { program := "ytcgdelmlcjjhoaa", sum := "915b89e775c60a920fbfd83d95bc60ece6dbe0bafa74f4e7e5af4a05246d1fa7", func := "loop.example/chancery/laws.FnExactDecOk", spec := "fnExactDecOk", apart := false, narrowed := true }
def FnExactDecOkUptoSaid : Prop := fnExactDecOkUptoRow.holds Try.pinned (OpenSpec.upto fnExactDecOkSpec)

/-- 'laws.FnExactQuotePut', WHERE WHAT IT READS IS OF BULK AT MOST 1048576: true; the input reads as it did. -/
def fnExactQuotePutUptoRow : OpenClaim := { program := "ytcgdelmlcjjhoaa", sum := "915b89e775c60a920fbfd83d95bc60ece6dbe0bafa74f4e7e5af4a05246d1fa7", func := "loop.example/chancery/laws.FnExactQuotePut", spec := "fnExactQuotePut", apart := false, narrowed := true }
def FnExactQuotePutUptoSaid : Prop := fnExactQuotePutUptoRow.holds Try.pinned (OpenSpec.upto fnExactQuotePutSpec)

/-- 'laws.FnExactDecNew', WHERE WHAT IT READS IS OF BULK AT MOST 1048576: true; the input reads as it did. -/
def fnExactDecNewUptoRow : OpenClaim := { program := "ytcgdelmlcjjhoaa", sum := "915b89e775c60a920fbfd83d95bc60ece6dbe0bafa74f4e7e5af4a05246d1fa7", func := "loop.example/chancery/laws.FnExactDecNew", spec := "fnExactDecNew", apart := false, narrowed := true }
def FnExactDecNewUptoSaid : Prop := fnExactDecNewUptoRow.holds Try.pinned (OpenSpec.upto fnExactDecNewSpec)

/-- 'laws.FnExactDecMul', WHERE WHAT IT READS IS OF BULK AT MOST 1048576: true; the input reads as it did. -/
def fnExactDecMulUptoRow : OpenClaim := { program := "ytcgdelmlcjjhoaa", sum := "915b89e775c60a920fbfd83d95bc60ece6dbe0bafa74f4e7e5af4a05246d1fa7", func := "loop.example/chancery/laws.FnExactDecMul", spec := "fnExactDecMul", apart := false, narrowed := true }
def FnExactDecMulUptoSaid : Prop := fnExactDecMulUptoRow.holds Try.pinned (OpenSpec.upto fnExactDecMulSpec)

/-- 'laws.FnExactQuoteGet', WHERE WHAT IT READS IS OF BULK AT MOST 1048576: true; the input reads as it did. -/
def fnExactQuoteGetUptoRow : OpenClaim := { program := "ytcgdelmlcjjhoaa", sum := "915b89e775c60a920fbfd83d95bc60ece6dbe0bafa74f4e7e5af4a05246d1fa7", func := "loop.example/chancery/laws.FnExactQuoteGet", spec := "fnExactQuoteGet", inPlace := ["internal/bytealg.IndexByteString"], apart := false, narrowed := true }
def FnExactQuoteGetUptoSaid : Prop := fnExactQuoteGetUptoRow.holds Try.pinned (OpenSpec.upto fnExactQuoteGetSpec)

/-- 'laws.FnExactDecCmp', WHERE WHAT IT READS IS OF BULK AT MOST 1048576: true; the input reads as it did. -/
def fnExactDecCmpUptoRow : OpenClaim := { program := "ytcgdelmlcjjhoaa", sum := "915b89e775c60a920fbfd83d95bc60ece6dbe0bafa74f4e7e5af4a05246d1fa7", func := "loop.example/chancery/laws.FnExactDecCmp", spec := "fnExactDecCmp", unfollowed := true, recurses := true, apart := false, narrowed := true }
def FnExactDecCmpUptoSaid : Prop := fnExactDecCmpUptoRow.holds Try.pinned (OpenSpec.upto fnExactDecCmpSpec)

/-- 'laws.FnExactDecAdd', WHERE WHAT IT READS IS OF BULK AT MOST 1048576: true; the input reads as it did. -/
def fnExactDecAddUptoRow : OpenClaim := { program := "ytcgdelmlcjjhoaa", sum := "915b89e775c60a920fbfd83d95bc60ece6dbe0bafa74f4e7e5af4a05246d1fa7", func := "loop.example/chancery/laws.FnExactDecAdd", spec := "fnExactDecAdd", apart := false, narrowed := true }
def FnExactDecAddUptoSaid : Prop := fnExactDecAddUptoRow.holds Try.pinned (OpenSpec.upto fnExactDecAddSpec)

/-- 'laws.FnExactDecSub', WHERE WHAT IT READS IS OF BULK AT MOST 1048576: true; the input reads as it did. -/
def fnExactDecSubUptoRow : OpenClaim := { program := "ytcgdelmlcjjhoaa", sum := "915b89e775c60a920fbfd83d95bc60ece6dbe0bafa74f4e7e5af4a05246d1fa7", func := "loop.example/chancery/laws.FnExactDecSub", spec := "fnExactDecSub", apart := false, narrowed := true }
def FnExactDecSubUptoSaid : Prop := fnExactDecSubUptoRow.holds Try.pinned (OpenSpec.upto fnExactDecSubSpec)

/-- 'laws.FnExactDecDiv', WHERE WHAT IT READS IS OF BULK AT MOST 1048576: true; the input reads as it did. -/
def fnExactDecDivUptoRow : OpenClaim := { program := "ytcgdelmlcjjhoaa", sum := "915b89e775c60a920fbfd83d95bc60ece6dbe0bafa74f4e7e5af4a05246d1fa7", func := "loop.example/chancery/laws.FnExactDecDiv", spec := "fnExactDecDiv", apart := false, narrowed := true }
def FnExactDecDivUptoSaid : Prop := fnExactDecDivUptoRow.holds Try.pinned (OpenSpec.upto fnExactDecDivSpec)

/-- 'laws.FnExactDecMod', WHERE WHAT IT READS IS OF BULK AT MOST 1048576: true; the input reads as it did. -/
def fnExactDecModUptoRow : OpenClaim := { program := "ytcgdelmlcjjhoaa", sum := "915b89e775c60a920fbfd83d95bc60ece6dbe0bafa74f4e7e5af4a05246d1fa7", func := "loop.example/chancery/laws.FnExactDecMod", spec := "fnExactDecMod", apart := false, narrowed := true }
def FnExactDecModUptoSaid : Prop := fnExactDecModUptoRow.holds Try.pinned (OpenSpec.upto fnExactDecModSpec)

end Rows
end Go.Proofs.Ytcgdelmlcjjhoaa
