/-
  No cell of these rows narrows 'for every input' (looked for: loops, veiled, ifaces, maps, wideKeys, modest, calm, conditions, laid).
  DERIVED. THE GIVEN ROWS OF THIS SEAT. 10 by the template 'for every input the law returns true; each argument reads behind the call as it read before'; 0 by the template 'total and deterministic' (their statements: YtmoaolcioihjnaaTotals.lean).
  GIVEN WITH THE SEED: the statements are not yours to turn. If you find one false, say at which input.
  Laid BY PROGRAM, IN A SANDBOX (cutbox-rows.mjs): the forced cells as the released guide's own fill.sh prints them over the translation 521d43555b9494f2… (all of the seat's roots in one cut). By AI agents, Wed Nov 11 2026. No macro, syntax, notation, axiom, sorry.
-/
import Derived.Test.YtmoaolcioihjnaaChecked
import GoSem.Claim
import GoSem.ClaimJoined
import GoSem.ClaimMapViews
import Derived.JoinedTies
import Derived.KernelRfl
namespace Go.Proofs.Ytmoaolcioihjnaa
/- THE CELL 'sum', in the pinned program and in every row, IS THE sha256 OF THE DUMP (.gsa) THAT YtmoaolcioihjnaaProg.lean LOADS. Nothing in Lean hashes anything: it is a label: what it is worth is what the hold of that sum in a sandbox is worth. -/
noncomputable def Try.pinned : Pinned := { name := "ytmoaolcioihjnaa", sum := "521d43555b9494f23bf4737d5f5516b5a317950df3c0e10aa7b7ca351f5c530a", checked := Try.checked }
namespace Rows
def none {H : Type} : Left H := { results := [], args := [] }

/-- 'laws.FnDecNew': WHATEVER THE INPUT: true; the input reads as it did. -/
def fnDecNewSpec : ChangeSpec := { name := "fnDecNew", fn := fun _ => fun
  | [d] => { results := [.lit (.bool true)], args := [d] }
  | _ => none }
def fnDecNewRow : OpenClaim := { program := "ytmoaolcioihjnaa", sum := "521d43555b9494f23bf4737d5f5516b5a317950df3c0e10aa7b7ca351f5c530a", func := "loop.example/chancery/laws.FnDecNew", spec := "fnDecNew", apart := false }
def FnDecNewSaid : Prop := fnDecNewRow.holds Try.pinned (OpenSpec.ofChange fnDecNewSpec)

/-- ITS FALSE NEIGHBOUR: 'it returns false'. Refute it at one input. -/
def fnDecNewWrong : ChangeSpec := { name := "fnDecNew", fn := fun _ => fun
  | [d] => { results := [.lit (.bool false)], args := [d] }
  | _ => none }
def FnDecNewWrongFalsely : Prop := fnDecNewRow.holds Try.pinned (OpenSpec.ofChange fnDecNewWrong)

/-- 'laws.FnDecMul': WHATEVER THE INPUT: true; the input reads as it did. -/
def fnDecMulSpec : ChangeSpec := { name := "fnDecMul", fn := fun _ => fun
  | [d] => { results := [.lit (.bool true)], args := [d] }
  | _ => none }
def fnDecMulRow : OpenClaim := { program := "ytmoaolcioihjnaa", sum := "521d43555b9494f23bf4737d5f5516b5a317950df3c0e10aa7b7ca351f5c530a", func := "loop.example/chancery/laws.FnDecMul", spec := "fnDecMul", apart := false }
def FnDecMulSaid : Prop := fnDecMulRow.holds Try.pinned (OpenSpec.ofChange fnDecMulSpec)

/-- ITS FALSE NEIGHBOUR: 'it returns false'. Refute it at one input. -/
def fnDecMulWrong : ChangeSpec := { name := "fnDecMul", fn := fun _ => fun
  | [d] => { results := [.lit (.bool false)], args := [d] }
  | _ => none }
def FnDecMulWrongFalsely : Prop := fnDecMulRow.holds Try.pinned (OpenSpec.ofChange fnDecMulWrong)

/-- 'laws.FnDecAdd': WHATEVER THE INPUT: true; the input reads as it did. -/
def fnDecAddSpec : ChangeSpec := { name := "fnDecAdd", fn := fun _ => fun
  | [d] => { results := [.lit (.bool true)], args := [d] }
  | _ => none }
def fnDecAddRow : OpenClaim := { program := "ytmoaolcioihjnaa", sum := "521d43555b9494f23bf4737d5f5516b5a317950df3c0e10aa7b7ca351f5c530a", func := "loop.example/chancery/laws.FnDecAdd", spec := "fnDecAdd", apart := false }
def FnDecAddSaid : Prop := fnDecAddRow.holds Try.pinned (OpenSpec.ofChange fnDecAddSpec)

/-- ITS FALSE NEIGHBOUR: 'it returns false'. Refute it at one input. -/
def fnDecAddWrong : ChangeSpec := { name := "fnDecAdd", fn := fun _ => fun
  | [d] => { results := [.lit (.bool false)], args := [d] }
  | _ => none }
def FnDecAddWrongFalsely : Prop := fnDecAddRow.holds Try.pinned (OpenSpec.ofChange fnDecAddWrong)

/-- 'laws.FnDecThree': WHATEVER THE INPUT: true; the input reads as it did. -/
def fnDecThreeSpec : ChangeSpec := { name := "fnDecThree", fn := fun _ => fun
  | [d1, d2] => { results := [.lit (.bool true)], args := [d1, d2] }
  | _ => none }
def fnDecThreeRow : OpenClaim := { program := "ytmoaolcioihjnaa", sum := "521d43555b9494f23bf4737d5f5516b5a317950df3c0e10aa7b7ca351f5c530a", func := "loop.example/chancery/laws.FnDecThree", spec := "fnDecThree", apart := false }
def FnDecThreeSaid : Prop := fnDecThreeRow.holds Try.pinned (OpenSpec.ofChange fnDecThreeSpec)

/-- ITS FALSE NEIGHBOUR: 'it returns false'. Refute it at one input. -/
def fnDecThreeWrong : ChangeSpec := { name := "fnDecThree", fn := fun _ => fun
  | [d1, d2] => { results := [.lit (.bool false)], args := [d1, d2] }
  | _ => none }
def FnDecThreeWrongFalsely : Prop := fnDecThreeRow.holds Try.pinned (OpenSpec.ofChange fnDecThreeWrong)

/-- 'laws.FnDecSub': WHATEVER THE INPUT: true; the input reads as it did. -/
def fnDecSubSpec : ChangeSpec := { name := "fnDecSub", fn := fun _ => fun
  | [d] => { results := [.lit (.bool true)], args := [d] }
  | _ => none }
def fnDecSubRow : OpenClaim := { program := "ytmoaolcioihjnaa", sum := "521d43555b9494f23bf4737d5f5516b5a317950df3c0e10aa7b7ca351f5c530a", func := "loop.example/chancery/laws.FnDecSub", spec := "fnDecSub", apart := false }
def FnDecSubSaid : Prop := fnDecSubRow.holds Try.pinned (OpenSpec.ofChange fnDecSubSpec)

/-- ITS FALSE NEIGHBOUR: 'it returns false'. Refute it at one input. -/
def fnDecSubWrong : ChangeSpec := { name := "fnDecSub", fn := fun _ => fun
  | [d] => { results := [.lit (.bool false)], args := [d] }
  | _ => none }
def FnDecSubWrongFalsely : Prop := fnDecSubRow.holds Try.pinned (OpenSpec.ofChange fnDecSubWrong)

/-- 'laws.FnQuote': WHATEVER THE INPUT: true; the input reads as it did. -/
def fnQuoteSpec : ChangeSpec := { name := "fnQuote", fn := fun _ => fun
  | [d1, d2] => { results := [.lit (.bool true)], args := [d1, d2] }
  | _ => none }
def fnQuoteRow : OpenClaim := { program := "ytmoaolcioihjnaa", sum := "521d43555b9494f23bf4737d5f5516b5a317950df3c0e10aa7b7ca351f5c530a", func := "loop.example/chancery/laws.FnQuote", spec := "fnQuote", inPlace := ["internal/bytealg.IndexByteString"], apart := false }
def FnQuoteSaid : Prop := fnQuoteRow.holds Try.pinned (OpenSpec.ofChange fnQuoteSpec)

/-- ITS FALSE NEIGHBOUR: 'it returns false'. Refute it at one input. -/
def fnQuoteWrong : ChangeSpec := { name := "fnQuote", fn := fun _ => fun
  | [d1, d2] => { results := [.lit (.bool false)], args := [d1, d2] }
  | _ => none }
def FnQuoteWrongFalsely : Prop := fnQuoteRow.holds Try.pinned (OpenSpec.ofChange fnQuoteWrong)

/-- 'laws.FnDecOrder': WHATEVER THE INPUT: true; the input reads as it did. -/
def fnDecOrderSpec : ChangeSpec := { name := "fnDecOrder", fn := fun _ => fun
  | [d1, d2] => { results := [.lit (.bool true)], args := [d1, d2] }
  | _ => none }
def fnDecOrderRow : OpenClaim := { program := "ytmoaolcioihjnaa", sum := "521d43555b9494f23bf4737d5f5516b5a317950df3c0e10aa7b7ca351f5c530a", func := "loop.example/chancery/laws.FnDecOrder", spec := "fnDecOrder", unfollowed := true, recurses := true, apart := false }
def FnDecOrderSaid : Prop := fnDecOrderRow.holds Try.pinned (OpenSpec.ofChange fnDecOrderSpec)

/-- ITS FALSE NEIGHBOUR: 'it returns false'. Refute it at one input. -/
def fnDecOrderWrong : ChangeSpec := { name := "fnDecOrder", fn := fun _ => fun
  | [d1, d2] => { results := [.lit (.bool false)], args := [d1, d2] }
  | _ => none }
def FnDecOrderWrongFalsely : Prop := fnDecOrderRow.holds Try.pinned (OpenSpec.ofChange fnDecOrderWrong)

/-- 'laws.FnDecCmp': WHATEVER THE INPUT: true; the input reads as it did. -/
def fnDecCmpSpec : ChangeSpec := { name := "fnDecCmp", fn := fun _ => fun
  | [d] => { results := [.lit (.bool true)], args := [d] }
  | _ => none }
def fnDecCmpRow : OpenClaim := { program := "ytmoaolcioihjnaa", sum := "521d43555b9494f23bf4737d5f5516b5a317950df3c0e10aa7b7ca351f5c530a", func := "loop.example/chancery/laws.FnDecCmp", spec := "fnDecCmp", unfollowed := true, recurses := true, apart := false }
def FnDecCmpSaid : Prop := fnDecCmpRow.holds Try.pinned (OpenSpec.ofChange fnDecCmpSpec)

/-- ITS FALSE NEIGHBOUR: 'it returns false'. Refute it at one input. -/
def fnDecCmpWrong : ChangeSpec := { name := "fnDecCmp", fn := fun _ => fun
  | [d] => { results := [.lit (.bool false)], args := [d] }
  | _ => none }
def FnDecCmpWrongFalsely : Prop := fnDecCmpRow.holds Try.pinned (OpenSpec.ofChange fnDecCmpWrong)

/-- 'laws.FnDecDiv': WHATEVER THE INPUT: true; the input reads as it did. -/
def fnDecDivSpec : ChangeSpec := { name := "fnDecDiv", fn := fun _ => fun
  | [d] => { results := [.lit (.bool true)], args := [d] }
  | _ => none }
def fnDecDivRow : OpenClaim := { program := "ytmoaolcioihjnaa", sum := "521d43555b9494f23bf4737d5f5516b5a317950df3c0e10aa7b7ca351f5c530a", func := "loop.example/chancery/laws.FnDecDiv", spec := "fnDecDiv", unfollowed := true, recurses := true, apart := false }
def FnDecDivSaid : Prop := fnDecDivRow.holds Try.pinned (OpenSpec.ofChange fnDecDivSpec)

/-- ITS FALSE NEIGHBOUR: 'it returns false'. Refute it at one input. -/
def fnDecDivWrong : ChangeSpec := { name := "fnDecDiv", fn := fun _ => fun
  | [d] => { results := [.lit (.bool false)], args := [d] }
  | _ => none }
def FnDecDivWrongFalsely : Prop := fnDecDivRow.holds Try.pinned (OpenSpec.ofChange fnDecDivWrong)

/-- 'laws.FnDecMod': WHATEVER THE INPUT: true; the input reads as it did. -/
def fnDecModSpec : ChangeSpec := { name := "fnDecMod", fn := fun _ => fun
  | [d] => { results := [.lit (.bool true)], args := [d] }
  | _ => none }
def fnDecModRow : OpenClaim := { program := "ytmoaolcioihjnaa", sum := "521d43555b9494f23bf4737d5f5516b5a317950df3c0e10aa7b7ca351f5c530a", func := "loop.example/chancery/laws.FnDecMod", spec := "fnDecMod", unfollowed := true, recurses := true, apart := false }
def FnDecModSaid : Prop := fnDecModRow.holds Try.pinned (OpenSpec.ofChange fnDecModSpec)

/-- ITS FALSE NEIGHBOUR: 'it returns false'. Refute it at one input. -/
def fnDecModWrong : ChangeSpec := { name := "fnDecMod", fn := fun _ => fun
  | [d] => { results := [.lit (.bool false)], args := [d] }
  | _ => none }
def FnDecModWrongFalsely : Prop := fnDecModRow.holds Try.pinned (OpenSpec.ofChange fnDecModWrong)

/- THE SECOND FORM. 'bulk': how many values and letters a reading holds, each counted each time it is reached (what is shared counts as often as it is met; a slice's spare places count too). A statement '..UptoSaid' is the law's where the arguments, and the package variables that the reading takes, are together of bulk at most 1048576: NARROWER than '..Said'. Prove '..Said' where nothing that the law and all that it calls make is longer than what came in: it says more and counts as full. Else prove '..UptoSaid'. A law counts once. -/
mutual
def uptoBulk {H : Type} : DataW H → Nat
  | .lit (.string bytes) => bytes.length + 1
  | .lit _ => 1
  | .nil => 1
  | .ptr d => uptoBulk d + 1
  | .slice elems spare => uptoBulkAll elems + uptoBulkAll spare + 1
  | .agg parts => uptoBulkAll parts + 1
  | .iface _ d => uptoBulk d + 1
  | .map entries => uptoBulkEntries entries + 1
  | .held _ => 1
def uptoBulkAll {H : Type} : List (DataW H) → Nat
  | [] => 0
  | d :: r => uptoBulk d + uptoBulkAll r
def uptoBulkEntries {H : Type} : List (Lit × DataW H) → Nat
  | [] => 0
  | x :: r => uptoBulkEntry x + uptoBulkEntries r
def uptoBulkEntry {H : Type} : Lit × DataW H → Nat
  | (.string bytes, d) => bytes.length + uptoBulk d + 1
  | (_, d) => uptoBulk d + 1
 end
def uptoSmall : (H : Type) → List (DataW H) → Bool := fun _ ds => decide (uptoBulkAll ds ≤ 1048576)
def OpenSpec.upto (s : _root_.Go.ChangeSpec) : _root_.Go.OpenSpec := { _root_.Go.OpenSpec.ofChange s with cond := some uptoSmall }

/-- 'laws.FnDecNew', WHERE WHAT IT READS IS OF BULK AT MOST 1048576: true; the input reads as it did. -/
def fnDecNewUptoRow : OpenClaim := { program := "ytmoaolcioihjnaa", sum := "521d43555b9494f23bf4737d5f5516b5a317950df3c0e10aa7b7ca351f5c530a", func := "loop.example/chancery/laws.FnDecNew", spec := "fnDecNew", apart := false, narrowed := true }
def FnDecNewUptoSaid : Prop := fnDecNewUptoRow.holds Try.pinned (OpenSpec.upto fnDecNewSpec)

/-- 'laws.FnDecMul', WHERE WHAT IT READS IS OF BULK AT MOST 1048576: true; the input reads as it did. -/
def fnDecMulUptoRow : OpenClaim := { program := "ytmoaolcioihjnaa", sum := "521d43555b9494f23bf4737d5f5516b5a317950df3c0e10aa7b7ca351f5c530a", func := "loop.example/chancery/laws.FnDecMul", spec := "fnDecMul", apart := false, narrowed := true }
def FnDecMulUptoSaid : Prop := fnDecMulUptoRow.holds Try.pinned (OpenSpec.upto fnDecMulSpec)

/-- 'laws.FnDecAdd', WHERE WHAT IT READS IS OF BULK AT MOST 1048576: true; the input reads as it did. -/
def fnDecAddUptoRow : OpenClaim := { program := "ytmoaolcioihjnaa", sum := "521d43555b9494f23bf4737d5f5516b5a317950df3c0e10aa7b7ca351f5c530a", func := "loop.example/chancery/laws.FnDecAdd", spec := "fnDecAdd", apart := false, narrowed := true }
def FnDecAddUptoSaid : Prop := fnDecAddUptoRow.holds Try.pinned (OpenSpec.upto fnDecAddSpec)

/-- 'laws.FnDecThree', WHERE WHAT IT READS IS OF BULK AT MOST 1048576: true; the input reads as it did. -/
def fnDecThreeUptoRow : OpenClaim := { program := "ytmoaolcioihjnaa", sum := "521d43555b9494f23bf4737d5f5516b5a317950df3c0e10aa7b7ca351f5c530a", func := "loop.example/chancery/laws.FnDecThree", spec := "fnDecThree", apart := false, narrowed := true }
def FnDecThreeUptoSaid : Prop := fnDecThreeUptoRow.holds Try.pinned (OpenSpec.upto fnDecThreeSpec)

/-- 'laws.FnDecSub', WHERE WHAT IT READS IS OF BULK AT MOST 1048576: true; the input reads as it did. -/
def fnDecSubUptoRow : OpenClaim := { program := "ytmoaolcioihjnaa", sum := "521d43555b9494f23bf4737d5f5516b5a317950df3c0e10aa7b7ca351f5c530a", func := "loop.example/chancery/laws.FnDecSub", spec := "fnDecSub", apart := false, narrowed := true }
def FnDecSubUptoSaid : Prop := fnDecSubUptoRow.holds Try.pinned (OpenSpec.upto fnDecSubSpec)

/-- 'laws.FnQuote', WHERE WHAT IT READS IS OF BULK AT MOST 1048576: true; the input reads as it did. -/
def fnQuoteUptoRow : OpenClaim := { program := "ytmoaolcioihjnaa", sum := "521d43555b9494f23bf4737d5f5516b5a317950df3c0e10aa7b7ca351f5c530a", func := "loop.example/chancery/laws.FnQuote", spec := "fnQuote", inPlace := ["internal/bytealg.IndexByteString"], apart := false, narrowed := true }
def FnQuoteUptoSaid : Prop := fnQuoteUptoRow.holds Try.pinned (OpenSpec.upto fnQuoteSpec)

/-- 'laws.FnDecOrder', WHERE WHAT IT READS IS OF BULK AT MOST 1048576: true; the input reads as it did. -/
def fnDecOrderUptoRow : OpenClaim := { program := "ytmoaolcioihjnaa", sum := "521d43555b9494f23bf4737d5f5516b5a317950df3c0e10aa7b7ca351f5c530a", func := "loop.example/chancery/laws.FnDecOrder", spec := "fnDecOrder", unfollowed := true, recurses := true, apart := false, narrowed := true }
def FnDecOrderUptoSaid : Prop := fnDecOrderUptoRow.holds Try.pinned (OpenSpec.upto fnDecOrderSpec)

/-- 'laws.FnDecCmp', WHERE WHAT IT READS IS OF BULK AT MOST 1048576: true; the input reads as it did. -/
def fnDecCmpUptoRow : OpenClaim := { program := "ytmoaolcioihjnaa", sum := "521d43555b9494f23bf4737d5f5516b5a317950df3c0e10aa7b7ca351f5c530a", func := "loop.example/chancery/laws.FnDecCmp", spec := "fnDecCmp", unfollowed := true, recurses := true, apart := false, narrowed := true }
def FnDecCmpUptoSaid : Prop := fnDecCmpUptoRow.holds Try.pinned (OpenSpec.upto fnDecCmpSpec)

/-- 'laws.FnDecDiv', WHERE WHAT IT READS IS OF BULK AT MOST 1048576: true; the input reads as it did. -/
def fnDecDivUptoRow : OpenClaim := { program := "ytmoaolcioihjnaa", sum := "521d43555b9494f23bf4737d5f5516b5a317950df3c0e10aa7b7ca351f5c530a", func := "loop.example/chancery/laws.FnDecDiv", spec := "fnDecDiv", unfollowed := true, recurses := true, apart := false, narrowed := true }
def FnDecDivUptoSaid : Prop := fnDecDivUptoRow.holds Try.pinned (OpenSpec.upto fnDecDivSpec)

/-- 'laws.FnDecMod', WHERE WHAT IT READS IS OF BULK AT MOST 1048576: true; the input reads as it did. -/
def fnDecModUptoRow : OpenClaim := { program := "ytmoaolcioihjnaa", sum := "521d43555b9494f23bf4737d5f5516b5a317950df3c0e10aa7b7ca351f5c530a", func := "loop.example/chancery/laws.FnDecMod", spec := "fnDecMod", unfollowed := true, recurses := true, apart := false, narrowed := true }
def FnDecModUptoSaid : Prop := fnDecModUptoRow.holds Try.pinned (OpenSpec.upto fnDecModSpec)

end Rows
end Go.Proofs.Ytmoaolcioihjnaa
