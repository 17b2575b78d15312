-- the words that this claim uses, laid by a program of this session (wip/tools); Lean checks it
import Derived.Test.YtoajejdicfabmaaDoorBFnValueCmpWTab
namespace Go.Proofs.YtoajejdicfabmaaDoorW.PrintLast
section
variable {P : Program} {ops : Array Oper} {Q : Exit → Act → World → Prop} {md : Region.Mode} {S : World → Prop} {ds : List Nat} {T : Bool × List (List Nat × List Nat)}
end
end Go.Proofs.YtoajejdicfabmaaDoorW.PrintLast
