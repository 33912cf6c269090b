/- Words of the kit's print, those that are used here (wip/x/prune.py). -/
import Derived.Test.YtnphhnhnmohfiaaDoorWTab
namespace Go.Proofs.YtnphhnhnmohfiaaDoorW.PrintLast
section
variable {P : Program} {ops : Array Oper} {Q : Exit → Act → World → Prop} {md : Region.Mode} {T : Bool × List (List Nat × List Nat)} {B : List Nat} {O : List Nat} {b : Nat → Bool} {i j n : Nat}
end
end Go.Proofs.YtnphhnhnmohfiaaDoorW.PrintLast
