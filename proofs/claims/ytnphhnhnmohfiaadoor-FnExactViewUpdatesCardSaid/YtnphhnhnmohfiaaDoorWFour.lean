/- Words of the kit's print, those that are used here (wip/x/prune.py). -/
import Derived.Test.YtnphhnhnmohfiaaDoorWTab
namespace Go.Proofs.YtnphhnhnmohfiaaDoorW.PrintLast
section
variable {P : Program} {ops : Array Oper} {Q : Exit → Act → World → Prop} {md : Region.Mode} {S : World → Prop} {ds : List Nat} {T : Bool × List (List Nat × List Nat)}
end
end Go.Proofs.YtnphhnhnmohfiaaDoorW.PrintLast
