/- Words of the kit's print, those that are used here (wip/x/prune.py). -/
import Derived.Test.YtnphhnhnmohfiaaDoorWInv
import Derived.Test.YtnphhnhnmohfiaaDoorWFootNe
namespace Go.Proofs.YtnphhnhnmohfiaaDoorW.PrintWords
open Go.RowKit
end Go.Proofs.YtnphhnhnmohfiaaDoorW.PrintWords
namespace Go.Proofs.YtnphhnhnmohfiaaDoorW.PrintLast
section
variable {ops : Array Oper} {a : Act} {o og : Oper} {g : Nat} {t : Tmp} {u : Bool}
end
end Go.Proofs.YtnphhnhnmohfiaaDoorW.PrintLast
