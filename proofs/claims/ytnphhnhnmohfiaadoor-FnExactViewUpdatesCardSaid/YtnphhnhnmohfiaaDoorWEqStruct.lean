/- Words of the kit's print, those that are used here (wip/x/prune.py). -/
import Derived.Test.YtnphhnhnmohfiaaDoorWWords
import Derived.Laws.StructEq
namespace Go.Proofs.YtnphhnhnmohfiaaDoorW.PrintWords
open Go.RowKit
section
variable {P : Program} {d : Nat} {xs ys : Array Value} {f : Field} {fs : List Field} {a b : Value} {r s : Bool} {w : World}
end
end Go.Proofs.YtnphhnhnmohfiaaDoorW.PrintWords
