/- Words of the kit's print, those that are used here (wip/x/prune.py). -/
import Derived.Test.YtnphhnhnmohfiaaDoorWN
namespace Go.Proofs.YtnphhnhnmohfiaaDoorW.PrintWords
open Go.RowKit
namespace Kd
section
variable {α : Type} {d : Kd α} {W : World} {g n : Nat} {S ok : Nat → Prop} {A : Option Addr} {ad : Addr} {xs : List α}
end
end Kd
end Go.Proofs.YtnphhnhnmohfiaaDoorW.PrintWords
