/- Contracts of the functions that a statement reaches: written for this seat by wip/x/xprint.py over the kit's print, with own contracts for what the print lacks. -/
import Derived.Test.YtcmnndnigjkldaaGreatDoorPFnExactFetchTextxA
import Derived.Test.YtcmnndnigjkldaaGreatDoorPFnExactFetchTextxB
import Derived.Test.YtcmnndnigjkldaaGreatDoorPFnExactFetchTextx6
import Derived.Test.YtcmnndnigjkldaaGreatDoorPFnExactFetchTextx7
import Derived.Test.YtcmnndnigjkldaaGreatDoorPFnExactFetchTextx8
import Derived.Test.YtcmnndnigjkldaaGreatDoorPFnExactFetchTextx9
import Derived.Test.YtcmnndnigjkldaaGreatDoorPFnExactFetchTextx10
import Derived.Test.YtcmnndnigjkldaaGreatDoorPFnExactFetchTextx11
import Derived.Test.YtcmnndnigjkldaaGreatDoorPFnExactFetchTextxC
namespace Go.Proofs.YtcmnndnigjkldaaGreatDoor.PFnExactFetchText
open Go.RowKit Go.Proofs.YtcmnndnigjkldaaGreatDoorW.PrintWords Go.Proofs.YtcmnndnigjkldaaGreatDoorW.PrintLast Go.Proofs.YtcmnndnigjkldaaGreatDoorW.PrintMore
attribute [local go_sem] max2_int min2_int max_two min_two max_three min_three max_four min_four   -- for this text's walks alone
set_option linter.unusedVariables false
set_option linter.unusedSimpArgs false

end Go.Proofs.YtcmnndnigjkldaaGreatDoor.PFnExactFetchText
