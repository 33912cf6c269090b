/- Contracts of the functions that a statement reaches: written for this seat by wip/x/xprint.py over the kit's print, with own contracts for what the print lacks. -/
import Derived.Test.YtnphhnhnmohfiaaDoorPFnExactReadLinex0
import Derived.Test.YtnphhnhnmohfiaaDoorPFnExactReadLinex1
import Derived.Test.YtnphhnhnmohfiaaDoorPFnExactReadLinex2
import Derived.Test.YtnphhnhnmohfiaaDoorPFnExactReadLinex3
import Derived.Test.YtnphhnhnmohfiaaDoorPFnExactReadLinex4
import Derived.Test.YtnphhnhnmohfiaaDoorPFnExactReadLinex5
namespace Go.Proofs.YtnphhnhnmohfiaaDoor.PFnExactReadLine
open Go.RowKit Go.Proofs.YtnphhnhnmohfiaaDoorW.PrintWords Go.Proofs.YtnphhnhnmohfiaaDoorW.PrintLast Go.Proofs.YtnphhnhnmohfiaaDoorW.PrintMore
attribute [local go_sem] max2_int min2_int max_two min_two max_three min_three max_four min_four   -- for this text's walks alone
set_option linter.unusedVariables false
set_option linter.unusedSimpArgs false

end Go.Proofs.YtnphhnhnmohfiaaDoor.PFnExactReadLine
