-- Written by hookprint.py (wip/) of this session: the kit's print with hand-proved functions beside it. Not trusted: Lean checks it.
import Derived.Test.YtmhfjeekhkoikaaDoorQ0
import Derived.Test.YtmhfjeekhkoikaaDoorQ1
import Derived.Test.YtmhfjeekhkoikaaDoorQ2
import Derived.Test.YtmhfjeekhkoikaaDoorQ3
import Derived.Test.YtmhfjeekhkoikaaDoorQ4
import Derived.Test.YtmhfjeekhkoikaaDoorQ5
import Derived.Test.YtmhfjeekhkoikaaDoorQ6
namespace Go.Proofs.YtmhfjeekhkoikaaDoor.Q
open Go.RowKit Go.Lib Go.Proofs.YtmhfjeekhkoikaaDoorX Go.Proofs.YtmhfjeekhkoikaaDoorW.PrintWords Go.Proofs.YtmhfjeekhkoikaaDoorW.PrintLast Go.Proofs.YtmhfjeekhkoikaaDoorW.PrintMore
attribute [local go_sem] max2_int min2_int max_two min_two max_three min_three max_four min_four   -- for this text's walks alone
set_option linter.unusedVariables false
set_option linter.unusedSimpArgs false

end Go.Proofs.YtmhfjeekhkoikaaDoor.Q
