-- Written by hookprint.py (wip/) of this session: the kit's print with hand-proved functions beside it. Not trusted: Lean checks it.
import Derived.Test.YtjijbncheikagaaDoorQ0
import Derived.Test.YtjijbncheikagaaDoorQ1
import Derived.Test.YtjijbncheikagaaDoorQ2
import Derived.Test.YtjijbncheikagaaDoorQ3
import Derived.Test.YtjijbncheikagaaDoorQ4
import Derived.Test.YtjijbncheikagaaDoorQ5
import Derived.Test.YtjijbncheikagaaDoorQ6
import Derived.Test.YtjijbncheikagaaDoorQ7
import Derived.Test.YtjijbncheikagaaDoorQ8
import Derived.Test.YtjijbncheikagaaDoorQ9
namespace Go.Proofs.YtjijbncheikagaaDoor.Q
open List (setIfInBounds_toArray set_cons_zero set_cons_succ)
open Go.RowKit Go.Lib Go.Proofs.YtjijbncheikagaaDoorX Go.Proofs.YtjijbncheikagaaDoorW.PrintWords Go.Proofs.YtjijbncheikagaaDoorW.PrintLast Go.Proofs.YtjijbncheikagaaDoorW.PrintMore
set_option linter.unusedVariables false
set_option linter.unusedSimpArgs false
end Go.Proofs.YtjijbncheikagaaDoor.Q
