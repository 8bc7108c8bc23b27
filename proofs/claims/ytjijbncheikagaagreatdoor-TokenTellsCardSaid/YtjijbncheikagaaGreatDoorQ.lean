-- Written by hookprint.py (wip/) of this session: the kit's print with hand-proved functions beside it. Not trusted: Lean checks it.
import Derived.Test.YtjijbncheikagaaGreatDoorQ0
import Derived.Test.YtjijbncheikagaaGreatDoorQ1
import Derived.Test.YtjijbncheikagaaGreatDoorQ2
import Derived.Test.YtjijbncheikagaaGreatDoorQ3
import Derived.Test.YtjijbncheikagaaGreatDoorQ4
import Derived.Test.YtjijbncheikagaaGreatDoorQ5
import Derived.Test.YtjijbncheikagaaGreatDoorQ6
import Derived.Test.YtjijbncheikagaaGreatDoorQ7
import Derived.Test.YtjijbncheikagaaGreatDoorQ8
import Derived.Test.YtjijbncheikagaaGreatDoorQ9
import Derived.Test.YtjijbncheikagaaGreatDoorQ10
import Derived.Test.YtjijbncheikagaaGreatDoorQ11
import Derived.Test.YtjijbncheikagaaGreatDoorQ12
import Derived.Test.YtjijbncheikagaaGreatDoorQ13
import Derived.Test.YtjijbncheikagaaGreatDoorQ14
import Derived.Test.YtjijbncheikagaaGreatDoorQ15
import Derived.Test.YtjijbncheikagaaGreatDoorQ16
namespace Go.Proofs.YtjijbncheikagaaGreatDoor.Q
open List (setIfInBounds_toArray set_cons_zero set_cons_succ)
open Go.RowKit Go.Lib Go.Proofs.YtjijbncheikagaaGreatDoorX Go.Proofs.YtjijbncheikagaaGreatDoorW.PrintWords Go.Proofs.YtjijbncheikagaaGreatDoorW.PrintLast Go.Proofs.YtjijbncheikagaaGreatDoorW.PrintMore
set_option linter.unusedVariables false
set_option linter.unusedSimpArgs false
end Go.Proofs.YtjijbncheikagaaGreatDoor.Q
