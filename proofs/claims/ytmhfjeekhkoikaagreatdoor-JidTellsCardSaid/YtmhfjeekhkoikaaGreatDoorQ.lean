-- Written by hookprint.py (wip/) of this session: the kit's print with hand-proved functions beside it. Not trusted: Lean checks it.
import Derived.Test.YtmhfjeekhkoikaaGreatDoorQ0
import Derived.Test.YtmhfjeekhkoikaaGreatDoorQ1
import Derived.Test.YtmhfjeekhkoikaaGreatDoorQ2
import Derived.Test.YtmhfjeekhkoikaaGreatDoorQ3
import Derived.Test.YtmhfjeekhkoikaaGreatDoorQ4
import Derived.Test.YtmhfjeekhkoikaaGreatDoorQ5
import Derived.Test.YtmhfjeekhkoikaaGreatDoorQ6
import Derived.Test.YtmhfjeekhkoikaaGreatDoorQ7
import Derived.Test.YtmhfjeekhkoikaaGreatDoorQ8
import Derived.Test.YtmhfjeekhkoikaaGreatDoorQ9
import Derived.Test.YtmhfjeekhkoikaaGreatDoorQ10
import Derived.Test.YtmhfjeekhkoikaaGreatDoorQ11
import Derived.Test.YtmhfjeekhkoikaaGreatDoorQ12
import Derived.Test.YtmhfjeekhkoikaaGreatDoorQ13
namespace Go.Proofs.YtmhfjeekhkoikaaGreatDoor.Q
open Go.RowKit Go.Lib Go.Proofs.YtmhfjeekhkoikaaGreatDoorX Go.Proofs.YtmhfjeekhkoikaaGreatDoorW.PrintWords Go.Proofs.YtmhfjeekhkoikaaGreatDoorW.PrintLast Go.Proofs.YtmhfjeekhkoikaaGreatDoorW.PrintMore
set_option linter.unusedVariables false
set_option linter.unusedSimpArgs false
end Go.Proofs.YtmhfjeekhkoikaaGreatDoor.Q
