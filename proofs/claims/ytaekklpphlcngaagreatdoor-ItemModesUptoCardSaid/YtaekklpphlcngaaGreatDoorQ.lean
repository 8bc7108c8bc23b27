-- Written by hookprint.py (wip/) of this session: the kit's print with hand-proved functions beside it. Not trusted: Lean checks it.
import Derived.Test.YtaekklpphlcngaaGreatDoorQ0
import Derived.Test.YtaekklpphlcngaaGreatDoorQ1
import Derived.Test.YtaekklpphlcngaaGreatDoorQ2
import Derived.Test.YtaekklpphlcngaaGreatDoorQ3
import Derived.Test.YtaekklpphlcngaaGreatDoorQ4
import Derived.Test.YtaekklpphlcngaaGreatDoorQ5
import Derived.Test.YtaekklpphlcngaaGreatDoorQ6
import Derived.Test.YtaekklpphlcngaaGreatDoorQ7
import Derived.Test.YtaekklpphlcngaaGreatDoorQ8
import Derived.Test.YtaekklpphlcngaaGreatDoorQ9
import Derived.Test.YtaekklpphlcngaaGreatDoorQ10
import Derived.Test.YtaekklpphlcngaaGreatDoorQ11
import Derived.Test.YtaekklpphlcngaaGreatDoorQ12
import Derived.Test.YtaekklpphlcngaaGreatDoorQ13
import Derived.Test.YtaekklpphlcngaaGreatDoorQ14
import Derived.Test.YtaekklpphlcngaaGreatDoorQ15
import Derived.Test.YtaekklpphlcngaaGreatDoorQ16
import Derived.Test.YtaekklpphlcngaaGreatDoorQ17
namespace Go.Proofs.YtaekklpphlcngaaGreatDoor.Q
open List (setIfInBounds_toArray set_cons_zero set_cons_succ)
open Go.RowKit Go.Lib Go.Proofs.YtaekklpphlcngaaGreatDoorX Go.Proofs.YtaekklpphlcngaaGreatDoorW.PrintWords Go.Proofs.YtaekklpphlcngaaGreatDoorW.PrintLast Go.Proofs.YtaekklpphlcngaaGreatDoorW.PrintMore
set_option linter.unusedVariables false
set_option linter.unusedSimpArgs false
end Go.Proofs.YtaekklpphlcngaaGreatDoor.Q
