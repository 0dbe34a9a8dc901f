/- Functions of the program as plain Lean functions, each with the proof that the machine's call does what it says: written by a program of this session out of the translation. -/
import Derived.Test.YtckhmeadflafaaaXFbx0
import Derived.Test.YtckhmeadflafaaaXFbx1
import Derived.Test.YtckhmeadflafaaaXFbx2
import Derived.Test.YtckhmeadflafaaaXFbx3
import Derived.Test.YtckhmeadflafaaaXFbx4
import Derived.Test.YtckhmeadflafaaaXFbx5
import Derived.Test.YtckhmeadflafaaaXFbx6
import Derived.Test.YtckhmeadflafaaaXFbx7
import Derived.Test.YtckhmeadflafaaaXFbx8
import Derived.Test.YtckhmeadflafaaaXFbx9
import Derived.Test.YtckhmeadflafaaaXFbx10
import Derived.Test.YtckhmeadflafaaaXFbx11
import Derived.Test.YtckhmeadflafaaaXFbx12
import Derived.Test.YtckhmeadflafaaaXFbx13
import Derived.Test.YtckhmeadflafaaaXFbx14
import Derived.Test.YtckhmeadflafaaaXFbx15
import Derived.Test.YtckhmeadflafaaaXFbx16
import Derived.Test.YtckhmeadflafaaaXFbx17
import Derived.Test.YtckhmeadflafaaaXFbx18
import Derived.Test.YtckhmeadflafaaaXFbx19
import Derived.Test.YtckhmeadflafaaaXFbx20
import Derived.Test.YtckhmeadflafaaaXFbx21
import Derived.Test.YtckhmeadflafaaaXFbx22
import Derived.Test.YtckhmeadflafaaaXFbx23
import Derived.Test.YtckhmeadflafaaaXFbx24
import Derived.Test.YtckhmeadflafaaaXFbx25
import Derived.Test.YtckhmeadflafaaaXFbx26
import Derived.Test.YtckhmeadflafaaaXFbx27
import Derived.Test.YtckhmeadflafaaaXFbx28
import Derived.Test.YtckhmeadflafaaaXFbx29
import Derived.Test.YtckhmeadflafaaaXFbx30
import Derived.Test.YtckhmeadflafaaaXFbx31
namespace Go.Proofs.Ytckhmeadflafaaa.XFb
open Go.RowKit Go.Proofs.YtckhmeadflafaaaW.PrintWords Go.Proofs.YtckhmeadflafaaaW.PrintLast Go.Proofs.YtckhmeadflafaaaW.PrintMore
attribute [local go_sem] max2_int min2_int max_two min_two max_three min_three max_four min_four   -- for this text's walks alone
set_option linter.unusedVariables false
set_option linter.unusedSimpArgs false

end Go.Proofs.Ytckhmeadflafaaa.XFb
