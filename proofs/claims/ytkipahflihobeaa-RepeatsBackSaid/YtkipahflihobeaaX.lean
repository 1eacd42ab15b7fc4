/- Contracts of functions over this seat, written by a program of this claim (xprint.py). -/
import Derived.Test.YtkipahflihobeaaX0
import Derived.Test.YtkipahflihobeaaX1
import Derived.Test.YtkipahflihobeaaX2
import Derived.Test.YtkipahflihobeaaX3
import Derived.Test.YtkipahflihobeaaX4
import Derived.Test.YtkipahflihobeaaX5
import Derived.Test.YtkipahflihobeaaX6
import Derived.Test.YtkipahflihobeaaX7
import Derived.Test.YtkipahflihobeaaX8
import Derived.Test.YtkipahflihobeaaX9
import Derived.Test.YtkipahflihobeaaX10
import Derived.Test.YtkipahflihobeaaX11
namespace Go.Proofs.Ytkipahflihobeaa.X
open Go.RowKit Go.Proofs.YtkipahflihobeaaW.PrintWords Go.Proofs.YtkipahflihobeaaW.PrintLast Go.Proofs.YtkipahflihobeaaW.PrintMore
attribute [local go_sem] max2_int min2_int max_two min_two max_three min_three max_four min_four   -- for this text's walks alone
set_option linter.unusedVariables false
set_option linter.unusedSimpArgs false

end Go.Proofs.Ytkipahflihobeaa.X
