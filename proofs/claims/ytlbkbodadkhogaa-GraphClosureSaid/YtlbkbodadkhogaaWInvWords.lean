/- Words of the printed contracts (shaken). -/
import Derived.Test.YtlbkbodadkhogaaWInv
import Derived.Test.YtlbkbodadkhogaaWFootNe
namespace Go.Proofs.YtlbkbodadkhogaaW.PrintWords
open Go.RowKit
end Go.Proofs.YtlbkbodadkhogaaW.PrintWords
namespace Go.Proofs.YtlbkbodadkhogaaW.PrintLast
section
variable {ops : Array Oper} {a : Act} {o og : Oper} {g : Nat} {t : Tmp} {u : Bool}
end
end Go.Proofs.YtlbkbodadkhogaaW.PrintLast
