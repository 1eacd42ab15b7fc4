/- Words of the printed contracts (shaken). -/
import Derived.Test.YtlbkbodadkhogaaWN
namespace Go.Proofs.YtlbkbodadkhogaaW.PrintWords
open Go.RowKit
namespace Kd
section
variable {α : Type} {d : Kd α} {W : World} {g n : Nat} {S ok : Nat → Prop} {A : Option Addr} {ad : Addr} {xs : List α}
end
end Kd
end Go.Proofs.YtlbkbodadkhogaaW.PrintWords
