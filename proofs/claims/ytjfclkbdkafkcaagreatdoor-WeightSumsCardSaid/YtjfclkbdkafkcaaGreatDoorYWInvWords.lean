-- Began as what the kit's print.sh wrote for this seat (blocks picked by wip/tools/prune.py); the text is ours to turn.
import Derived.Test.YtjfclkbdkafkcaaGreatDoorYWInv
import Derived.Test.YtjfclkbdkafkcaaGreatDoorYWFootNe
namespace Go.Proofs.YtjfclkbdkafkcaaGreatDoorW.PrintWords
open Go.RowKit
end Go.Proofs.YtjfclkbdkafkcaaGreatDoorW.PrintWords
namespace Go.Proofs.YtjfclkbdkafkcaaGreatDoorW.PrintLast
section
variable {ops : Array Oper} {a : Act} {o og : Oper} {g : Nat} {t : Tmp} {u : Bool}
end
end Go.Proofs.YtjfclkbdkafkcaaGreatDoorW.PrintLast
