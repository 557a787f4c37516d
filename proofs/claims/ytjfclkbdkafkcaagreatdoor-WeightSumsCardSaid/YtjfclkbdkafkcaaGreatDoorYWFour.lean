-- Began as what the kit's print.sh wrote for this seat (blocks picked by wip/tools/prune.py); the text is ours to turn.
import Derived.Test.YtjfclkbdkafkcaaGreatDoorYWTab
/-! ### 56. Four, five, six operations that may come up next, in any order -/
namespace Go.Proofs.YtjfclkbdkafkcaaGreatDoorW.PrintLast
section
variable {P : Program} {ops : Array Oper} {Q : Exit → Act → World → Prop} {md : Region.Mode} {S : World → Prop} {ds : List Nat} {T : Bool × List (List Nat × List Nat)}
end
end Go.Proofs.YtjfclkbdkafkcaaGreatDoorW.PrintLast
