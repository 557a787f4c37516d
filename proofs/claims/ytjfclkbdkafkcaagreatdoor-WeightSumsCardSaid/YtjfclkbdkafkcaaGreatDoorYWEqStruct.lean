-- Began as what the kit's print.sh wrote for this seat (blocks picked by wip/tools/prune.py); the text is ours to turn.
import Derived.Test.YtjfclkbdkafkcaaGreatDoorYWWords
import Derived.Laws.StructEq
/-! ### 53. '==' of structs as_ one Bool -/
namespace Go.Proofs.YtjfclkbdkafkcaaGreatDoorW.PrintWords
open Go.RowKit
section
variable {P : Program} {d : Nat} {xs ys : Array Value} {f : Field} {fs : List Field} {a b : Value} {r s : Bool} {w : World}
end
end Go.Proofs.YtjfclkbdkafkcaaGreatDoorW.PrintWords
