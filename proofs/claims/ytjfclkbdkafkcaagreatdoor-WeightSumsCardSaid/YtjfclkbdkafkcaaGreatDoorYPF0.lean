-- Began as what the kit's print.sh wrote for this seat (blocks picked by wip/tools/prune.py); the text is ours to turn.
import Derived.Test.YtjfclkbdkafkcaaGreatDoorProg
import Derived.Below
import Derived.Deep.Draws
import Derived.Deep.AppendLies
import Derived.Maps.AppendAt
import Derived.OwnWalk
import Derived.Laws.BytesArg
import Derived.Laws.MakeOwn
import Derived.Laws.OwnMore
import Derived.Deep.OwnRows
import Derived.Tactics
import Derived.Lib.ConvBytes
import Derived.Laws.Slices
import Derived.WalkKit
import Derived.KernelRfl
import Derived.RowKit3
import Derived.Deep.LoopGhost
import Derived.Deep.QuietTactic
import Derived.BigQuiet
import Derived.WideLaws
import Derived.Deep.DeepCutAuto
import Derived.Deep.CutBlock
import Derived.Deep.RegionHeld3
import Derived.Laws.Rows
import Derived.Lib.AppendStr
import Derived.ArgAppend
import Derived.Laws.IdiomCopy
import Derived.OrdersHeld
import Derived.Laws.BitsLemmas
import Derived.RowKit
import Derived.Test.YtjfclkbdkafkcaaGreatDoorYWWords
import Derived.Test.YtjfclkbdkafkcaaGreatDoorYWLast
import Derived.Test.YtjfclkbdkafkcaaGreatDoorYWTab
import Derived.Test.YtjfclkbdkafkcaaGreatDoorYWFour
import Derived.Test.YtjfclkbdkafkcaaGreatDoorYWQPut
import Derived.Test.YtjfclkbdkafkcaaGreatDoorYWApart
import Derived.Test.YtjfclkbdkafkcaaGreatDoorYWArr
import Derived.Test.YtjfclkbdkafkcaaGreatDoorYWZeros
import Derived.Test.YtjfclkbdkafkcaaGreatDoorYWFoot
import Derived.Test.YtjfclkbdkafkcaaGreatDoorYWKept
import Derived.Test.YtjfclkbdkafkcaaGreatDoorYWShare
import Derived.Test.YtjfclkbdkafkcaaGreatDoorYWN
import Derived.Test.YtjfclkbdkafkcaaGreatDoorYWFootNe
import Derived.Test.YtjfclkbdkafkcaaGreatDoorYWAt
import Derived.Test.YtjfclkbdkafkcaaGreatDoorYWEqStruct
import Derived.Test.YtjfclkbdkafkcaaGreatDoorYWRepsOne
import Derived.Test.YtjfclkbdkafkcaaGreatDoorYWInv
import Derived.Test.YtjfclkbdkafkcaaGreatDoorYWInvWords
import Derived.Test.YtjfclkbdkafkcaaGreatDoorYWGuard
import Derived.Test.YtjfclkbdkafkcaaGreatDoorYWNEv
import Derived.Test.YtjfclkbdkafkcaaGreatDoorYWMore
namespace Go.Proofs.YtjfclkbdkafkcaaGreatDoor.PF
open Go.RowKit Go.Proofs.YtjfclkbdkafkcaaGreatDoorW.PrintWords Go.Proofs.YtjfclkbdkafkcaaGreatDoorW.PrintLast Go.Proofs.YtjfclkbdkafkcaaGreatDoorW.PrintMore
attribute [local go_sem] max2_int min2_int max_two min_two max_three min_three max_four min_four   -- for this text's walks alone
set_option linter.unusedVariables false
set_option linter.unusedSimpArgs false

def errW : Option Int → Value
  | none => .nilIface
  | some c => .iface 0 (.int .i64 c)
theorem errW_none : errW none = .nilIface := rfl
theorem errW_some (c : Int) : errW (some c) = .iface 0 (.int .i64 c) := rfl

theorem info3 : (Tryz.prog.info? 3).map (fun i => (i.zero, i.size, i.bytes)) = some (some (.int .i64 0), 1, 8) := by kernel_rfl
theorem info113 : (Tryz.prog.info? 113).map (fun i => (i.zero, i.size, i.bytes)) = some (some (.int .u64 0), 1, 8) := by kernel_rfl
-- the values' own types
/-! #### struct type 24 -/
structure S24 where
  f0 : ByteArray
  f1 : ByteArray
def z24 : S24 := ⟨(⟨#[]⟩ : ByteArray), (⟨#[]⟩ : ByteArray)⟩
def k24 : Kd S24 := Kd.iso (Kd.pair Kd.string Kd.string) (fun x : S24 => (x.f0, x.f1))
def rd_T24 (xs : List S24) (i : Int) : S24 := xs.getD i.toNat z24
def rd_L3 (xs : List (List S24)) (i : Int) : (List S24) := xs.getD i.toNat ([] : List S24)
end Go.Proofs.YtjfclkbdkafkcaaGreatDoor.PF
