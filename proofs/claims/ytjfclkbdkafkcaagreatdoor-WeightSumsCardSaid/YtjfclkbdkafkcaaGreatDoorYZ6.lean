/-
  Part 6 of the proof: K44h.
-/
import Derived.Test.YtjfclkbdkafkcaaGreatDoorYZ4
import Derived.Test.YtjfclkbdkafkcaaGreatDoorYZ5
set_option linter.unusedVariables false
set_option linter.unusedSimpArgs false
namespace Go.Proofs.CW
open Go.RowKit Go.Shelf Go.Sort Go.Lib Go.Proofs.YtjfclkbdkafkcaaGreatDoorW.PrintWords Go.Proofs.YtjfclkbdkafkcaaGreatDoor.PF
attribute [local go_sem] Oper.semAt_some

/-- Parts in boxes. -/
def PBs (W : World) (L : List (Nat × PS)) : Prop := ∀ q ∈ L, PB W q.1 q.2
theorem PBs.below {W W' : World} {L : List (Nat × PS)} (h : PBs W L) (hb : Below W.heap.size W W') : PBs W' L := fun q hq => (h q hq).below hb
theorem PBs.box {W : World} {L : List (Nat × PS)} (h : PBs W L) (s t : ByteArray) : PBs (W.alloc (.cells #[.string s, .string t] 24)) (L ++ [(W.heap.size, (s, t))]) := fun q hq => by
  rcases List.mem_append.1 hq with hq | hq
  · exact (h q hq).alloc _
  · simp at hq; subst hq; exact PB.new W s t
theorem PBs.at {W : World} {L : List (Nat × PS)} (h : PBs W L) {i N : Nat} {p : PS} (hi : L[i]? = some (N, p)) : PB W N p := h _ (List.mem_of_getElem? hi)
theorem PBs.nil (W : World) : PBs W [] := fun q hq => by cases hq
theorem rv_eq (s t : ByteArray) (x : Int) : rv ((s, t), x) = .tuple #[.agg #[.string s, .string t], .int .i64 x] := rfl
theorem pv_eq (s t : ByteArray) : pv (s, t) = .agg #[.string s, .string t] := rfl
end Go.Proofs.CW
