/-
  Part 10 of the proof: K60.
-/
import Derived.Test.YtjfclkbdkafkcaaGreatDoorYZ6
import Derived.Test.YtjfclkbdkafkcaaGreatDoorYZ9
set_option linter.unusedVariables false
set_option linter.unusedSimpArgs false
namespace Go.Proofs.CW
open Go.RowKit Go.Shelf Go.Sort Go.Lib Go.Proofs.YtjfclkbdkafkcaaGreatDoorW.PrintWords Go.Proofs.YtjfclkbdkafkcaaGreatDoor.PF
attribute [local go_sem] Oper.semAt_some

/-- What is short has sizes that the reference is looked at. -/
theorem sz_of {a b : PS} (h : shortB 610 [a, b] = true) : Sz a ∧ Sz b := by
  unfold shortB at h
  simp only [List.all_cons, List.all_nil, Bool.and_true, Bool.and_eq_true, decide_eq_true_eq] at h
  exact ⟨⟨by omega, by omega⟩, ⟨by omega, by omega⟩⟩
set_option maxRecDepth 100000 in
set_option maxHeartbeats 1000000 in
theorem same_calls (p : PS) (x : Int) (w : World) :
    Calls Tryz.prog 22 #[pv p, .int .i64 x, pv p, .int .i64 x] w fun e W => e = .returned (.bool true) ∧ Below w.heap.size w W := by
  obtain ⟨s, t⟩ := p
  have P0 := ((PBs.nil w).box s t).box s t
  simp only [World.size_alloc] at P0
  have HB := Lib.hid (show Below w.heap.size w ((w.alloc (.cells #[.string s, .string t] 24)).alloc (.cells #[.string s, .string t] 24)) from ((Below.refl _ w).alloc (Nat.le_refl _) _).alloc (by simp) _)
  clear P0
  simp only [pv_eq]
  go_enter Tryz.func22, Tryz.ntmps22
  go_wp2_with fail
  go_ret
  exact ⟨rfl, HB.out⟩