/-
  For every two parts, WeightSums answers true, and each argument reads behind the call as it read before. Condition: the listed package-level variables hold what their initialisers lay (the row's own list).
-/
import Derived.Test.YtjfclkbdkafkcaaGreatDoorYZ7
import Derived.Test.YtjfclkbdkafkcaaGreatDoorYZ14
set_option linter.unusedVariables false
set_option linter.unusedSimpArgs false
/-
  For every two parts, WeightSums answers true, and each argument reads behind the call as it read before. Condition: the listed package-level variables hold what their initialisers lay (the row's own list).
-/
namespace Go.Proofs.YtjfclkbdkafkcaaGreatDoor
open Go.ChangeShapes Go.WideShapes Go.ChangeAt Go.RowKit Go.Proofs.CW
set_option maxRecDepth 100000

theorem sums_contract (H : Type) (enc : TypeId × Value → H) (W : World) (base : Nat) (args : Array Value) (ds gs : List (DataW H)) (before : List MemPlace)
    (hval : ∀ (j : Nat) t v, Tryz.f10.params[j]? = some t → args[j]? = some v → Value.okWide Tryz.prog W .any base t v)
    (hW : DataW.Whole enc Tryz.prog Tryz.f10.params.toList Rows.weightSumsSpec.vars false W args.toList ds gs before) (hL : laidMetH Tryz.prog Rows.weightSumsRow.laid W) :
    Calls Tryz.prog 10 args W fun e W' => ∃ v, e = .returned v ∧ Rows.weightSumsSpec.post enc Tryz.prog Tryz.f10 false true false false W args v W' := by
  have hW' := hW
  obtain ⟨p, q, hA0, hV, rfl, hfz, hnd⟩ := hW
  have hA : DataW.TrodAll enc Tryz.prog W 0 (fun _ => true) true Tryz.f10.params.toList args.toList ds p := hA0
  rw [Tryz.params10] at hA hval
  obtain ⟨v0, vs0, d0, ds0, p0, q0, hargs, rfl, rfl, h0, r0⟩ := trodAll_cons hA
  obtain ⟨v1, vs1, d1, ds1, p1, q1, rfl, rfl, rfl, h1, r1⟩ := trodAll_cons r0
  obtain ⟨rfl, rfl, rfl⟩ := trodAll_nil r1
  obtain rfl : args = #[v0, v1] := by cases args; simp_all
  obtain ⟨rfl, rfl⟩ := trodVars_none hV
  obtain ⟨a, rfl, sa⟩ := open_part (hval 0 24 v0 rfl rfl)
  obtain ⟨b, rfl, sb⟩ := open_part (hval 1 24 v1 rfl rfl)
  have hlt := fun x hx => hW'.lt x hx
  refine (sums_walk a b sa sb W (tab_of hL)).mono fun e W' ⟨he, hb⟩ => ?_
  subst he
  have k0 := Below.trod laidOut (by kernel_rfl) (of_decide_eq_true (by kernel_rfl)) h0 hb (fun x hx => hlt x (by simp [hx]))
  have k1 := Below.trod laidOut (by kernel_rfl) (of_decide_eq_true (by kernel_rfl)) h1 hb (fun x hx => hlt x (by simp [hx]))
  exact ⟨_, rfl, _, _, _, _, _, [], hW', trodAll_cons_mk (shut_bool Tryz.underlying4 _) trodAll_mk0, trodAll_cons_mk k0 (trodAll_cons_mk k1 trodAll_mk0), rfl, hb.frame _, fun h => by cases h⟩

theorem sums_reads (os : Os) {H : Type} (enc : TypeId × Value → H) : ∃ places, DataW.whole enc Tryz.prog ((laidWorld os).forCall (fun _ _ => 0) ⟨#[], #[pv (⟨#[]⟩, ⟨#[]⟩), pv (⟨#[]⟩, ⟨#[]⟩)], []⟩).memory Tryz.f10.params.toList Rows.weightSumsSpec.vars false #[pv (⟨#[]⟩, ⟨#[]⟩), pv (⟨#[]⟩, ⟨#[]⟩)].toList 8 =
    some ([.agg [.lit (.string []), .lit (.string [])], .agg [.lit (.string []), .lit (.string [])]], [], places) :=
  ⟨[], by kernel_rfl⟩
theorem sums_lifted (os : Os) (started : os.Started) (H : Type) (enc : TypeId × Value → H) (F : Stop.Interp) :
    ReturnsInHanded {} Tryz.checked os 10 .any ((OpenSpec.ofChange Rows.weightSumsSpec).preRow enc Tryz.prog Tryz.f10 Rows.weightSumsRow.domain false Rows.weightSumsRow.laid) (((OpenSpec.ofChange Rows.weightSumsSpec).at F).post enc Tryz.prog Tryz.f10 false true false false) := by
  obtain ⟨places, hx⟩ := sums_reads os enc
  refine returnsInHanded_of_row (C := Tryz.checked) (s := OpenSpec.ofChange Rows.weightSumsSpec) own started (by kernel_rfl) Tryz.func10
    (witness_row_at (enc := enc) (C := Tryz.checked) false (laidWorld os) #[pv (⟨#[]⟩, ⟨#[]⟩), pv (⟨#[]⟩, ⟨#[]⟩)] rfl (by kernel_rfl) (by kernel_rfl) (by kernel_rfl)
      (OpenSpec.preRow_of_cond 8 hx (by kernel_rfl) (fun k hk => by cases hk) (by kernel_rfl) (laid_met os _))) ?_
  intro W base args ds gs before hval hW _ _ _ hL _ _
  exact sums_contract H enc W base args ds gs before hval hW hL
theorem sums_said : Rows.WeightSumsSaid :=
  OpenClaim.holds_of_cond 10 Tryz.f10 rfl rfl rfl rfl rfl rfl rfl ⟨rfl, rfl, rfl, rfl, rfl⟩ rfl rfl rfl rfl rfl (by kernel_rfl) Tryz.func10 (by kernel_rfl)
    (of_decide_eq_true (by kernel_rfl)) (by unfold Func.isWrapper; first | (rw [if_pos (by decide +kernel)]; kernel_rfl) | (rw [if_neg (by decide +kernel)]; exact ⟨rfl, rfl⟩))
    (fun os started H enc _ F => by rw [OpenClaim.pre_eq_preRow]; exact sums_lifted os started H enc F)
/-- No parameter wants a stand-in; the program's own looks are off. -/
theorem sums_plain (f : FuncId) (fn : Func) (hf : Tryz.pinned.checked.prog.funcNamed "cresset/cressetlaw01.WeightSums" = some f) (hfn : Tryz.pinned.checked.prog.funcs[f]? = some fn) :
    true = Tryz.pinned.checked.prog.looks [] ∧ ∀ (j : Nat) t, fn.params[j]? = some t → Tryz.pinned.checked.prog.wantsStandIn t = false := by
  obtain rfl : f = 10 := Option.some.inj ((show Tryz.prog.funcNamed "cresset/cressetlaw01.WeightSums" = some 10 by kernel_rfl).symm.trans hf) |>.symm
  obtain rfl : fn = Tryz.f10 := (Option.some.inj (Tryz.func10.symm.trans hfn)).symm
  refine ⟨by kernel_rfl, fun j t ht => ?_⟩
  rw [Tryz.params10] at ht
  obtain rfl : t = 24 := by simpa using Array.mem_of_getElem? ht
  exact (show Tryz.prog.wantsStandIn 24 = false by kernel_rfl)
/-- THE CARD. -/
theorem sums_card : Rows.WeightSumsCardSaid :=
  Claim7.holds_tied_plain_at .later [] _ _ _ _ sums_said (fun _ h => by cases h) (by kernel_rfl) (fun _ h => by cases h) weightSums_row_tie rfl ⟨rfl, rfl⟩ (by kernel_rfl) rfl sums_plain (by kernel_rfl)
end Go.Proofs.YtjfclkbdkafkcaaGreatDoor
