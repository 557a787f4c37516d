/-
  For every three parts, WeightOrders answers true, and each argument reads behind the call as it read before. Condition: the listed package-level variables hold what their initialisers lay (the row's own list).
-/
import Derived.Test.YtjfclkbdkafkcaaGreatDoorZ9
set_option linter.unusedVariables false
set_option linter.unusedSimpArgs false
/-
  For every three parts, WeightOrders answers true, and each argument reads behind the call as it read before. Condition: the listed package-level variables hold what their initialisers lay (the row's own list).
-/
namespace Go.Proofs.YtjfclkbdkafkcaaGreatDoor
open Go.ChangeShapes Go.WideShapes Go.ChangeAt Go.RowKit Go.Proofs.CW
set_option maxRecDepth 100000

theorem orders_contract (H : Type) (enc : TypeId × Value → H) (W : World) (base : Nat) (args : Array Value) (ds gs : List (DataW H)) (before : List MemPlace)
    (hval : ∀ (j : Nat) t v, Tryz.f9.params[j]? = some t → args[j]? = some v → Value.okWide Tryz.prog W .any base t v)
    (hW : DataW.Whole enc Tryz.prog Tryz.f9.params.toList Rows.weightOrdersSpec.vars false W args.toList ds gs before) (hL : laidMetH Tryz.prog Rows.weightOrdersRow.laid W) :
    Calls Tryz.prog 9 args W fun e W' => ∃ v, e = .returned v ∧ Rows.weightOrdersSpec.post enc Tryz.prog Tryz.f9 false true false false W args v W' := by
  have hW' := hW
  obtain ⟨p, q, hA0, hV, rfl, hfz, hnd⟩ := hW
  have hA : DataW.TrodAll enc Tryz.prog W 0 (fun _ => true) true Tryz.f9.params.toList args.toList ds p := hA0
  rw [Tryz.params9] at hA hval
  obtain ⟨v0, vs0, d0, ds0, p0, q0, hargs, rfl, rfl, h0, r0⟩ := trodAll_cons hA
  obtain ⟨v1, vs1, d1, ds1, p1, q1, rfl, rfl, rfl, h1, r1⟩ := trodAll_cons r0
  obtain ⟨v2, vs2, d2, ds2, p2, q2, rfl, rfl, rfl, h2, r2⟩ := trodAll_cons r1
  obtain ⟨rfl, rfl, rfl⟩ := trodAll_nil r2
  obtain rfl : args = #[v0, v1, v2] := by cases args; simp_all
  obtain ⟨rfl, rfl⟩ := trodVars_none hV
  obtain ⟨a, rfl, sa⟩ := open_part (hval 0 24 v0 rfl rfl)
  obtain ⟨b, rfl, sb⟩ := open_part (hval 1 24 v1 rfl rfl)
  obtain ⟨c, rfl, sc⟩ := open_part (hval 2 24 v2 rfl rfl)
  have hlt := fun x hx => hW'.lt x hx
  refine (orders_walk a b c sa sb sc W (tab_of hL)).mono fun e W' ⟨he, hb⟩ => ?_
  subst he
  have k0 := Below.trod laidOut (by kernel_rfl) (of_decide_eq_true (by kernel_rfl)) h0 hb (fun x hx => hlt x (by simp [hx]))
  have k1 := Below.trod laidOut (by kernel_rfl) (of_decide_eq_true (by kernel_rfl)) h1 hb (fun x hx => hlt x (by simp [hx]))
  have k2 := Below.trod laidOut (by kernel_rfl) (of_decide_eq_true (by kernel_rfl)) h2 hb (fun x hx => hlt x (by simp [hx]))
  exact ⟨_, rfl, _, _, _, _, _, [], hW', trodAll_cons_mk (shut_bool Tryz.underlying4 _) trodAll_mk0, trodAll_cons_mk k0 (trodAll_cons_mk k1 (trodAll_cons_mk k2 trodAll_mk0)), rfl, hb.frame _, fun h => by cases h⟩

theorem orders_reads (os : Os) {H : Type} (enc : TypeId × Value → H) : ∃ places, DataW.whole enc Tryz.prog ((laidWorld os).forCall (fun _ _ => 0) ⟨#[], #[pv (⟨#[]⟩, ⟨#[]⟩), pv (⟨#[]⟩, ⟨#[]⟩), pv (⟨#[]⟩, ⟨#[]⟩)], []⟩).memory Tryz.f9.params.toList Rows.weightOrdersSpec.vars false #[pv (⟨#[]⟩, ⟨#[]⟩), pv (⟨#[]⟩, ⟨#[]⟩), pv (⟨#[]⟩, ⟨#[]⟩)].toList 8 =
    some ([.agg [.lit (.string []), .lit (.string [])], .agg [.lit (.string []), .lit (.string [])], .agg [.lit (.string []), .lit (.string [])]], [], places) :=
  ⟨[], by kernel_rfl⟩
theorem orders_lifted (os : Os) (started : os.Started) (H : Type) (enc : TypeId × Value → H) (F : Stop.Interp) :
    ReturnsInHanded {} Tryz.checked os 9 .any ((OpenSpec.ofChange Rows.weightOrdersSpec).preRow enc Tryz.prog Tryz.f9 Rows.weightOrdersRow.domain false Rows.weightOrdersRow.laid) (((OpenSpec.ofChange Rows.weightOrdersSpec).at F).post enc Tryz.prog Tryz.f9 false true false false) := by
  obtain ⟨places, hx⟩ := orders_reads os enc
  refine returnsInHanded_of_row (C := Tryz.checked) (s := OpenSpec.ofChange Rows.weightOrdersSpec) own started (by kernel_rfl) Tryz.func9
    (witness_row_at (enc := enc) (C := Tryz.checked) false (laidWorld os) #[pv (⟨#[]⟩, ⟨#[]⟩), pv (⟨#[]⟩, ⟨#[]⟩), pv (⟨#[]⟩, ⟨#[]⟩)] rfl (by kernel_rfl) (by kernel_rfl) (by kernel_rfl)
      (OpenSpec.preRow_of_cond 8 hx (by kernel_rfl) (fun k hk => by cases hk) (by kernel_rfl) (laid_met os _))) ?_
  intro W base args ds gs before hval hW _ _ _ hL _ _
  exact orders_contract H enc W base args ds gs before hval hW hL
theorem orders_said : Rows.WeightOrdersSaid :=
  OpenClaim.holds_of_cond 9 Tryz.f9 rfl rfl rfl rfl rfl rfl rfl ⟨rfl, rfl, rfl, rfl, rfl⟩ rfl rfl rfl rfl rfl (by kernel_rfl) Tryz.func9 (by kernel_rfl)
    (of_decide_eq_true (by kernel_rfl)) (by unfold Func.isWrapper; first | (rw [if_pos (by decide +kernel)]; kernel_rfl) | (rw [if_neg (by decide +kernel)]; exact ⟨rfl, rfl⟩))
    (fun os started H enc _ F => by rw [OpenClaim.pre_eq_preRow]; exact orders_lifted os started H enc F)
/-- No parameter wants a stand-in; the program's own looks are off. -/
theorem orders_plain (f : FuncId) (fn : Func) (hf : Tryz.pinned.checked.prog.funcNamed "cresset/cressetlaw01.WeightOrders" = some f) (hfn : Tryz.pinned.checked.prog.funcs[f]? = some fn) :
    true = Tryz.pinned.checked.prog.looks [] ∧ ∀ (j : Nat) t, fn.params[j]? = some t → Tryz.pinned.checked.prog.wantsStandIn t = false := by
  obtain rfl : f = 9 := Option.some.inj ((show Tryz.prog.funcNamed "cresset/cressetlaw01.WeightOrders" = some 9 by kernel_rfl).symm.trans hf) |>.symm
  obtain rfl : fn = Tryz.f9 := (Option.some.inj (Tryz.func9.symm.trans hfn)).symm
  refine ⟨by kernel_rfl, fun j t ht => ?_⟩
  rw [Tryz.params9] at ht
  obtain rfl : t = 24 := by simpa using Array.mem_of_getElem? ht
  exact (show Tryz.prog.wantsStandIn 24 = false by kernel_rfl)
/-- THE CARD. -/
theorem orders_card : Rows.WeightOrdersCardSaid :=
  Claim7.holds_tied_plain_at .later [] _ _ _ _ orders_said (fun _ h => by cases h) (by kernel_rfl) (fun _ h => by cases h) weightOrders_row_tie rfl ⟨rfl, rfl⟩ (by kernel_rfl) rfl orders_plain (by kernel_rfl)
end Go.Proofs.YtjfclkbdkafkcaaGreatDoor
