/-
  For every three lists of parts, WeightBayes answers true, and each argument reads behind the call as it read before. Condition: the listed package-level variables hold what their initialisers lay (the row's own list).
-/
import Derived.Test.YtjfclkbdkafkcaaGreatDoorZ9
set_option linter.unusedVariables false
set_option linter.unusedSimpArgs false
/-
  For every three lists of parts, WeightBayes answers true, and each argument reads behind the call as it read before. Condition: the listed package-level variables hold what their initialisers lay (the row's own list).
-/
namespace Go.Proofs.YtjfclkbdkafkcaaGreatDoor
open Go.ChangeShapes Go.WideShapes Go.ChangeAt Go.RowKit Go.Proofs.CW Go.Proofs.YtjfclkbdkafkcaaGreatDoorW.PrintWords
set_option maxRecDepth 100000

theorem tab_bayes {W : World} (h : laidMetH Tryz.prog Rows.weightBayesRow.laid W) : Tab W := tab_of h
theorem bayes_contract (H : Type) (enc : TypeId × Value → H) (W : World) (base : Nat) (args : Array Value) (ds gs : List (DataW H)) (before : List MemPlace)
    (hval : ∀ (j : Nat) t v, Tryz.f5.params[j]? = some t → args[j]? = some v → Value.okWide Tryz.prog W .any base t v)
    (hW : DataW.Whole enc Tryz.prog Tryz.f5.params.toList Rows.weightBayesSpec.vars false W args.toList ds gs before) (hL : laidMetH Tryz.prog Rows.weightBayesRow.laid W) :
    Calls Tryz.prog 5 args W fun e W' => ∃ v, e = .returned v ∧ Rows.weightBayesSpec.post enc Tryz.prog Tryz.f5 false true false false W args v W' := by
  have hW' := hW
  obtain ⟨p, q, hA0, hV, rfl, hfz, hnd⟩ := hW
  have hA : DataW.TrodAll enc Tryz.prog W 0 (fun _ => true) true Tryz.f5.params.toList args.toList ds p := hA0
  rw [Tryz.params5] at hA hval
  obtain ⟨v0, vs0, d0, ds0, p0, q0, hargs, rfl, rfl, h0, r0⟩ := trodAll_cons hA
  obtain ⟨v1, vs1, d1, ds1, p1, q1, rfl, rfl, rfl, h1, r1⟩ := trodAll_cons r0
  obtain ⟨v2, vs2, d2, ds2, p2, q2, rfl, rfl, rfl, h2, r2⟩ := trodAll_cons r1
  obtain ⟨rfl, rfl, rfl⟩ := trodAll_nil r2
  obtain rfl : args = #[v0, v1, v2] := by cases args; simp_all
  obtain ⟨rfl, rfl⟩ := trodVars_none hV
  have k0 := h0
  have k1 := h1
  have k2 := h2
  obtain ⟨A, la, ca, rfl, sa, hla, _, hca⟩ := open_parts (hval 0 34 v0 rfl rfl) h0
  obtain ⟨B, lb, cb, rfl, sb, hlb, _, hcb⟩ := open_parts (hval 1 34 v1 rfl rfl) h1
  obtain ⟨C, lc, cc, rfl, sc, hlc, _, hcc⟩ := open_parts (hval 2 34 v2 rfl rfl) h2
  have hlt := fun x hx => hW'.lt x hx
  refine (bayes_walk A B C ca cb cc la lb lc sa sb sc hla hlb hlc W (tab_bayes hL) hca hcb hcc).mono fun e W' ⟨he, hb⟩ => ?_
  subst he
  have k0 := Below.trod laidOut (by kernel_rfl) (of_decide_eq_true (by kernel_rfl)) k0 hb (fun x hx => hlt x (by simp [hx]))
  have k1 := Below.trod laidOut (by kernel_rfl) (of_decide_eq_true (by kernel_rfl)) k1 hb (fun x hx => hlt x (by simp [hx]))
  have k2 := Below.trod laidOut (by kernel_rfl) (of_decide_eq_true (by kernel_rfl)) k2 hb (fun x hx => hlt x (by simp [hx]))
  exact ⟨_, rfl, _, _, _, _, _, [], hW', trodAll_cons_mk (shut_bool Tryz.underlying4 _) trodAll_mk0, trodAll_cons_mk k0 (trodAll_cons_mk k1 (trodAll_cons_mk k2 trodAll_mk0)), rfl, hb.frame _, fun h => by cases h⟩

theorem bayes_reads (os : Os) {H : Type} (enc : TypeId × Value → H) : ∃ places, DataW.whole enc Tryz.prog ((laidWorld os).forCall (fun _ _ => 0) ⟨#[], #[.slice none 0 0, .slice none 0 0, .slice none 0 0], []⟩).memory Tryz.f5.params.toList Rows.weightBayesSpec.vars false #[.slice none 0 0, .slice none 0 0, .slice none 0 0].toList 8 =
    some ([.nil, .nil, .nil], [], places) :=
  ⟨[], by kernel_rfl⟩
theorem bayes_lifted (os : Os) (started : os.Started) (H : Type) (enc : TypeId × Value → H) (F : Stop.Interp) :
    ReturnsInHanded {} Tryz.checked os 5 .any ((OpenSpec.ofChange Rows.weightBayesSpec).preRow enc Tryz.prog Tryz.f5 Rows.weightBayesRow.domain false Rows.weightBayesRow.laid) (((OpenSpec.ofChange Rows.weightBayesSpec).at F).post enc Tryz.prog Tryz.f5 false true false false) := by
  obtain ⟨places, hx⟩ := bayes_reads os enc
  refine returnsInHanded_of_row (C := Tryz.checked) (s := OpenSpec.ofChange Rows.weightBayesSpec) own started (by kernel_rfl) Tryz.func5
    (witness_row_at (enc := enc) (C := Tryz.checked) false (laidWorld os) #[.slice none 0 0, .slice none 0 0, .slice none 0 0] rfl (by kernel_rfl) (by kernel_rfl) (by kernel_rfl)
      (OpenSpec.preRow_of_cond 8 hx (by kernel_rfl) (fun k hk => by cases hk) (by kernel_rfl) (laid_met os _))) ?_
  intro W base args ds gs before hval hW _ _ _ hL _ _
  exact bayes_contract H enc W base args ds gs before hval hW hL
theorem bayes_said : Rows.WeightBayesSaid :=
  OpenClaim.holds_of_cond 5 Tryz.f5 rfl rfl rfl rfl rfl rfl rfl ⟨rfl, rfl, rfl, rfl, rfl⟩ rfl rfl rfl rfl rfl (by kernel_rfl) Tryz.func5 (by kernel_rfl)
    (of_decide_eq_true (by kernel_rfl)) (by unfold Func.isWrapper; first | (rw [if_pos (by decide +kernel)]; kernel_rfl) | (rw [if_neg (by decide +kernel)]; exact ⟨rfl, rfl⟩))
    (fun os started H enc _ F => by rw [OpenClaim.pre_eq_preRow]; exact bayes_lifted os started H enc F)
/-- No parameter wants a stand-in; the program's own looks are off. -/
theorem bayes_plain (f : FuncId) (fn : Func) (hf : Tryz.pinned.checked.prog.funcNamed "cresset/cressetlaw01.WeightBayes" = some f) (hfn : Tryz.pinned.checked.prog.funcs[f]? = some fn) :
    true = Tryz.pinned.checked.prog.looks [] ∧ ∀ (j : Nat) t, fn.params[j]? = some t → Tryz.pinned.checked.prog.wantsStandIn t = false := by
  obtain rfl : f = 5 := Option.some.inj ((show Tryz.prog.funcNamed "cresset/cressetlaw01.WeightBayes" = some 5 by kernel_rfl).symm.trans hf) |>.symm
  obtain rfl : fn = Tryz.f5 := (Option.some.inj (Tryz.func5.symm.trans hfn)).symm
  refine ⟨by kernel_rfl, fun j t ht => ?_⟩
  rw [Tryz.params5] at ht
  obtain rfl : t = 34 := by simpa using Array.mem_of_getElem? ht
  exact (show Tryz.prog.wantsStandIn 34 = false by kernel_rfl)
/-- THE CARD. -/
theorem bayes_card : Rows.WeightBayesCardSaid :=
  Claim7.holds_tied_plain_at .later [] _ _ _ _ bayes_said (fun _ h => by cases h) (by kernel_rfl) (fun _ h => by cases h) weightBayes_row_tie rfl ⟨rfl, rfl⟩ (by kernel_rfl) rfl bayes_plain (by kernel_rfl)
end Go.Proofs.YtjfclkbdkafkcaaGreatDoor
