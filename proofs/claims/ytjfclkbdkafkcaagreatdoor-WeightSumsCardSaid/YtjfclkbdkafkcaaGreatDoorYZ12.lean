/-
  Part 12 of the proof: RC6.
-/
import Derived.Test.YtjfclkbdkafkcaaGreatDoorYZ9
import Derived.Test.YtjfclkbdkafkcaaGreatDoorYZ11
set_option linter.unusedVariables false
set_option linter.unusedSimpArgs false
namespace Go.Proofs.CW
open Go.RowKit Go.Shelf Go.Sort Go.Lib Go.Proofs.YtjfclkbdkafkcaaGreatDoorW.PrintWords Go.Proofs.YtjfclkbdkafkcaaGreatDoor.PF
attribute [local go_sem] Oper.semAt_some

theorem rplus_calls (u v : Value) (a b : Nat) (w : World) (ha : RNum w u a) (hb : RNum w v b) (fa : RFit 2500 a) (fb : RFit 2500 b) :
    Calls Tryz.prog 93 #[u, v] w fun e W => RBack w e (a + b) W := by
  obtain ⟨xs, A, c, rfl, c1, r1, _, l1, n1, v1, k1⟩ := ha.len fa.out
  obtain ⟨ys, B, d, rfl, c2, r2, _, l2, n2, v2, k2⟩ := hb.len fb.out
  obtain ⟨r, hev, h1, h2, h3, h4⟩ := rplus_ev xs ys l1 l2 n1 n2 (by omega)
  obtain ⟨k, hk⟩ := hev.rounds
  refine (cressetref01_plus.calls k A c xs B d ys r w r1 c1 r2 c2 hk).mono ?_
  rintro e W ⟨x, rfl, g1, g2⟩
  exact rback (base := 0) ⟨x, rfl, Kd.R_V g1, g2⟩ h1 h2 (by omega) (by omega)
set_option maxRecDepth 100000 in
set_option maxHeartbeats 2000000 in
theorem radd_calls (a b : PS) (sa : Sz a) (sb : Sz b) (w : World) :
    Calls Tryz.prog 38 #[pv a, pv b] w fun e W => e = .returned (rv (addR a b)) ∧ Below w.heap.size w W := by
  obtain ⟨an, ad⟩ := a
  obtain ⟨bn, bd⟩ := b
  have HT := Lib.hid (And.intro sa sb)
  have h0 := BoxP.new w (an, ad) (bn, bd)
  obtain ⟨N, hN⟩ : ∃ N, w.heap.size = N := ⟨_, rfl⟩
  simp only [hN] at h0
  clear sa sb
  go_enter Tryz.func38, Tryz.ntmps38
  go_wp2_with fail
  obtain ⟨W0, hW0⟩ : ∃ W0, (((w.alloc (.cells #[.string an, .string ad] 24)).alloc (.cells #[.string bn, .string bd] 24)).alloc (.cells #[.string ⟨#[]⟩, .string ⟨#[]⟩] 24)) = W0 := ⟨_, rfl⟩
  rw [hW0] at h0 ⊢
  have H0 := Lib.hid h0
  clear h0 hW0
  refine (both_calls (an, ad) (bn, bd) HT.out.1 HT.out.2 W0).mono ?_
  rintro e W1 ⟨rfl, hb⟩
  have HX := Lib.hid (H0.out.below hb)
  clear hb H0
  by_cases hok : okP (an, ad) = true ∧ okP (bn, bd) = true
  case neg =>
    have HE := Lib.hid (addR_no (a := (an, ad)) (b := (bn, bd)) hok)
    rw [bothR_no hok]
    clear hok
    obtain ⟨q1, q2, q3, q4⟩ := HX.out.r
    go_wp2_with fail
    have hn := HX.out.nw
    refine bodyPost_ret (results_pb rfl _ rfl (HX.out.res.set _ _)) rfl ⟨by rw [HE.out]; rfl, ?_⟩
    first | exact box3_set HX.out.bel hn | exact box3_setN HX.out.bel hn
  rw [bothR_ok hok.1 hok.2]
  have HO := Lib.hid hok
  clear hok

  go_wp2_with fail
  obtain ⟨W2, hW2⟩ : ∃ V, W1.drew = V := ⟨_, rfl⟩
  have hS : BoxPS N (an, ad) (bn, bd) W1.drew := HX.out.s
  have hx := HX.out.drew
  refine region_tail (m := 7) (BoxPS N (an, ad) (bn, bd)) 7 1 (by kernel_rfl) rfl ?_
  rw [hW2] at hS hx ⊢
  clear HX
  have HX := Lib.hid hx
  clear hx
  clear hW2
  refine T_take 0 _ _ rfl rfl (by kernel_rfl) (by kernel_rfl) (by kernel_rfl) (fun _ _ d _ _ h => by cases d <;> exact h) (by kernel_rfl) tail_only hS (by kernel_rfl) (fun W hW => by obtain ⟨zs1, zs2, zs3, zs4⟩ := hW; go_simp; try exact rfl) ?_
  try simp only [List.setIfInBounds_toArray, List.set_cons_zero, List.set_cons_succ]
  refine T_take 1 _ _ rfl rfl (by kernel_rfl) (by kernel_rfl) (by kernel_rfl) (fun _ _ d _ _ h => by cases d <;> exact h) (by kernel_rfl) tail_only hS (by kernel_rfl) (fun W hW => by obtain ⟨zs1, zs2, zs3, zs4⟩ := hW; go_simp; try exact rfl) ?_
  try simp only [List.setIfInBounds_toArray, List.set_cons_zero, List.set_cons_succ]
  refine T_take 3 _ _ rfl rfl (by kernel_rfl) (by kernel_rfl) (by kernel_rfl) (fun _ _ d _ _ h => by cases d <;> exact h) (by kernel_rfl) tail_only hS (by kernel_rfl) (fun W hW => by obtain ⟨zs1, zs2, zs3, zs4⟩ := hW; go_simp; try exact rfl) ?_
  try simp only [List.setIfInBounds_toArray, List.set_cons_zero, List.set_cons_succ]
  refine T_take 4 _ _ rfl rfl (by kernel_rfl) (by kernel_rfl) (by kernel_rfl) (fun _ _ d _ _ h => by cases d <;> exact h) (by kernel_rfl) tail_only hS (by kernel_rfl) (fun W hW => by obtain ⟨zs1, zs2, zs3, zs4⟩ := hW; go_simp; try exact rfl) ?_
  try simp only [List.setIfInBounds_toArray, List.set_cons_zero, List.set_cons_succ]
  refine T_only 2 (by kernel_rfl) rfl (by kernel_rfl) ?_
  unfold Oper.wp
  go_simp
  refine (rparts_calls an (okN_digits (okP_iff.1 HO.out.1).1.1) (Nat.le_trans (okN_size (okP_iff.1 HO.out.1).1.1) (by omega)) W2).mono ?_
  rintro e U1 ⟨A1, L1, C1, rfl, hu, hb⟩
  have hx := HX.out.below hb
  clear HX
  have HX := Lib.hid hx
  clear hx
  have HR1 := Lib.hid hu
  clear hb hu
  refine ⟨HX.out.s, ?_⟩
  try simp only [List.setIfInBounds_toArray, List.set_cons_zero, List.set_cons_succ]
  refine T_only 5 (by kernel_rfl) rfl (by kernel_rfl) ?_
  unfold Oper.wp
  go_simp
  refine (rparts_calls bd (okN_digits (okP_iff.1 HO.out.2).1.2) (Nat.le_trans (okN_size (okP_iff.1 HO.out.2).1.2) (by omega)) U1).mono ?_
  rintro e U2 ⟨A2, L2, C2, rfl, hu, hb⟩
  have hx := HX.out.below hb
  clear HX
  have HX := Lib.hid hx
  clear hx
  have hr := HR1.out.below hb
  clear HR1
  have HR1 := Lib.hid hr
  clear hr
  have HR2 := Lib.hid hu
  clear hb hu
  refine ⟨HX.out.s, ?_⟩
  try simp only [List.setIfInBounds_toArray, List.set_cons_zero, List.set_cons_succ]
  refine T_only 6 (by kernel_rfl) rfl (by kernel_rfl) ?_
  unfold Oper.wp
  go_simp
  refine (rtimes_calls (.slice A1 L1 C1) (.slice A2 L2 C2) _ _ U2 HR1.out HR2.out ((rfit_nval (okP_iff.1 HO.out.1).1.1).up (by omega)) ((rfit_nval (okP_iff.1 HO.out.2).1.2).up (by omega))).mono ?_
  rintro e U3 ⟨A3, L3, C3, rfl, hu, hb⟩
  have hx := HX.out.below hb
  clear HX
  have HX := Lib.hid hx
  clear hx
  have hr := HR1.out.below hb
  clear HR1
  have HR1 := Lib.hid hr
  clear hr
  have hr := HR2.out.below hb
  clear HR2
  have HR2 := Lib.hid hr
  clear hr
  have HR3 := Lib.hid hu
  clear hb hu
  refine ⟨HX.out.s, by kernel_rfl, ?_⟩
  try simp only [List.setIfInBounds_toArray, List.set_cons_zero, List.set_cons_succ]
  refine any_only 7 (by kernel_rfl) rfl (by kernel_rfl) ?_
  unfold Oper.wp
  go_simp
  refine any_done (by kernel_rfl) ?_
  clear hS
  go_wp2_with fail
  obtain ⟨W3, hW3⟩ : ∃ V, U3.drew = V := ⟨_, rfl⟩
  have hS : BoxPS N (an, ad) (bn, bd) U3.drew := HX.out.s
  have hx := HX.out.drew
  refine region_tail (m := 7) (BoxPS N (an, ad) (bn, bd)) 7 1 (by kernel_rfl) rfl ?_
  rw [hW3] at hS hx ⊢
  clear HX
  have HX := Lib.hid hx
  clear hx
  have hr := hW3 ▸ HR1.out.drew
  clear HR1
  have HR1 := Lib.hid hr
  clear hr
  have hr := hW3 ▸ HR2.out.drew
  clear HR2
  have HR2 := Lib.hid hr
  clear hr
  have hr := hW3 ▸ HR3.out.drew
  clear HR3
  have HR3 := Lib.hid hr
  clear hr
  clear hW3
  refine T_take 0 _ _ rfl rfl (by kernel_rfl) (by kernel_rfl) (by kernel_rfl) (fun _ _ d _ _ h => by cases d <;> exact h) (by kernel_rfl) tail_only hS (by kernel_rfl) (fun W hW => by obtain ⟨zs1, zs2, zs3, zs4⟩ := hW; go_simp; try exact rfl) ?_
  try simp only [List.setIfInBounds_toArray, List.set_cons_zero, List.set_cons_succ]
  refine T_take 1 _ _ rfl rfl (by kernel_rfl) (by kernel_rfl) (by kernel_rfl) (fun _ _ d _ _ h => by cases d <;> exact h) (by kernel_rfl) tail_only hS (by kernel_rfl) (fun W hW => by obtain ⟨zs1, zs2, zs3, zs4⟩ := hW; go_simp; try exact rfl) ?_
  try simp only [List.setIfInBounds_toArray, List.set_cons_zero, List.set_cons_succ]
  refine T_take 3 _ _ rfl rfl (by kernel_rfl) (by kernel_rfl) (by kernel_rfl) (fun _ _ d _ _ h => by cases d <;> exact h) (by kernel_rfl) tail_only hS (by kernel_rfl) (fun W hW => by obtain ⟨zs1, zs2, zs3, zs4⟩ := hW; go_simp; try exact rfl) ?_
  try simp only [List.setIfInBounds_toArray, List.set_cons_zero, List.set_cons_succ]
  refine T_take 4 _ _ rfl rfl (by kernel_rfl) (by kernel_rfl) (by kernel_rfl) (fun _ _ d _ _ h => by cases d <;> exact h) (by kernel_rfl) tail_only hS (by kernel_rfl) (fun W hW => by obtain ⟨zs1, zs2, zs3, zs4⟩ := hW; go_simp; try exact rfl) ?_
  try simp only [List.setIfInBounds_toArray, List.set_cons_zero, List.set_cons_succ]
  refine T_only 2 (by kernel_rfl) rfl (by kernel_rfl) ?_
  unfold Oper.wp
  go_simp
  refine (rparts_calls bn (okN_digits (okP_iff.1 HO.out.2).1.1) (Nat.le_trans (okN_size (okP_iff.1 HO.out.2).1.1) (by omega)) W3).mono ?_
  rintro e U4 ⟨A4, L4, C4, rfl, hu, hb⟩
  have hx := HX.out.below hb
  clear HX
  have HX := Lib.hid hx
  clear hx
  have hr := HR1.out.below hb
  clear HR1
  have HR1 := Lib.hid hr
  clear hr
  have hr := HR2.out.below hb
  clear HR2
  have HR2 := Lib.hid hr
  clear hr
  have hr := HR3.out.below hb
  clear HR3
  have HR3 := Lib.hid hr
  clear hr
  have HR4 := Lib.hid hu
  clear hb hu
  refine ⟨HX.out.s, ?_⟩
  try simp only [List.setIfInBounds_toArray, List.set_cons_zero, List.set_cons_succ]
  refine T_only 5 (by kernel_rfl) rfl (by kernel_rfl) ?_
  unfold Oper.wp
  go_simp
  refine (rparts_calls ad (okN_digits (okP_iff.1 HO.out.1).1.2) (Nat.le_trans (okN_size (okP_iff.1 HO.out.1).1.2) (by omega)) U4).mono ?_
  rintro e U5 ⟨A5, L5, C5, rfl, hu, hb⟩
  have hx := HX.out.below hb
  clear HX
  have HX := Lib.hid hx
  clear hx
  have hr := HR1.out.below hb
  clear HR1
  have HR1 := Lib.hid hr
  clear hr
  have hr := HR2.out.below hb
  clear HR2
  have HR2 := Lib.hid hr
  clear hr
  have hr := HR3.out.below hb
  clear HR3
  have HR3 := Lib.hid hr
  clear hr
  have hr := HR4.out.below hb
  clear HR4
  have HR4 := Lib.hid hr
  clear hr
  have HR5 := Lib.hid hu
  clear hb hu
  refine ⟨HX.out.s, ?_⟩
  try simp only [List.setIfInBounds_toArray, List.set_cons_zero, List.set_cons_succ]
  refine T_only 6 (by kernel_rfl) rfl (by kernel_rfl) ?_
  unfold Oper.wp
  go_simp
  refine (rtimes_calls (.slice A4 L4 C4) (.slice A5 L5 C5) _ _ U5 HR4.out HR5.out ((rfit_nval (okP_iff.1 HO.out.2).1.1).up (by omega)) ((rfit_nval (okP_iff.1 HO.out.1).1.2).up (by omega))).mono ?_
  rintro e U6 ⟨A6, L6, C6, rfl, hu, hb⟩
  have hx := HX.out.below hb
  clear HX
  have HX := Lib.hid hx
  clear hx
  have hr := HR1.out.below hb
  clear HR1
  have HR1 := Lib.hid hr
  clear hr
  have hr := HR2.out.below hb
  clear HR2
  have HR2 := Lib.hid hr
  clear hr
  have hr := HR3.out.below hb
  clear HR3
  have HR3 := Lib.hid hr
  clear hr
  have hr := HR4.out.below hb
  clear HR4
  have HR4 := Lib.hid hr
  clear hr
  have hr := HR5.out.below hb
  clear HR5
  have HR5 := Lib.hid hr
  clear hr
  have HR6 := Lib.hid hu
  clear hb hu
  refine ⟨HX.out.s, by kernel_rfl, ?_⟩
  try simp only [List.setIfInBounds_toArray, List.set_cons_zero, List.set_cons_succ]
  refine any_only 7 (by kernel_rfl) rfl (by kernel_rfl) ?_
  unfold Oper.wp
  go_simp
  refine any_done (by kernel_rfl) ?_
  clear hS
  go_wp2_with fail
  obtain ⟨Y0, hY0⟩ : ∃ V, U6.drew = V := ⟨_, rfl⟩
  have hS : BoxPS N (an, ad) (bn, bd) U6.drew := HX.out.s
  have hx := HX.out.drew
  refine region_tail (m := 14) (BoxPS N (an, ad) (bn, bd)) 14 1 (by kernel_rfl) rfl ?_
  rw [hY0] at hS hx ⊢
  clear HX
  have HX := Lib.hid hx
  clear hx
  have hr := hY0 ▸ HR1.out.drew
  clear HR1
  have HR1 := Lib.hid hr
  clear hr
  have hr := hY0 ▸ HR2.out.drew
  clear HR2
  have HR2 := Lib.hid hr
  clear hr
  have hr := hY0 ▸ HR3.out.drew
  clear HR3
  have HR3 := Lib.hid hr
  clear hr
  have hr := hY0 ▸ HR4.out.drew
  clear HR4
  have HR4 := Lib.hid hr
  clear hr
  have hr := hY0 ▸ HR5.out.drew
  clear HR5
  have HR5 := Lib.hid hr
  clear hr
  have hr := hY0 ▸ HR6.out.drew
  clear HR6
  have HR6 := Lib.hid hr
  clear hr
  clear hY0
  refine T_take 0 _ _ rfl rfl (by kernel_rfl) (by kernel_rfl) (by kernel_rfl) (fun _ _ d _ _ h => by cases d <;> exact h) (by kernel_rfl) tail_only hS (by kernel_rfl) (fun W hW => by obtain ⟨zs1, zs2, zs3, zs4⟩ := hW; go_simp; try exact rfl) ?_
  try simp only [List.setIfInBounds_toArray, List.set_cons_zero, List.set_cons_succ]
  refine T_take 1 _ _ rfl rfl (by kernel_rfl) (by kernel_rfl) (by kernel_rfl) (fun _ _ d _ _ h => by cases d <;> exact h) (by kernel_rfl) tail_only hS (by kernel_rfl) (fun W hW => by obtain ⟨zs1, zs2, zs3, zs4⟩ := hW; go_simp; try exact rfl) ?_
  try simp only [List.setIfInBounds_toArray, List.set_cons_zero, List.set_cons_succ]
  refine T_take 3 _ _ rfl rfl (by kernel_rfl) (by kernel_rfl) (by kernel_rfl) (fun _ _ d _ _ h => by cases d <;> exact h) (by kernel_rfl) tail_only hS (by kernel_rfl) (fun W hW => by obtain ⟨zs1, zs2, zs3, zs4⟩ := hW; go_simp; try exact rfl) ?_
  try simp only [List.setIfInBounds_toArray, List.set_cons_zero, List.set_cons_succ]
  refine T_take 4 _ _ rfl rfl (by kernel_rfl) (by kernel_rfl) (by kernel_rfl) (fun _ _ d _ _ h => by cases d <;> exact h) (by kernel_rfl) tail_only hS (by kernel_rfl) (fun W hW => by obtain ⟨zs1, zs2, zs3, zs4⟩ := hW; go_simp; try exact rfl) ?_
  try simp only [List.setIfInBounds_toArray, List.set_cons_zero, List.set_cons_succ]
  refine T_take 6 _ _ rfl rfl (by kernel_rfl) (by kernel_rfl) (by kernel_rfl) (fun _ _ d _ _ h => by cases d <;> exact h) (by kernel_rfl) tail_only hS (by kernel_rfl) (fun W hW => by obtain ⟨zs1, zs2, zs3, zs4⟩ := hW; go_simp; try exact rfl) ?_
  try simp only [List.setIfInBounds_toArray, List.set_cons_zero, List.set_cons_succ]
  refine T_take 7 _ _ rfl rfl (by kernel_rfl) (by kernel_rfl) (by kernel_rfl) (fun _ _ d _ _ h => by cases d <;> exact h) (by kernel_rfl) tail_only hS (by kernel_rfl) (fun W hW => by obtain ⟨zs1, zs2, zs3, zs4⟩ := hW; go_simp; try exact rfl) ?_
  try simp only [List.setIfInBounds_toArray, List.set_cons_zero, List.set_cons_succ]
  refine T_only 2 (by kernel_rfl) rfl (by kernel_rfl) ?_
  unfold Oper.wp
  go_simp
  refine (rplus_calls (.slice A3 L3 C3) (.slice A6 L6 C6) _ _ Y0 HR3.out HR6.out (((rfit_nval (okP_iff.1 HO.out.1).1.1).mul (rfit_nval (okP_iff.1 HO.out.2).1.2)).up (by omega)) (((rfit_nval (okP_iff.1 HO.out.2).1.1).mul (rfit_nval (okP_iff.1 HO.out.1).1.2)).up (by omega))).mono ?_
  rintro e U7 ⟨A7, L7, C7, rfl, hu, hb⟩
  have hx := HX.out.below hb
  clear HX
  have HX := Lib.hid hx
  clear hx
  have hr := HR1.out.below hb
  clear HR1
  have HR1 := Lib.hid hr
  clear hr
  have hr := HR2.out.below hb
  clear HR2
  have HR2 := Lib.hid hr
  clear hr
  have hr := HR3.out.below hb
  clear HR3
  have HR3 := Lib.hid hr
  clear hr
  have hr := HR4.out.below hb
  clear HR4
  have HR4 := Lib.hid hr
  clear hr
  have hr := HR5.out.below hb
  clear HR5
  have HR5 := Lib.hid hr
  clear hr
  have hr := HR6.out.below hb
  clear HR6
  have HR6 := Lib.hid hr
  clear hr
  have HR7 := Lib.hid hu
  clear hb hu
  refine ⟨HX.out.s, ?_⟩
  try simp only [List.setIfInBounds_toArray, List.set_cons_zero, List.set_cons_succ]
  refine T_only 5 (by kernel_rfl) rfl (by kernel_rfl) ?_
  unfold Oper.wp
  go_simp
  refine (rparts_calls ad (okN_digits (okP_iff.1 HO.out.1).1.2) (Nat.le_trans (okN_size (okP_iff.1 HO.out.1).1.2) (by omega)) U7).mono ?_
  rintro e U8 ⟨A8, L8, C8, rfl, hu, hb⟩
  have hx := HX.out.below hb
  clear HX
  have HX := Lib.hid hx
  clear hx
  have hr := HR1.out.below hb
  clear HR1
  have HR1 := Lib.hid hr
  clear hr
  have hr := HR2.out.below hb
  clear HR2
  have HR2 := Lib.hid hr
  clear hr
  have hr := HR3.out.below hb
  clear HR3
  have HR3 := Lib.hid hr
  clear hr
  have hr := HR4.out.below hb
  clear HR4
  have HR4 := Lib.hid hr
  clear hr
  have hr := HR5.out.below hb
  clear HR5
  have HR5 := Lib.hid hr
  clear hr
  have hr := HR6.out.below hb
  clear HR6
  have HR6 := Lib.hid hr
  clear hr
  have hr := HR7.out.below hb
  clear HR7
  have HR7 := Lib.hid hr
  clear hr
  have HR8 := Lib.hid hu
  clear hb hu
  refine ⟨HX.out.s, ?_⟩
  try simp only [List.setIfInBounds_toArray, List.set_cons_zero, List.set_cons_succ]
  refine T_only 8 (by kernel_rfl) rfl (by kernel_rfl) ?_
  unfold Oper.wp
  go_simp
  refine (rparts_calls bd (okN_digits (okP_iff.1 HO.out.2).1.2) (Nat.le_trans (okN_size (okP_iff.1 HO.out.2).1.2) (by omega)) U8).mono ?_
  rintro e U9 ⟨A9, L9, C9, rfl, hu, hb⟩
  have hx := HX.out.below hb
  clear HX
  have HX := Lib.hid hx
  clear hx
  have hr := HR1.out.below hb
  clear HR1
  have HR1 := Lib.hid hr
  clear hr
  have hr := HR2.out.below hb
  clear HR2
  have HR2 := Lib.hid hr
  clear hr
  have hr := HR3.out.below hb
  clear HR3
  have HR3 := Lib.hid hr
  clear hr
  have hr := HR4.out.below hb
  clear HR4
  have HR4 := Lib.hid hr
  clear hr
  have hr := HR5.out.below hb
  clear HR5
  have HR5 := Lib.hid hr
  clear hr
  have hr := HR6.out.below hb
  clear HR6
  have HR6 := Lib.hid hr
  clear hr
  have hr := HR7.out.below hb
  clear HR7
  have HR7 := Lib.hid hr
  clear hr
  have hr := HR8.out.below hb
  clear HR8
  have HR8 := Lib.hid hr
  clear hr
  have HR9 := Lib.hid hu
  clear hb hu
  refine ⟨HX.out.s, ?_⟩
  try simp only [List.setIfInBounds_toArray, List.set_cons_zero, List.set_cons_succ]
  refine T_only 9 (by kernel_rfl) rfl (by kernel_rfl) ?_
  unfold Oper.wp
  go_simp
  refine (rtimes_calls (.slice A8 L8 C8) (.slice A9 L9 C9) _ _ U9 HR8.out HR9.out ((rfit_nval (okP_iff.1 HO.out.1).1.2).up (by omega)) ((rfit_nval (okP_iff.1 HO.out.2).1.2).up (by omega))).mono ?_
  rintro e U10 ⟨A10, L10, C10, rfl, hu, hb⟩
  have hx := HX.out.below hb
  clear HX
  have HX := Lib.hid hx
  clear hx
  have hr := HR1.out.below hb
  clear HR1
  have HR1 := Lib.hid hr
  clear hr
  have hr := HR2.out.below hb
  clear HR2
  have HR2 := Lib.hid hr
  clear hr
  have hr := HR3.out.below hb
  clear HR3
  have HR3 := Lib.hid hr
  clear hr
  have hr := HR4.out.below hb
  clear HR4
  have HR4 := Lib.hid hr
  clear hr
  have hr := HR5.out.below hb
  clear HR5
  have HR5 := Lib.hid hr
  clear hr
  have hr := HR6.out.below hb
  clear HR6
  have HR6 := Lib.hid hr
  clear hr
  have hr := HR7.out.below hb
  clear HR7
  have HR7 := Lib.hid hr
  clear hr
  have hr := HR8.out.below hb
  clear HR8
  have HR8 := Lib.hid hr
  clear hr
  have hr := HR9.out.below hb
  clear HR9
  have HR9 := Lib.hid hr
  clear hr
  have HR10 := Lib.hid hu
  clear hb hu
  refine ⟨HX.out.s, ?_⟩
  try simp only [List.setIfInBounds_toArray, List.set_cons_zero, List.set_cons_succ]
  have hden : nval ad * nval bd ≠ 0 := Nat.mul_ne_zero (okP_iff.1 HO.out.1).2.1 (okP_iff.1 HO.out.2).2.1
  have MA := Lib.hid (And.intro HR7.out (And.intro HR10.out (And.intro hden (And.intro (((((rfit_nval (okP_iff.1 HO.out.1).1.1).mul (rfit_nval (okP_iff.1 HO.out.2).1.2))).add (((rfit_nval (okP_iff.1 HO.out.2).1.1).mul (rfit_nval (okP_iff.1 HO.out.1).1.2)))).up (by omega) : RFit 5000 _) (((rfit_nval (okP_iff.1 HO.out.1).1.2).mul (rfit_nval (okP_iff.1 HO.out.2).1.2)).up (by omega) : RFit 5000 _)))))
  clear hden
  refine T_only 10 (by kernel_rfl) rfl (by kernel_rfl) ?_
  unfold Oper.wp
  go_simp
  refine (rmade_calls _ _ _ _ _ _ _ _ _ MA.out.1 MA.out.2.1 MA.out.2.2.1 MA.out.2.2.2.1 MA.out.2.2.2.2).mono ?_
  rintro e U ⟨rfl, hb⟩
  have hx := HX.out.below hb
  clear HX
  have HX := Lib.hid hx
  clear hx hb
  obtain ⟨s, t, x, hE⟩ : ∃ s t x, addR (an, ad) (bn, bd) = ((s, t), x) := ⟨_, _, _, rfl⟩
  rw [← addR_eq HO.out.1 HO.out.2, hE, rv_eq2]
  have HE := Lib.hid hE
  clear hE
  have hS2 := HX.out.s
  refine ⟨hS2, ?_⟩
  try simp only [List.setIfInBounds_toArray, List.set_cons_zero, List.set_cons_succ]
  refine T_take 11 _ _ rfl rfl (by kernel_rfl) (by kernel_rfl) (by kernel_rfl) (fun _ _ d _ _ h => by cases d <;> exact h) (by kernel_rfl) tail_only hS2 (by kernel_rfl) (fun W hW => by obtain ⟨zs1, zs2, zs3, zs4⟩ := hW; go_simp; try exact rfl) ?_
  try simp only [List.setIfInBounds_toArray, List.set_cons_zero, List.set_cons_succ]
  refine T_take 12 _ _ rfl rfl (by kernel_rfl) (by kernel_rfl) (by kernel_rfl) (fun _ _ d _ _ h => by cases d <;> exact h) (by kernel_rfl) tail_only hS2 (by kernel_rfl) (fun W hW => by obtain ⟨zs1, zs2, zs3, zs4⟩ := hW; go_simp; try exact rfl) ?_
  try simp only [List.setIfInBounds_toArray, List.set_cons_zero, List.set_cons_succ]
  obtain ⟨q1, q2, q3, q4⟩ := HX.out.r
  refine T_only 13 (by kernel_rfl) rfl (by kernel_rfl) ?_
  unfold Oper.wp
  go_simp
  refine ⟨boxPS_set hS2 _ _, by kernel_rfl, ?_⟩
  try simp only [List.setIfInBounds_toArray, List.set_cons_zero, List.set_cons_succ]
  refine any_only 14 (by kernel_rfl) rfl (by kernel_rfl) ?_
  unfold Oper.wp
  go_simp
  refine any_done (by kernel_rfl) ?_
  clear q1 q2 q3 q4 hS hS2
  go_wp2_with fail
  have hn := HX.out.nw
  refine bodyPost_ret (results_pb rfl _ rfl (HX.out.res.set s t)) rfl ⟨by rw [HE.out]; rfl, ?_⟩
  first | exact box3_set HX.out.bel hn | exact box3_setN HX.out.bel hn
set_option maxRecDepth 100000 in
set_option maxHeartbeats 2000000 in
theorem rsub_calls (a b : PS) (sa : Sz a) (sb : Sz b) (w : World) :
    Calls Tryz.prog 39 #[pv a, pv b] w fun e W => e = .returned (rv (subR a b)) ∧ Below w.heap.size w W := by
  obtain ⟨an, ad⟩ := a
  obtain ⟨bn, bd⟩ := b
  have HT := Lib.hid (And.intro sa sb)
  have h0 := BoxP.new w (an, ad) (bn, bd)
  obtain ⟨N, hN⟩ : ∃ N, w.heap.size = N := ⟨_, rfl⟩
  simp only [hN] at h0
  clear sa sb
  go_enter Tryz.func39, Tryz.ntmps39
  go_wp2_with fail
  obtain ⟨W0, hW0⟩ : ∃ W0, (((w.alloc (.cells #[.string an, .string ad] 24)).alloc (.cells #[.string bn, .string bd] 24)).alloc (.cells #[.string ⟨#[]⟩, .string ⟨#[]⟩] 24)) = W0 := ⟨_, rfl⟩
  rw [hW0] at h0 ⊢
  have H0 := Lib.hid h0
  clear h0 hW0
  refine (both_calls (an, ad) (bn, bd) HT.out.1 HT.out.2 W0).mono ?_
  rintro e W1 ⟨rfl, hb⟩
  have HX := Lib.hid (H0.out.below hb)
  clear hb H0
  by_cases hok : okP (an, ad) = true ∧ okP (bn, bd) = true
  case neg =>
    have HE := Lib.hid (subR_no (a := (an, ad)) (b := (bn, bd)) hok)
    rw [bothR_no hok]
    clear hok
    obtain ⟨q1, q2, q3, q4⟩ := HX.out.r
    go_wp2_with fail
    have hn := HX.out.nw
    refine bodyPost_ret (results_pb rfl _ rfl (HX.out.res.set _ _)) rfl ⟨by rw [HE.out]; rfl, ?_⟩
    first | exact box3_set HX.out.bel hn | exact box3_setN HX.out.bel hn
  rw [bothR_ok hok.1 hok.2]
  have HO := Lib.hid hok
  clear hok

  go_wp2_with fail
  obtain ⟨W2, hW2⟩ : ∃ V, W1.drew = V := ⟨_, rfl⟩
  have hS : BoxPS N (an, ad) (bn, bd) W1.drew := HX.out.s
  have hx := HX.out.drew
  refine region_tail (m := 7) (BoxPS N (an, ad) (bn, bd)) 7 1 (by kernel_rfl) rfl ?_
  rw [hW2] at hS hx ⊢
  clear HX
  have HX := Lib.hid hx
  clear hx
  clear hW2
  refine T_take 0 _ _ rfl rfl (by kernel_rfl) (by kernel_rfl) (by kernel_rfl) (fun _ _ d _ _ h => by cases d <;> exact h) (by kernel_rfl) tail_only hS (by kernel_rfl) (fun W hW => by obtain ⟨zs1, zs2, zs3, zs4⟩ := hW; go_simp; try exact rfl) ?_
  try simp only [List.setIfInBounds_toArray, List.set_cons_zero, List.set_cons_succ]
  refine T_take 1 _ _ rfl rfl (by kernel_rfl) (by kernel_rfl) (by kernel_rfl) (fun _ _ d _ _ h => by cases d <;> exact h) (by kernel_rfl) tail_only hS (by kernel_rfl) (fun W hW => by obtain ⟨zs1, zs2, zs3, zs4⟩ := hW; go_simp; try exact rfl) ?_
  try simp only [List.setIfInBounds_toArray, List.set_cons_zero, List.set_cons_succ]
  refine T_take 3 _ _ rfl rfl (by kernel_rfl) (by kernel_rfl) (by kernel_rfl) (fun _ _ d _ _ h => by cases d <;> exact h) (by kernel_rfl) tail_only hS (by kernel_rfl) (fun W hW => by obtain ⟨zs1, zs2, zs3, zs4⟩ := hW; go_simp; try exact rfl) ?_
  try simp only [List.setIfInBounds_toArray, List.set_cons_zero, List.set_cons_succ]
  refine T_take 4 _ _ rfl rfl (by kernel_rfl) (by kernel_rfl) (by kernel_rfl) (fun _ _ d _ _ h => by cases d <;> exact h) (by kernel_rfl) tail_only hS (by kernel_rfl) (fun W hW => by obtain ⟨zs1, zs2, zs3, zs4⟩ := hW; go_simp; try exact rfl) ?_
  try simp only [List.setIfInBounds_toArray, List.set_cons_zero, List.set_cons_succ]
  refine T_only 2 (by kernel_rfl) rfl (by kernel_rfl) ?_
  unfold Oper.wp
  go_simp
  refine (rparts_calls an (okN_digits (okP_iff.1 HO.out.1).1.1) (Nat.le_trans (okN_size (okP_iff.1 HO.out.1).1.1) (by omega)) W2).mono ?_
  rintro e U1 ⟨A1, L1, C1, rfl, hu, hb⟩
  have hx := HX.out.below hb
  clear HX
  have HX := Lib.hid hx
  clear hx
  have HR1 := Lib.hid hu
  clear hb hu
  refine ⟨HX.out.s, ?_⟩
  try simp only [List.setIfInBounds_toArray, List.set_cons_zero, List.set_cons_succ]
  refine T_only 5 (by kernel_rfl) rfl (by kernel_rfl) ?_
  unfold Oper.wp
  go_simp
  refine (rparts_calls bd (okN_digits (okP_iff.1 HO.out.2).1.2) (Nat.le_trans (okN_size (okP_iff.1 HO.out.2).1.2) (by omega)) U1).mono ?_
  rintro e U2 ⟨A2, L2, C2, rfl, hu, hb⟩
  have hx := HX.out.below hb
  clear HX
  have HX := Lib.hid hx
  clear hx
  have hr := HR1.out.below hb
  clear HR1
  have HR1 := Lib.hid hr
  clear hr
  have HR2 := Lib.hid hu
  clear hb hu
  refine ⟨HX.out.s, ?_⟩
  try simp only [List.setIfInBounds_toArray, List.set_cons_zero, List.set_cons_succ]
  refine T_only 6 (by kernel_rfl) rfl (by kernel_rfl) ?_
  unfold Oper.wp
  go_simp
  refine (rtimes_calls (.slice A1 L1 C1) (.slice A2 L2 C2) _ _ U2 HR1.out HR2.out ((rfit_nval (okP_iff.1 HO.out.1).1.1).up (by omega)) ((rfit_nval (okP_iff.1 HO.out.2).1.2).up (by omega))).mono ?_
  rintro e U3 ⟨A3, L3, C3, rfl, hu, hb⟩
  have hx := HX.out.below hb
  clear HX
  have HX := Lib.hid hx
  clear hx
  have hr := HR1.out.below hb
  clear HR1
  have HR1 := Lib.hid hr
  clear hr
  have hr := HR2.out.below hb
  clear HR2
  have HR2 := Lib.hid hr
  clear hr
  have HR3 := Lib.hid hu
  clear hb hu
  refine ⟨HX.out.s, by kernel_rfl, ?_⟩
  try simp only [List.setIfInBounds_toArray, List.set_cons_zero, List.set_cons_succ]
  refine any_only 7 (by kernel_rfl) rfl (by kernel_rfl) ?_
  unfold Oper.wp
  go_simp
  refine any_done (by kernel_rfl) ?_
  clear hS
  go_wp2_with fail
  obtain ⟨W3, hW3⟩ : ∃ V, U3.drew = V := ⟨_, rfl⟩
  have hS : BoxPS N (an, ad) (bn, bd) U3.drew := HX.out.s
  have hx := HX.out.drew
  refine region_tail (m := 7) (BoxPS N (an, ad) (bn, bd)) 7 1 (by kernel_rfl) rfl ?_
  rw [hW3] at hS hx ⊢
  clear HX
  have HX := Lib.hid hx
  clear hx
  have hr := hW3 ▸ HR1.out.drew
  clear HR1
  have HR1 := Lib.hid hr
  clear hr
  have hr := hW3 ▸ HR2.out.drew
  clear HR2
  have HR2 := Lib.hid hr
  clear hr
  have hr := hW3 ▸ HR3.out.drew
  clear HR3
  have HR3 := Lib.hid hr
  clear hr
  clear hW3
  refine T_take 0 _ _ rfl rfl (by kernel_rfl) (by kernel_rfl) (by kernel_rfl) (fun _ _ d _ _ h => by cases d <;> exact h) (by kernel_rfl) tail_only hS (by kernel_rfl) (fun W hW => by obtain ⟨zs1, zs2, zs3, zs4⟩ := hW; go_simp; try exact rfl) ?_
  try simp only [List.setIfInBounds_toArray, List.set_cons_zero, List.set_cons_succ]
  refine T_take 1 _ _ rfl rfl (by kernel_rfl) (by kernel_rfl) (by kernel_rfl) (fun _ _ d _ _ h => by cases d <;> exact h) (by kernel_rfl) tail_only hS (by kernel_rfl) (fun W hW => by obtain ⟨zs1, zs2, zs3, zs4⟩ := hW; go_simp; try exact rfl) ?_
  try simp only [List.setIfInBounds_toArray, List.set_cons_zero, List.set_cons_succ]
  refine T_take 3 _ _ rfl rfl (by kernel_rfl) (by kernel_rfl) (by kernel_rfl) (fun _ _ d _ _ h => by cases d <;> exact h) (by kernel_rfl) tail_only hS (by kernel_rfl) (fun W hW => by obtain ⟨zs1, zs2, zs3, zs4⟩ := hW; go_simp; try exact rfl) ?_
  try simp only [List.setIfInBounds_toArray, List.set_cons_zero, List.set_cons_succ]
  refine T_take 4 _ _ rfl rfl (by kernel_rfl) (by kernel_rfl) (by kernel_rfl) (fun _ _ d _ _ h => by cases d <;> exact h) (by kernel_rfl) tail_only hS (by kernel_rfl) (fun W hW => by obtain ⟨zs1, zs2, zs3, zs4⟩ := hW; go_simp; try exact rfl) ?_
  try simp only [List.setIfInBounds_toArray, List.set_cons_zero, List.set_cons_succ]
  refine T_only 2 (by kernel_rfl) rfl (by kernel_rfl) ?_
  unfold Oper.wp
  go_simp
  refine (rparts_calls bn (okN_digits (okP_iff.1 HO.out.2).1.1) (Nat.le_trans (okN_size (okP_iff.1 HO.out.2).1.1) (by omega)) W3).mono ?_
  rintro e U4 ⟨A4, L4, C4, rfl, hu, hb⟩
  have hx := HX.out.below hb
  clear HX
  have HX := Lib.hid hx
  clear hx
  have hr := HR1.out.below hb
  clear HR1
  have HR1 := Lib.hid hr
  clear hr
  have hr := HR2.out.below hb
  clear HR2
  have HR2 := Lib.hid hr
  clear hr
  have hr := HR3.out.below hb
  clear HR3
  have HR3 := Lib.hid hr
  clear hr
  have HR4 := Lib.hid hu
  clear hb hu
  refine ⟨HX.out.s, ?_⟩
  try simp only [List.setIfInBounds_toArray, List.set_cons_zero, List.set_cons_succ]
  refine T_only 5 (by kernel_rfl) rfl (by kernel_rfl) ?_
  unfold Oper.wp
  go_simp
  refine (rparts_calls ad (okN_digits (okP_iff.1 HO.out.1).1.2) (Nat.le_trans (okN_size (okP_iff.1 HO.out.1).1.2) (by omega)) U4).mono ?_
  rintro e U5 ⟨A5, L5, C5, rfl, hu, hb⟩
  have hx := HX.out.below hb
  clear HX
  have HX := Lib.hid hx
  clear hx
  have hr := HR1.out.below hb
  clear HR1
  have HR1 := Lib.hid hr
  clear hr
  have hr := HR2.out.below hb
  clear HR2
  have HR2 := Lib.hid hr
  clear hr
  have hr := HR3.out.below hb
  clear HR3
  have HR3 := Lib.hid hr
  clear hr
  have hr := HR4.out.below hb
  clear HR4
  have HR4 := Lib.hid hr
  clear hr
  have HR5 := Lib.hid hu
  clear hb hu
  refine ⟨HX.out.s, ?_⟩
  try simp only [List.setIfInBounds_toArray, List.set_cons_zero, List.set_cons_succ]
  refine T_only 6 (by kernel_rfl) rfl (by kernel_rfl) ?_
  unfold Oper.wp
  go_simp
  refine (rtimes_calls (.slice A4 L4 C4) (.slice A5 L5 C5) _ _ U5 HR4.out HR5.out ((rfit_nval (okP_iff.1 HO.out.2).1.1).up (by omega)) ((rfit_nval (okP_iff.1 HO.out.1).1.2).up (by omega))).mono ?_
  rintro e U6 ⟨A6, L6, C6, rfl, hu, hb⟩
  have hx := HX.out.below hb
  clear HX
  have HX := Lib.hid hx
  clear hx
  have hr := HR1.out.below hb
  clear HR1
  have HR1 := Lib.hid hr
  clear hr
  have hr := HR2.out.below hb
  clear HR2
  have HR2 := Lib.hid hr
  clear hr
  have hr := HR3.out.below hb
  clear HR3
  have HR3 := Lib.hid hr
  clear hr
  have hr := HR4.out.below hb
  clear HR4
  have HR4 := Lib.hid hr
  clear hr
  have hr := HR5.out.below hb
  clear HR5
  have HR5 := Lib.hid hr
  clear hr
  have HR6 := Lib.hid hu
  clear hb hu
  refine ⟨HX.out.s, by kernel_rfl, ?_⟩
  try simp only [List.setIfInBounds_toArray, List.set_cons_zero, List.set_cons_succ]
  refine any_only 7 (by kernel_rfl) rfl (by kernel_rfl) ?_
  unfold Oper.wp
  go_simp
  refine any_done (by kernel_rfl) ?_
  clear hS
  go_wp2_with fail
  refine (rorder_calls (.slice A3 L3 C3) (.slice A6 L6 C6) _ _ U6 HR3.out HR6.out (((rfit_nval (okP_iff.1 HO.out.1).1.1).mul (rfit_nval (okP_iff.1 HO.out.2).1.2)).up (by omega)) (((rfit_nval (okP_iff.1 HO.out.2).1.1).mul (rfit_nval (okP_iff.1 HO.out.1).1.2)).up (by omega))).mono ?_
  rintro e U0 ⟨q, rfl, hsg, hb⟩
  have hx := HX.out.below hb
  clear HX
  have HX := Lib.hid hx
  clear hx
  have hr := HR1.out.below hb
  clear HR1
  have HR1 := Lib.hid hr
  clear hr
  have hr := HR2.out.below hb
  clear HR2
  have HR2 := Lib.hid hr
  clear hr
  have hr := HR3.out.below hb
  clear HR3
  have HR3 := Lib.hid hr
  clear hr
  have hr := HR4.out.below hb
  clear HR4
  have HR4 := Lib.hid hr
  clear hr
  have hr := HR5.out.below hb
  clear HR5
  have HR5 := Lib.hid hr
  clear hr
  have hr := HR6.out.below hb
  clear HR6
  have HR6 := Lib.hid hr
  clear hr
  clear hb
  by_cases hlt : nval an * nval bd < nval bn * nval ad
  · have hq : q < 0 := by rcases hsg with ⟨h, _⟩ | ⟨_, h⟩ | ⟨_, h⟩ <;> omega
    have HE := Lib.hid (show subR (an, ad) (bn, bd) = no 11 by rw [subR_eq HO.out.1 HO.out.2]; unfold sub1R; rw [if_pos hlt])
    clear hsg hlt
    obtain ⟨q1, q2, q3, q4⟩ := HX.out.r
    go_wp2_with fail
    have hn := HX.out.nw
    refine bodyPost_ret (results_pb rfl _ rfl (HX.out.res.set _ _)) rfl ⟨by rw [HE.out]; rfl, ?_⟩
    first | exact box3_set HX.out.bel hn | exact box3_setN HX.out.bel hn
  have hq : ¬ q < 0 := by rcases hsg with ⟨_, h⟩ | ⟨h, _⟩ | ⟨h, _⟩ <;> omega
  have HD := Lib.hid (show subR (an, ad) (bn, bd) = mkR (((nval an * nval bd - nval bn * nval ad : Nat) : Rat) / ((nval ad * nval bd : Nat) : Rat)) by rw [subR_eq HO.out.1 HO.out.2]; unfold sub1R; rw [if_neg hlt])
  have HLE := Lib.hid (show nval bn * nval ad ≤ nval an * nval bd by omega)
  clear hsg hlt
  go_wp2_with fail
  clear hq
  obtain ⟨Y0, hY0⟩ : ∃ V, U0.drew = V := ⟨_, rfl⟩
  have hS : BoxPS N (an, ad) (bn, bd) U0.drew := HX.out.s
  have hx := HX.out.drew
  refine region_tail (m := 14) (BoxPS N (an, ad) (bn, bd)) 14 1 (by kernel_rfl) rfl ?_
  rw [hY0] at hS hx ⊢
  clear HX
  have HX := Lib.hid hx
  clear hx
  have hr := hY0 ▸ HR1.out.drew
  clear HR1
  have HR1 := Lib.hid hr
  clear hr
  have hr := hY0 ▸ HR2.out.drew
  clear HR2
  have HR2 := Lib.hid hr
  clear hr
  have hr := hY0 ▸ HR3.out.drew
  clear HR3
  have HR3 := Lib.hid hr
  clear hr
  have hr := hY0 ▸ HR4.out.drew
  clear HR4
  have HR4 := Lib.hid hr
  clear hr
  have hr := hY0 ▸ HR5.out.drew
  clear HR5
  have HR5 := Lib.hid hr
  clear hr
  have hr := hY0 ▸ HR6.out.drew
  clear HR6
  have HR6 := Lib.hid hr
  clear hr
  clear hY0
  refine T_take 0 _ _ rfl rfl (by kernel_rfl) (by kernel_rfl) (by kernel_rfl) (fun _ _ d _ _ h => by cases d <;> exact h) (by kernel_rfl) tail_only hS (by kernel_rfl) (fun W hW => by obtain ⟨zs1, zs2, zs3, zs4⟩ := hW; go_simp; try exact rfl) ?_
  try simp only [List.setIfInBounds_toArray, List.set_cons_zero, List.set_cons_succ]
  refine T_take 1 _ _ rfl rfl (by kernel_rfl) (by kernel_rfl) (by kernel_rfl) (fun _ _ d _ _ h => by cases d <;> exact h) (by kernel_rfl) tail_only hS (by kernel_rfl) (fun W hW => by obtain ⟨zs1, zs2, zs3, zs4⟩ := hW; go_simp; try exact rfl) ?_
  try simp only [List.setIfInBounds_toArray, List.set_cons_zero, List.set_cons_succ]
  refine T_take 3 _ _ rfl rfl (by kernel_rfl) (by kernel_rfl) (by kernel_rfl) (fun _ _ d _ _ h => by cases d <;> exact h) (by kernel_rfl) tail_only hS (by kernel_rfl) (fun W hW => by obtain ⟨zs1, zs2, zs3, zs4⟩ := hW; go_simp; try exact rfl) ?_
  try simp only [List.setIfInBounds_toArray, List.set_cons_zero, List.set_cons_succ]
  refine T_take 4 _ _ rfl rfl (by kernel_rfl) (by kernel_rfl) (by kernel_rfl) (fun _ _ d _ _ h => by cases d <;> exact h) (by kernel_rfl) tail_only hS (by kernel_rfl) (fun W hW => by obtain ⟨zs1, zs2, zs3, zs4⟩ := hW; go_simp; try exact rfl) ?_
  try simp only [List.setIfInBounds_toArray, List.set_cons_zero, List.set_cons_succ]
  refine T_take 6 _ _ rfl rfl (by kernel_rfl) (by kernel_rfl) (by kernel_rfl) (fun _ _ d _ _ h => by cases d <;> exact h) (by kernel_rfl) tail_only hS (by kernel_rfl) (fun W hW => by obtain ⟨zs1, zs2, zs3, zs4⟩ := hW; go_simp; try exact rfl) ?_
  try simp only [List.setIfInBounds_toArray, List.set_cons_zero, List.set_cons_succ]
  refine T_take 7 _ _ rfl rfl (by kernel_rfl) (by kernel_rfl) (by kernel_rfl) (fun _ _ d _ _ h => by cases d <;> exact h) (by kernel_rfl) tail_only hS (by kernel_rfl) (fun W hW => by obtain ⟨zs1, zs2, zs3, zs4⟩ := hW; go_simp; try exact rfl) ?_
  try simp only [List.setIfInBounds_toArray, List.set_cons_zero, List.set_cons_succ]
  refine T_only 2 (by kernel_rfl) rfl (by kernel_rfl) ?_
  unfold Oper.wp
  go_simp
  refine (rminus_calls (.slice A3 L3 C3) (.slice A6 L6 C6) _ _ Y0 HR3.out HR6.out (((rfit_nval (okP_iff.1 HO.out.1).1.1).mul (rfit_nval (okP_iff.1 HO.out.2).1.2)).up (by omega)) HLE.out).mono ?_
  rintro e U7 ⟨A7, L7, C7, rfl, hu, hb⟩
  have hx := HX.out.below hb
  clear HX
  have HX := Lib.hid hx
  clear hx
  have hr := HR1.out.below hb
  clear HR1
  have HR1 := Lib.hid hr
  clear hr
  have hr := HR2.out.below hb
  clear HR2
  have HR2 := Lib.hid hr
  clear hr
  have hr := HR3.out.below hb
  clear HR3
  have HR3 := Lib.hid hr
  clear hr
  have hr := HR4.out.below hb
  clear HR4
  have HR4 := Lib.hid hr
  clear hr
  have hr := HR5.out.below hb
  clear HR5
  have HR5 := Lib.hid hr
  clear hr
  have hr := HR6.out.below hb
  clear HR6
  have HR6 := Lib.hid hr
  clear hr
  have HR7 := Lib.hid hu
  clear hb hu
  refine ⟨HX.out.s, ?_⟩
  try simp only [List.setIfInBounds_toArray, List.set_cons_zero, List.set_cons_succ]
  refine T_only 5 (by kernel_rfl) rfl (by kernel_rfl) ?_
  unfold Oper.wp
  go_simp
  refine (rparts_calls ad (okN_digits (okP_iff.1 HO.out.1).1.2) (Nat.le_trans (okN_size (okP_iff.1 HO.out.1).1.2) (by omega)) U7).mono ?_
  rintro e U8 ⟨A8, L8, C8, rfl, hu, hb⟩
  have hx := HX.out.below hb
  clear HX
  have HX := Lib.hid hx
  clear hx
  have hr := HR1.out.below hb
  clear HR1
  have HR1 := Lib.hid hr
  clear hr
  have hr := HR2.out.below hb
  clear HR2
  have HR2 := Lib.hid hr
  clear hr
  have hr := HR3.out.below hb
  clear HR3
  have HR3 := Lib.hid hr
  clear hr
  have hr := HR4.out.below hb
  clear HR4
  have HR4 := Lib.hid hr
  clear hr
  have hr := HR5.out.below hb
  clear HR5
  have HR5 := Lib.hid hr
  clear hr
  have hr := HR6.out.below hb
  clear HR6
  have HR6 := Lib.hid hr
  clear hr
  have hr := HR7.out.below hb
  clear HR7
  have HR7 := Lib.hid hr
  clear hr
  have HR8 := Lib.hid hu
  clear hb hu
  refine ⟨HX.out.s, ?_⟩
  try simp only [List.setIfInBounds_toArray, List.set_cons_zero, List.set_cons_succ]
  refine T_only 8 (by kernel_rfl) rfl (by kernel_rfl) ?_
  unfold Oper.wp
  go_simp
  refine (rparts_calls bd (okN_digits (okP_iff.1 HO.out.2).1.2) (Nat.le_trans (okN_size (okP_iff.1 HO.out.2).1.2) (by omega)) U8).mono ?_
  rintro e U9 ⟨A9, L9, C9, rfl, hu, hb⟩
  have hx := HX.out.below hb
  clear HX
  have HX := Lib.hid hx
  clear hx
  have hr := HR1.out.below hb
  clear HR1
  have HR1 := Lib.hid hr
  clear hr
  have hr := HR2.out.below hb
  clear HR2
  have HR2 := Lib.hid hr
  clear hr
  have hr := HR3.out.below hb
  clear HR3
  have HR3 := Lib.hid hr
  clear hr
  have hr := HR4.out.below hb
  clear HR4
  have HR4 := Lib.hid hr
  clear hr
  have hr := HR5.out.below hb
  clear HR5
  have HR5 := Lib.hid hr
  clear hr
  have hr := HR6.out.below hb
  clear HR6
  have HR6 := Lib.hid hr
  clear hr
  have hr := HR7.out.below hb
  clear HR7
  have HR7 := Lib.hid hr
  clear hr
  have hr := HR8.out.below hb
  clear HR8
  have HR8 := Lib.hid hr
  clear hr
  have HR9 := Lib.hid hu
  clear hb hu
  refine ⟨HX.out.s, ?_⟩
  try simp only [List.setIfInBounds_toArray, List.set_cons_zero, List.set_cons_succ]
  refine T_only 9 (by kernel_rfl) rfl (by kernel_rfl) ?_
  unfold Oper.wp
  go_simp
  refine (rtimes_calls (.slice A8 L8 C8) (.slice A9 L9 C9) _ _ U9 HR8.out HR9.out ((rfit_nval (okP_iff.1 HO.out.1).1.2).up (by omega)) ((rfit_nval (okP_iff.1 HO.out.2).1.2).up (by omega))).mono ?_
  rintro e U10 ⟨A10, L10, C10, rfl, hu, hb⟩
  have hx := HX.out.below hb
  clear HX
  have HX := Lib.hid hx
  clear hx
  have hr := HR1.out.below hb
  clear HR1
  have HR1 := Lib.hid hr
  clear hr
  have hr := HR2.out.below hb
  clear HR2
  have HR2 := Lib.hid hr
  clear hr
  have hr := HR3.out.below hb
  clear HR3
  have HR3 := Lib.hid hr
  clear hr
  have hr := HR4.out.below hb
  clear HR4
  have HR4 := Lib.hid hr
  clear hr
  have hr := HR5.out.below hb
  clear HR5
  have HR5 := Lib.hid hr
  clear hr
  have hr := HR6.out.below hb
  clear HR6
  have HR6 := Lib.hid hr
  clear hr
  have hr := HR7.out.below hb
  clear HR7
  have HR7 := Lib.hid hr
  clear hr
  have hr := HR8.out.below hb
  clear HR8
  have HR8 := Lib.hid hr
  clear hr
  have hr := HR9.out.below hb
  clear HR9
  have HR9 := Lib.hid hr
  clear hr
  have HR10 := Lib.hid hu
  clear hb hu
  refine ⟨HX.out.s, ?_⟩
  try simp only [List.setIfInBounds_toArray, List.set_cons_zero, List.set_cons_succ]
  have hden : nval ad * nval bd ≠ 0 := Nat.mul_ne_zero (okP_iff.1 HO.out.1).2.1 (okP_iff.1 HO.out.2).2.1
  have MA := Lib.hid (And.intro HR7.out (And.intro HR10.out (And.intro hden (And.intro ((((rfit_nval (okP_iff.1 HO.out.1).1.1).mul (rfit_nval (okP_iff.1 HO.out.2).1.2)).le (Nat.sub_le _ (nval bn * nval ad))).up (by omega) : RFit 5000 _) (((rfit_nval (okP_iff.1 HO.out.1).1.2).mul (rfit_nval (okP_iff.1 HO.out.2).1.2)).up (by omega) : RFit 5000 _)))))
  clear hden
  refine T_only 10 (by kernel_rfl) rfl (by kernel_rfl) ?_
  unfold Oper.wp
  go_simp
  refine (rmade_calls _ _ _ _ _ _ _ _ _ MA.out.1 MA.out.2.1 MA.out.2.2.1 MA.out.2.2.2.1 MA.out.2.2.2.2).mono ?_
  rintro e U ⟨rfl, hb⟩
  have hx := HX.out.below hb
  clear HX
  have HX := Lib.hid hx
  clear hx hb
  obtain ⟨s, t, x, hE⟩ : ∃ s t x, subR (an, ad) (bn, bd) = ((s, t), x) := ⟨_, _, _, rfl⟩
  rw [← HD.out, hE, rv_eq2]
  have HE := Lib.hid hE
  clear hE
  have hS2 := HX.out.s
  refine ⟨hS2, ?_⟩
  try simp only [List.setIfInBounds_toArray, List.set_cons_zero, List.set_cons_succ]
  refine T_take 11 _ _ rfl rfl (by kernel_rfl) (by kernel_rfl) (by kernel_rfl) (fun _ _ d _ _ h => by cases d <;> exact h) (by kernel_rfl) tail_only hS2 (by kernel_rfl) (fun W hW => by obtain ⟨zs1, zs2, zs3, zs4⟩ := hW; go_simp; try exact rfl) ?_
  try simp only [List.setIfInBounds_toArray, List.set_cons_zero, List.set_cons_succ]
  refine T_take 12 _ _ rfl rfl (by kernel_rfl) (by kernel_rfl) (by kernel_rfl) (fun _ _ d _ _ h => by cases d <;> exact h) (by kernel_rfl) tail_only hS2 (by kernel_rfl) (fun W hW => by obtain ⟨zs1, zs2, zs3, zs4⟩ := hW; go_simp; try exact rfl) ?_
  try simp only [List.setIfInBounds_toArray, List.set_cons_zero, List.set_cons_succ]
  obtain ⟨q1, q2, q3, q4⟩ := HX.out.r
  refine T_only 13 (by kernel_rfl) rfl (by kernel_rfl) ?_
  unfold Oper.wp
  go_simp
  refine ⟨boxPS_set hS2 _ _, by kernel_rfl, ?_⟩
  try simp only [List.setIfInBounds_toArray, List.set_cons_zero, List.set_cons_succ]
  refine any_only 14 (by kernel_rfl) rfl (by kernel_rfl) ?_
  unfold Oper.wp
  go_simp
  refine any_done (by kernel_rfl) ?_
  clear q1 q2 q3 q4 hS hS2
  go_wp2_with fail
  have hn := HX.out.nw
  refine bodyPost_ret (results_pb rfl _ rfl (HX.out.res.set s t)) rfl ⟨by rw [HE.out]; rfl, ?_⟩
  first | exact box3_set HX.out.bel hn | exact box3_setN HX.out.bel hn
end Go.Proofs.CW
