/-
  Part 14 of the proof: RC7, K61.
-/
import Derived.Test.YtjfclkbdkafkcaaGreatDoorYZ4
import Derived.Test.YtjfclkbdkafkcaaGreatDoorYZ6
import Derived.Test.YtjfclkbdkafkcaaGreatDoorYZ10
import Derived.Test.YtjfclkbdkafkcaaGreatDoorYZ12
import Derived.Test.YtjfclkbdkafkcaaGreatDoorYZ13
set_option linter.unusedVariables false
set_option linter.unusedSimpArgs false
namespace Go.Proofs.CW
open Go.RowKit Go.Shelf Go.Sort Go.Lib Go.Proofs.YtjfclkbdkafkcaaGreatDoorW.PrintWords Go.Proofs.YtjfclkbdkafkcaaGreatDoor.PF
attribute [local go_sem] Oper.semAt_some

/-- A part in a box, a result's cell. -/
structure BoxN (w W : World) (N : Nat) (a p : PS) : Prop where
  bel : Below w.heap.size w W
  nw : w.heap.size = N
  bx : PB W N a
  res : PB W (N + 1) p
theorem BoxN.below {w W W' : World} {N : Nat} {a p : PS} (h : BoxN w W N a p) (hb : Below W.heap.size W W') : BoxN w W' N a p :=
  ⟨h.bel.trans (hb.mono h.bel.size), h.nw, h.bx.below hb, h.res.below hb⟩
theorem BoxN.new (w : World) (a : PS) : BoxN w ((w.alloc (.cells #[.string a.1, .string a.2] 24)).alloc (.cells #[.string ⟨#[]⟩, .string ⟨#[]⟩] 24)) w.heap.size a (⟨#[]⟩, ⟨#[]⟩) := by
  have k1 := (PB.new w a.1 a.2).alloc (.cells #[.string ⟨#[]⟩, .string ⟨#[]⟩] 24)
  have k2 := PB.new (w.alloc (.cells #[.string a.1, .string a.2] 24)) ⟨#[]⟩ ⟨#[]⟩
  rw [World.size_alloc] at k2
  exact ⟨((Below.refl _ w).alloc (Nat.le_refl _) _).alloc (by simp) _, rfl, k1, k2⟩
theorem boxN_end {w W : World} {N : Nat} {u v : Value} (h : Below w.heap.size w W) (hn : w.heap.size = N) : Below w.heap.size w ((W.setCell ⟨N + 1, 0, none⟩ u).setCell ⟨N + 1, 1, none⟩ v) :=
  (h.setCell (p := ⟨N + 1, 0, none⟩) (by show _ ≤ N + 1; omega) _).setCell (p := ⟨N + 1, 1, none⟩) (by show _ ≤ N + 1; omega) _
theorem boxN_endN {w W : World} {N : Nat} {u v : Value} (h : Below w.heap.size w W) (hn : w.heap.size = N) : Below N w ((W.setCell ⟨N + 1, 0, none⟩ u).setCell ⟨N + 1, 1, none⟩ v) := by
  subst hn; exact boxN_end h rfl
theorem oneB_set {N : Nat} {a : PS} {W : World} (h : OneB N a W) (u v : Value) : OneB N a ((W.setCell ⟨N + 1, 0, none⟩ u).setCell ⟨N + 1, 1, none⟩ v) :=
  ⟨cell_far (cell_far h.1 (by show N ≠ N + 1; omega)) (by show N ≠ N + 1; omega), cell_far (cell_far h.2 (by show N ≠ N + 1; omega)) (by show N ≠ N + 1; omega)⟩
theorem small_p1 : Small p1 := Small.of is_p1.ok
set_option maxRecDepth 100000 in
set_option maxHeartbeats 1000000 in
theorem not_calls (a : PS) (sa : Small a) (w : World) (ht : Tab w) :
    Calls Tryz.prog 40 #[pv a] w fun e W => e = .returned (rv (subR p1 a)) ∧ Below w.heap.size w W := by
  obtain ⟨an, ad⟩ := a
  have HT := Lib.hid (fun W (hb : Below w.heap.size w W) => sub_calls p1 (an, ad) small_p1 sa W (ht.below hb))
  have h0 := BoxN.new w (an, ad)
  obtain ⟨N, hN⟩ : ∃ N, w.heap.size = N := ⟨_, rfl⟩
  simp only [hN] at h0
  obtain ⟨s, t, x, hR⟩ : ∃ s t x, subR p1 (an, ad) = ((s, t), x) := ⟨_, _, _, rfl⟩
  rw [hR] at HT ⊢
  clear hR sa ht
  go_enter Tryz.func40, Tryz.ntmps40
  go_wp2_with fail
  obtain ⟨W0, hW0⟩ : ∃ W0, (w.alloc (.cells #[.string an, .string ad] 24)).alloc (.cells #[.string ⟨#[]⟩, .string ⟨#[]⟩] 24) = W0 := ⟨_, rfl⟩
  rw [hW0] at h0 ⊢
  have H0 := Lib.hid h0
  clear h0 hW0
  refine (HT.out W0 H0.out.bel).mono ?_
  rintro e W1 ⟨rfl, hb⟩
  have H1 := Lib.hid (H0.out.below hb)
  clear hb
  obtain ⟨q1, q2, q3, q4⟩ := H1.out.res.cell
  simp only [rv_eq2]
  go_wp2_with fail
  have hn := H1.out.nw
  refine bodyPost_ret (results_pb rfl _ rfl (H1.out.res.set s t)) rfl ⟨rfl, ?_⟩
  first | exact boxN_end H1.out.bel hn | exact boxN_endN H1.out.bel hn
set_option maxRecDepth 100000 in
set_option maxHeartbeats 1000000 in
theorem rone_calls (w : World) : Calls Tryz.prog 96 #[] w fun e W => e = .returned (pv p1) ∧ Below w.heap.size w W := by
  have p0 := PB.new w s1 s1
  have b0 : Below w.heap.size w (w.alloc (.cells #[.string s1, .string s1] 24)) := (Below.refl _ w).alloc (Nat.le_refl _) _
  go_enter Tryz.func96, Tryz.ntmps96
  go_wp2_with fail
  refine bodyPost_ret (results_one rfl _ rfl p0) rfl ⟨rfl, b0⟩
theorem sz_p1 : Sz p1 := Sz.ok is_p1.ok
set_option maxRecDepth 100000 in
set_option maxHeartbeats 1000000 in
theorem rnot_calls (a : PS) (sa : Sz a) (w : World) :
    Calls Tryz.prog 41 #[pv a] w fun e W => e = .returned (rv (subR p1 a)) ∧ Below w.heap.size w W := by
  obtain ⟨an, ad⟩ := a
  have HT := Lib.hid (fun W => rsub_calls p1 (an, ad) sz_p1 sa W)
  have h0 := BoxN.new w (an, ad)
  obtain ⟨N, hN⟩ : ∃ N, w.heap.size = N := ⟨_, rfl⟩
  simp only [hN] at h0
  obtain ⟨s, t, x, hR⟩ : ∃ s t x, subR p1 (an, ad) = ((s, t), x) := ⟨_, _, _, rfl⟩
  rw [hR] at HT ⊢
  clear hR sa
  go_enter Tryz.func41, Tryz.ntmps41
  go_wp2_with fail
  obtain ⟨W0, hW0⟩ : ∃ W0, (w.alloc (.cells #[.string an, .string ad] 24)).alloc (.cells #[.string ⟨#[]⟩, .string ⟨#[]⟩] 24) = W0 := ⟨_, rfl⟩
  rw [hW0] at h0 ⊢
  have HX : Hid (BoxN w W0.drew N (an, ad) (⟨#[]⟩, ⟨#[]⟩)) := Lib.hid ⟨below_drew1 h0.bel, h0.nw, h0.bx, h0.res⟩
  clear h0 hW0
  refine region_tail (m := 6) (OneB N (an, ad)) 6 1 (by kernel_rfl) rfl ?_
  obtain ⟨W1, hW1⟩ : ∃ V, W0.drew = V := ⟨_, rfl⟩
  rw [hW1] at HX ⊢
  clear hW1
  have hS := oneB_of HX.out.bx
  refine T_take 1 _ _ rfl rfl (by kernel_rfl) (by kernel_rfl) (by kernel_rfl) (fun _ _ d _ _ h => by cases d <;> exact h) (by kernel_rfl) tail_only hS (by kernel_rfl) (fun W hW => by obtain ⟨zs1, zs2⟩ := hW; go_simp; try exact rfl) ?_
  try simp only [List.setIfInBounds_toArray, List.set_cons_zero, List.set_cons_succ]
  refine T_only 0 (by kernel_rfl) rfl (by kernel_rfl) ?_
  unfold Oper.wp
  go_simp
  refine (rone_calls W1).mono ?_
  rintro e W2 ⟨rfl, hb⟩
  have HY := Lib.hid (HX.out.below hb)
  clear hb
  refine ⟨oneB_of HY.out.bx, ?_⟩
  try simp only [List.setIfInBounds_toArray, List.set_cons_zero, List.set_cons_succ]
  refine T_only 2 (by kernel_rfl) rfl (by kernel_rfl) ?_
  unfold Oper.wp
  go_simp
  refine (HT.out W2).mono ?_
  rintro e W3 ⟨rfl, hb⟩
  have HZ := Lib.hid (HY.out.below hb)
  clear hb
  have hS2 := oneB_of HZ.out.bx
  simp only [rv_eq2]
  refine ⟨hS2, ?_⟩
  try simp only [List.setIfInBounds_toArray, List.set_cons_zero, List.set_cons_succ]
  refine T_take 3 _ _ rfl rfl (by kernel_rfl) (by kernel_rfl) (by kernel_rfl) (fun _ _ d _ _ h => by cases d <;> exact h) (by kernel_rfl) tail_only hS2 (by kernel_rfl) (fun W hW => by obtain ⟨zs1, zs2⟩ := hW; go_simp; try exact rfl) ?_
  try simp only [List.setIfInBounds_toArray, List.set_cons_zero, List.set_cons_succ]
  refine T_take 4 _ _ rfl rfl (by kernel_rfl) (by kernel_rfl) (by kernel_rfl) (fun _ _ d _ _ h => by cases d <;> exact h) (by kernel_rfl) tail_only hS2 (by kernel_rfl) (fun W hW => by obtain ⟨zs1, zs2⟩ := hW; go_simp; try exact rfl) ?_
  try simp only [List.setIfInBounds_toArray, List.set_cons_zero, List.set_cons_succ]
  obtain ⟨q1, q2, q3, q4⟩ := HZ.out.res.cell
  refine T_only 5 (by kernel_rfl) rfl (by kernel_rfl) ?_
  unfold Oper.wp
  go_simp
  refine ⟨oneB_set hS2 _ _, by kernel_rfl, ?_⟩
  try simp only [List.setIfInBounds_toArray, List.set_cons_zero, List.set_cons_succ]
  refine any_only 6 (by kernel_rfl) rfl (by kernel_rfl) ?_
  unfold Oper.wp
  go_simp
  refine any_done (by kernel_rfl) ?_
  clear q1 q2 q3 q4 hS hS2
  go_wp2_with fail
  have hn := HZ.out.nw
  refine bodyPost_ret (results_pb rfl _ rfl (HZ.out.res.set s t)) rfl ⟨rfl, ?_⟩
  first | exact boxN_end HZ.out.bel hn | exact boxN_endN HZ.out.bel hn
theorem cmpR_sg {a b : PS} {r : Int} (ha : okP a = true) (hb : okP b = true) (h : Sg r ((nval a.1 * nval b.2 : Nat) : Int) ((nval b.1 * nval a.2 : Nat) : Int)) : cmpR a b = r := by
  unfold cmpR
  rw [ha, hb, Bool.and_self, if_pos rfl]
  have h1 := rat_lt ha hb
  have h2 := rat_lt hb ha
  rcases h with ⟨rfl, h⟩ | ⟨rfl, h⟩ | ⟨rfl, h⟩
  · rw [if_pos (h1.2 (by omega))]
  · rw [if_neg (fun k => by have := h1.1 k; omega), if_neg (fun k => by have := h2.1 k; omega)]
  · rw [if_neg (fun k => by have := h1.1 k; omega), if_pos (h2.2 (by omega))]
theorem Box2.drew2 {w W : World} {N : Nat} {a b : PS} (h : Box2 w W N a b) : Box2 w W.drew N a b := ⟨below_drew1 h.bel, h.nw, h.bx, h.by_⟩
set_option maxRecDepth 100000 in
set_option maxHeartbeats 2000000 in
theorem rcmp_calls (a b : PS) (sa : Sz a) (sb : Sz b) (w : World) :
    Calls Tryz.prog 42 #[pv a, pv b] w fun e W => e = .returned (.int .i64 (cmpR a b)) ∧ Below w.heap.size w W := by
  obtain ⟨an, ad⟩ := a
  obtain ⟨bn, bd⟩ := b
  have HT := Lib.hid (And.intro sa sb)
  have h0 := Box2.new w (an, ad) (bn, bd)
  obtain ⟨N, hN⟩ : ∃ N, w.heap.size = N := ⟨_, rfl⟩
  simp only [hN] at h0
  clear sa sb
  go_enter Tryz.func42, Tryz.ntmps42
  go_wp2_with fail
  obtain ⟨W0, hW0⟩ : ∃ W0, ((w.alloc (.cells #[.string an, .string ad] 24)).alloc (.cells #[.string bn, .string bd] 24)) = W0 := ⟨_, rfl⟩
  rw [hW0] at h0 ⊢
  have H0 := Lib.hid h0
  clear h0 hW0
  refine (both_calls (an, ad) (bn, bd) HT.out.1 HT.out.2 W0).mono ?_
  rintro e W1 ⟨rfl, hb⟩
  have HX := Lib.hid (H0.out.below hb)
  clear hb H0
  by_cases hok : okP (an, ad) = true ∧ okP (bn, bd) = true
  case neg =>
    have HE := Lib.hid (cmpR_no (a := (an, ad)) (b := (bn, bd)) hok)
    rw [bothR_no hok]
    clear hok
    go_wp2_with fail
    go_ret
    exact ⟨by rw [HE.out]; rfl, HX.out.bel⟩
  rw [bothR_ok hok.1 hok.2]
  have HO := Lib.hid hok
  clear hok

  go_wp2_with fail
  obtain ⟨W2, hW2⟩ : ∃ V, W1.drew = V := ⟨_, rfl⟩
  have hS : BoxPS N (an, ad) (bn, bd) W1.drew := HX.out.s
  have hx := HX.out.drew2
  refine region_tail (m := 15) (BoxPS N (an, ad) (bn, bd)) 15 1 (by kernel_rfl) rfl ?_
  rw [hW2] at hS hx ⊢
  clear HX hW2
  have HX := Lib.hid hx
  clear hx
  refine T_take 0 _ _ rfl rfl (by kernel_rfl) (by kernel_rfl) (by kernel_rfl) (fun _ _ d _ _ h => by cases d <;> exact h) (by kernel_rfl) tail_only hS (by kernel_rfl) (fun W hW => by obtain ⟨zs1, zs2, zs3, zs4⟩ := hW; go_simp; try exact rfl) ?_
  try simp only [List.setIfInBounds_toArray, List.set_cons_zero, List.set_cons_succ]
  refine T_take 1 _ _ rfl rfl (by kernel_rfl) (by kernel_rfl) (by kernel_rfl) (fun _ _ d _ _ h => by cases d <;> exact h) (by kernel_rfl) tail_only hS (by kernel_rfl) (fun W hW => by obtain ⟨zs1, zs2, zs3, zs4⟩ := hW; go_simp; try exact rfl) ?_
  try simp only [List.setIfInBounds_toArray, List.set_cons_zero, List.set_cons_succ]
  refine T_take 3 _ _ rfl rfl (by kernel_rfl) (by kernel_rfl) (by kernel_rfl) (fun _ _ d _ _ h => by cases d <;> exact h) (by kernel_rfl) tail_only hS (by kernel_rfl) (fun W hW => by obtain ⟨zs1, zs2, zs3, zs4⟩ := hW; go_simp; try exact rfl) ?_
  try simp only [List.setIfInBounds_toArray, List.set_cons_zero, List.set_cons_succ]
  refine T_take 4 _ _ rfl rfl (by kernel_rfl) (by kernel_rfl) (by kernel_rfl) (fun _ _ d _ _ h => by cases d <;> exact h) (by kernel_rfl) tail_only hS (by kernel_rfl) (fun W hW => by obtain ⟨zs1, zs2, zs3, zs4⟩ := hW; go_simp; try exact rfl) ?_
  try simp only [List.setIfInBounds_toArray, List.set_cons_zero, List.set_cons_succ]
  refine T_take 7 _ _ rfl rfl (by kernel_rfl) (by kernel_rfl) (by kernel_rfl) (fun _ _ d _ _ h => by cases d <;> exact h) (by kernel_rfl) tail_only hS (by kernel_rfl) (fun W hW => by obtain ⟨zs1, zs2, zs3, zs4⟩ := hW; go_simp; try exact rfl) ?_
  try simp only [List.setIfInBounds_toArray, List.set_cons_zero, List.set_cons_succ]
  refine T_take 8 _ _ rfl rfl (by kernel_rfl) (by kernel_rfl) (by kernel_rfl) (fun _ _ d _ _ h => by cases d <;> exact h) (by kernel_rfl) tail_only hS (by kernel_rfl) (fun W hW => by obtain ⟨zs1, zs2, zs3, zs4⟩ := hW; go_simp; try exact rfl) ?_
  try simp only [List.setIfInBounds_toArray, List.set_cons_zero, List.set_cons_succ]
  refine T_take 10 _ _ rfl rfl (by kernel_rfl) (by kernel_rfl) (by kernel_rfl) (fun _ _ d _ _ h => by cases d <;> exact h) (by kernel_rfl) tail_only hS (by kernel_rfl) (fun W hW => by obtain ⟨zs1, zs2, zs3, zs4⟩ := hW; go_simp; try exact rfl) ?_
  try simp only [List.setIfInBounds_toArray, List.set_cons_zero, List.set_cons_succ]
  refine T_take 11 _ _ rfl rfl (by kernel_rfl) (by kernel_rfl) (by kernel_rfl) (fun _ _ d _ _ h => by cases d <;> exact h) (by kernel_rfl) tail_only hS (by kernel_rfl) (fun W hW => by obtain ⟨zs1, zs2, zs3, zs4⟩ := hW; go_simp; try exact rfl) ?_
  try simp only [List.setIfInBounds_toArray, List.set_cons_zero, List.set_cons_succ]
  refine T_only 2 (by kernel_rfl) rfl (by kernel_rfl) ?_
  unfold Oper.wp
  go_simp
  refine (rparts_calls an (okN_digits (okP_iff.1 HO.out.1).1.1) (Nat.le_trans (okN_size (okP_iff.1 HO.out.1).1.1) (by omega)) W2).mono ?_
  rintro e U1 ⟨A1, L1, C1, rfl, hu, hb⟩
  have hx := HX.out.below hb
  clear HX
  have HX := Lib.hid hx
  clear hx
  have HR1 := Lib.hid hu
  clear hb hu
  refine ⟨HX.out.s, ?_⟩
  try simp only [List.setIfInBounds_toArray, List.set_cons_zero, List.set_cons_succ]
  refine T_only 5 (by kernel_rfl) rfl (by kernel_rfl) ?_
  unfold Oper.wp
  go_simp
  refine (rparts_calls bd (okN_digits (okP_iff.1 HO.out.2).1.2) (Nat.le_trans (okN_size (okP_iff.1 HO.out.2).1.2) (by omega)) U1).mono ?_
  rintro e U2 ⟨A2, L2, C2, rfl, hu, hb⟩
  have hx := HX.out.below hb
  clear HX
  have HX := Lib.hid hx
  clear hx
  have hr := HR1.out.below hb
  clear HR1
  have HR1 := Lib.hid hr
  clear hr
  have HR2 := Lib.hid hu
  clear hb hu
  refine ⟨HX.out.s, ?_⟩
  try simp only [List.setIfInBounds_toArray, List.set_cons_zero, List.set_cons_succ]
  refine T_only 6 (by kernel_rfl) rfl (by kernel_rfl) ?_
  unfold Oper.wp
  go_simp
  refine (rtimes_calls (.slice A1 L1 C1) (.slice A2 L2 C2) _ _ U2 HR1.out HR2.out ((rfit_nval (okP_iff.1 HO.out.1).1.1).up (by omega)) ((rfit_nval (okP_iff.1 HO.out.2).1.2).up (by omega))).mono ?_
  rintro e U3 ⟨A3, L3, C3, rfl, hu, hb⟩
  have hx := HX.out.below hb
  clear HX
  have HX := Lib.hid hx
  clear hx
  have hr := HR1.out.below hb
  clear HR1
  have HR1 := Lib.hid hr
  clear hr
  have hr := HR2.out.below hb
  clear HR2
  have HR2 := Lib.hid hr
  clear hr
  have HR3 := Lib.hid hu
  clear hb hu
  refine ⟨HX.out.s, ?_⟩
  try simp only [List.setIfInBounds_toArray, List.set_cons_zero, List.set_cons_succ]
  refine T_only 9 (by kernel_rfl) rfl (by kernel_rfl) ?_
  unfold Oper.wp
  go_simp
  refine (rparts_calls bn (okN_digits (okP_iff.1 HO.out.2).1.1) (Nat.le_trans (okN_size (okP_iff.1 HO.out.2).1.1) (by omega)) U3).mono ?_
  rintro e U4 ⟨A4, L4, C4, rfl, hu, hb⟩
  have hx := HX.out.below hb
  clear HX
  have HX := Lib.hid hx
  clear hx
  have hr := HR1.out.below hb
  clear HR1
  have HR1 := Lib.hid hr
  clear hr
  have hr := HR2.out.below hb
  clear HR2
  have HR2 := Lib.hid hr
  clear hr
  have hr := HR3.out.below hb
  clear HR3
  have HR3 := Lib.hid hr
  clear hr
  have HR4 := Lib.hid hu
  clear hb hu
  refine ⟨HX.out.s, ?_⟩
  try simp only [List.setIfInBounds_toArray, List.set_cons_zero, List.set_cons_succ]
  refine T_only 12 (by kernel_rfl) rfl (by kernel_rfl) ?_
  unfold Oper.wp
  go_simp
  refine (rparts_calls ad (okN_digits (okP_iff.1 HO.out.1).1.2) (Nat.le_trans (okN_size (okP_iff.1 HO.out.1).1.2) (by omega)) U4).mono ?_
  rintro e U5 ⟨A5, L5, C5, rfl, hu, hb⟩
  have hx := HX.out.below hb
  clear HX
  have HX := Lib.hid hx
  clear hx
  have hr := HR1.out.below hb
  clear HR1
  have HR1 := Lib.hid hr
  clear hr
  have hr := HR2.out.below hb
  clear HR2
  have HR2 := Lib.hid hr
  clear hr
  have hr := HR3.out.below hb
  clear HR3
  have HR3 := Lib.hid hr
  clear hr
  have hr := HR4.out.below hb
  clear HR4
  have HR4 := Lib.hid hr
  clear hr
  have HR5 := Lib.hid hu
  clear hb hu
  refine ⟨HX.out.s, ?_⟩
  try simp only [List.setIfInBounds_toArray, List.set_cons_zero, List.set_cons_succ]
  refine T_only 13 (by kernel_rfl) rfl (by kernel_rfl) ?_
  unfold Oper.wp
  go_simp
  refine (rtimes_calls (.slice A4 L4 C4) (.slice A5 L5 C5) _ _ U5 HR4.out HR5.out ((rfit_nval (okP_iff.1 HO.out.2).1.1).up (by omega)) ((rfit_nval (okP_iff.1 HO.out.1).1.2).up (by omega))).mono ?_
  rintro e U6 ⟨A6, L6, C6, rfl, hu, hb⟩
  have hx := HX.out.below hb
  clear HX
  have HX := Lib.hid hx
  clear hx
  have hr := HR1.out.below hb
  clear HR1
  have HR1 := Lib.hid hr
  clear hr
  have hr := HR2.out.below hb
  clear HR2
  have HR2 := Lib.hid hr
  clear hr
  have hr := HR3.out.below hb
  clear HR3
  have HR3 := Lib.hid hr
  clear hr
  have hr := HR4.out.below hb
  clear HR4
  have HR4 := Lib.hid hr
  clear hr
  have hr := HR5.out.below hb
  clear HR5
  have HR5 := Lib.hid hr
  clear hr
  have HR6 := Lib.hid hu
  clear hb hu
  refine ⟨HX.out.s, ?_⟩
  try simp only [List.setIfInBounds_toArray, List.set_cons_zero, List.set_cons_succ]
  refine T_only 14 (by kernel_rfl) rfl (by kernel_rfl) ?_
  unfold Oper.wp
  go_simp
  refine (rorder_calls (.slice A3 L3 C3) (.slice A6 L6 C6) _ _ U6 HR3.out HR6.out (((rfit_nval (okP_iff.1 HO.out.1).1.1).mul (rfit_nval (okP_iff.1 HO.out.2).1.2)).up (by omega)) (((rfit_nval (okP_iff.1 HO.out.2).1.1).mul (rfit_nval (okP_iff.1 HO.out.1).1.2)).up (by omega))).mono ?_
  rintro e U7 ⟨q, rfl, hsg, hb⟩
  have HY := Lib.hid (HX.out.below hb)
  have HE := Lib.hid (cmpR_sg HO.out.1 HO.out.2 hsg)
  clear hb hsg
  refine ⟨HY.out.s, by kernel_rfl, ?_⟩
  try simp only [List.setIfInBounds_toArray, List.set_cons_zero, List.set_cons_succ]
  refine any_only 15 (by kernel_rfl) rfl (by kernel_rfl) ?_
  unfold Oper.wp
  go_simp
  refine any_done (by kernel_rfl) ?_
  clear hS
  go_wp2_with fail
  go_ret
  exact ⟨by rw [HE.out]; rfl, HY.out.bel⟩
  end Go.Proofs.CW
namespace Go.Proofs.CW
open Go.RowKit Go.Shelf Go.Sort Go.Lib Go.Proofs.YtjfclkbdkafkcaaGreatDoorW.PrintWords Go.Proofs.YtjfclkbdkafkcaaGreatDoor.PF
attribute [local go_sem] Oper.semAt_some

set_option maxRecDepth 100000 in
set_option maxHeartbeats 16000000 in
theorem sums_walk (a b : PS) (sa : Small a) (sb : Small b) (w : World) (ht : Tab w) : Calls Tryz.prog 10 #[pv a, pv b] w fun e W => e = .returned (.bool true) ∧ Below w.heap.size w W := by
  obtain ⟨an, ad⟩ := a
  obtain ⟨bn, bd⟩ := b
  obtain ⟨cs, ct, cx, hc⟩ : ∃ s t x, addR (an, ad) (bn, bd) = ((s, t), x) := ⟨_, _, _, rfl⟩
  have HRc := Lib.hid hc
  clear hc
  obtain ⟨gs, gt, gx, hg⟩ : ∃ s t x, subR (an, ad) (bn, bd) = ((s, t), x) := ⟨_, _, _, rfl⟩
  have HRg := Lib.hid hg
  clear hg
  obtain ⟨ks, kt, kx, hk⟩ : ∃ s t x, subR p1 (an, ad) = ((s, t), x) := ⟨_, _, _, rfl⟩
  have HRk := Lib.hid hk
  clear hk
  obtain ⟨q, hq⟩ : ∃ q, cmpR (an, ad) (bn, bd) = q := ⟨_, rfl⟩
  have HRq := Lib.hid hq
  clear hq
  have HT := Lib.hid ht
  have P0 := ((PBs.nil w).box an ad).box bn bd
  simp only [World.size_alloc] at P0
  have b0 : Below w.heap.size w ((w.alloc (.cells #[.string an, .string ad] 24)).alloc (.cells #[.string bn, .string bd] 24)) := ((Below.refl _ w).alloc (Nat.le_refl _) _).alloc (by simp) _
  have HS := Lib.hid (And.intro sa sb)
  obtain ⟨N, hN⟩ : ∃ N, w.heap.size = N := ⟨_, rfl⟩
  rw [hN] at P0
  clear sa sb ht
  simp only [pv_eq]
  have HP := Lib.hid P0
  have HB := Lib.hid b0
  clear P0 b0
  go_enter Tryz.func10, Tryz.ntmps10
  go_wp2_with fail
  obtain ⟨V0, hV0⟩ : ∃ V, ((w.alloc (.cells #[.string an, .string ad] 24)).alloc (.cells #[.string bn, .string bd] 24)) = V := ⟨_, rfl⟩
  have hz : V0.heap.size = N + 1 + 1 := by rw [← hV0, World.size_alloc, World.size_alloc, hN]
  rw [hV0] at HP HB ⊢
  obtain ⟨j1, j2, j3⟩ := row_step HB.out [(an, ad), (bn, bd)] 24 (by simp)
  rw [hz] at j2
  refine (short_list 610 _ _ [(an, ad), (bn, bd)] (by simp) (by intro p hp; simp at hp; rcases hp with rfl | rfl; exact HS.out.1; exact HS.out.2) _ j2).mono ?_
  rintro e V1 ⟨rfl, hb⟩
  have hp2 := (HP.out.below j3).below hb
  have hb2 := j1.trans (hb.mono j1.size)
  clear hb j1 j2 j3 HP HB hz hV0
  have HP := Lib.hid hp2
  have HB := Lib.hid hb2
  clear hp2 hb2
  by_cases hsh : shortB 610 [(an, ad), (bn, bd)] = true
  case neg =>
    have hsf : shortB 610 [(an, ad), (bn, bd)] = false := by simpa using hsh
    rw [hsf]
    clear hsh hsf
    go_wp2_with fail
    refine (alive_calls V1 (HT.out.below HB.out)).mono ?_
    rintro e V2 ⟨rfl, hb⟩
    have HB2 := Lib.hid (HB.out.trans (hb.mono HB.out.size))
    clear hb
    go_wp2_with fail
    go_ret
    first | exact ⟨rfl, HB2.out⟩ | exact ⟨rfl, hN ▸ HB2.out⟩
  rw [hsh]
  have HZ := Lib.hid (sz_of hsh)
  clear hsh
  have f0a := (HP.out.at (i := 0) (N := N) (p := (an, ad)) rfl).cell.1
  have f0b := (HP.out.at (i := 0) (N := N) (p := (an, ad)) rfl).cell.2.1
  have f1a := (HP.out.at (i := 1) (N := N + 1) (p := (bn, bd)) rfl).cell.1
  have f1b := (HP.out.at (i := 1) (N := N + 1) (p := (bn, bd)) rfl).cell.2.1
  go_wp2_with fail
  refine (add_calls (an, ad) (bn, bd) HS.out.1 HS.out.2 V1 (HT.out.below HB.out)).mono ?_
  rintro e V2 ⟨rfl, hb⟩
  rw [HRc.out]
  have HP2 := HP.out.below hb
  have HB2 := HB.out.trans (hb.mono HB.out.size)
  have HP3 := HP2.box cs ct
  have HB3 := HB2.alloc (o := .cells #[.string cs, .string ct] 24) HB2.size
  try clear f0a f0b
  try clear f1a f1b
  try clear f2a f2b
  try clear f3a f3b
  clear HP HB HP2 HB2 hb
  have HP := Lib.hid HP3
  have HB := Lib.hid HB3
  clear HP3 HB3
  have f0a := (HP.out.at (i := 0) (N := N) (p := (an, ad)) rfl).cell.1
  have f0b := (HP.out.at (i := 0) (N := N) (p := (an, ad)) rfl).cell.2.1
  have f1a := (HP.out.at (i := 1) (N := N + 1) (p := (bn, bd)) rfl).cell.1
  have f1b := (HP.out.at (i := 1) (N := N + 1) (p := (bn, bd)) rfl).cell.2.1
  simp only [rv_eq]
  go_wp2_with fail
  obtain ⟨M1, hM1⟩ : ∃ N, V2.heap.size = N := ⟨_, rfl⟩
  obtain ⟨X2, hX⟩ : ∃ V, V2.alloc (.cells #[.string cs, .string ct] 24) = V := ⟨_, rfl⟩
  rw [hX, hM1] at HP
  rw [hX] at HB ⊢
  try rw [hM1]
  clear hX
  refine (radd_calls (an, ad) (bn, bd) HZ.out.1 HZ.out.2 X2).mono ?_
  rintro e V3 ⟨rfl, hb⟩
  rw [HRc.out]
  have HP2 := HP.out.below hb
  have HB2 := HB.out.trans (hb.mono HB.out.size)
  have HP3 := HP2.box cs ct
  have HB3 := HB2.alloc (o := .cells #[.string cs, .string ct] 24) HB2.size
  try clear f0a f0b
  try clear f1a f1b
  try clear f2a f2b
  try clear f3a f3b
  clear HP HB HP2 HB2 hb
  have HP := Lib.hid HP3
  have HB := Lib.hid HB3
  clear HP3 HB3
  have f0a := (HP.out.at (i := 0) (N := N) (p := (an, ad)) rfl).cell.1
  have f0b := (HP.out.at (i := 0) (N := N) (p := (an, ad)) rfl).cell.2.1
  have f1a := (HP.out.at (i := 1) (N := N + 1) (p := (bn, bd)) rfl).cell.1
  have f1b := (HP.out.at (i := 1) (N := N + 1) (p := (bn, bd)) rfl).cell.2.1
  simp only [rv_eq]
  go_wp2_with fail
  obtain ⟨M2, hM2⟩ : ∃ N, V3.heap.size = N := ⟨_, rfl⟩
  obtain ⟨X3, hX⟩ : ∃ V, V3.alloc (.cells #[.string cs, .string ct] 24) = V := ⟨_, rfl⟩
  rw [hX, hM2] at HP
  rw [hX] at HB ⊢
  try rw [hM2]
  clear hX
  refine (sub_calls (an, ad) (bn, bd) HS.out.1 HS.out.2 X3 (HT.out.below HB.out)).mono ?_
  rintro e V4 ⟨rfl, hb⟩
  rw [HRg.out]
  have HP2 := HP.out.below hb
  have HB2 := HB.out.trans (hb.mono HB.out.size)
  have HP3 := HP2.box gs gt
  have HB3 := HB2.alloc (o := .cells #[.string gs, .string gt] 24) HB2.size
  try clear f0a f0b
  try clear f1a f1b
  try clear f2a f2b
  try clear f3a f3b
  clear HP HB HP2 HB2 hb
  have HP := Lib.hid HP3
  have HB := Lib.hid HB3
  clear HP3 HB3
  have f0a := (HP.out.at (i := 0) (N := N) (p := (an, ad)) rfl).cell.1
  have f0b := (HP.out.at (i := 0) (N := N) (p := (an, ad)) rfl).cell.2.1
  have f1a := (HP.out.at (i := 1) (N := N + 1) (p := (bn, bd)) rfl).cell.1
  have f1b := (HP.out.at (i := 1) (N := N + 1) (p := (bn, bd)) rfl).cell.2.1
  simp only [rv_eq]
  go_wp2_with fail
  obtain ⟨M3, hM3⟩ : ∃ N, V4.heap.size = N := ⟨_, rfl⟩
  obtain ⟨X4, hX⟩ : ∃ V, V4.alloc (.cells #[.string gs, .string gt] 24) = V := ⟨_, rfl⟩
  rw [hX, hM3] at HP
  rw [hX] at HB ⊢
  try rw [hM3]
  clear hX
  refine (rsub_calls (an, ad) (bn, bd) HZ.out.1 HZ.out.2 X4).mono ?_
  rintro e V5 ⟨rfl, hb⟩
  rw [HRg.out]
  have HP2 := HP.out.below hb
  have HB2 := HB.out.trans (hb.mono HB.out.size)
  have HP3 := HP2.box gs gt
  have HB3 := HB2.alloc (o := .cells #[.string gs, .string gt] 24) HB2.size
  try clear f0a f0b
  try clear f1a f1b
  try clear f2a f2b
  try clear f3a f3b
  clear HP HB HP2 HB2 hb
  have HP := Lib.hid HP3
  have HB := Lib.hid HB3
  clear HP3 HB3
  have f0a := (HP.out.at (i := 0) (N := N) (p := (an, ad)) rfl).cell.1
  have f0b := (HP.out.at (i := 0) (N := N) (p := (an, ad)) rfl).cell.2.1
  simp only [rv_eq]
  go_wp2_with fail
  obtain ⟨M4, hM4⟩ : ∃ N, V5.heap.size = N := ⟨_, rfl⟩
  obtain ⟨X5, hX⟩ : ∃ V, V5.alloc (.cells #[.string gs, .string gt] 24) = V := ⟨_, rfl⟩
  rw [hX, hM4] at HP
  rw [hX] at HB ⊢
  try rw [hM4]
  clear hX
  refine (not_calls (an, ad) HS.out.1 X5 (HT.out.below HB.out)).mono ?_
  rintro e V6 ⟨rfl, hb⟩
  rw [HRk.out]
  have HP2 := HP.out.below hb
  have HB2 := HB.out.trans (hb.mono HB.out.size)
  have HP3 := HP2.box ks kt
  have HB3 := HB2.alloc (o := .cells #[.string ks, .string kt] 24) HB2.size
  try clear f0a f0b
  try clear f1a f1b
  try clear f2a f2b
  try clear f3a f3b
  clear HP HB HP2 HB2 hb
  have HP := Lib.hid HP3
  have HB := Lib.hid HB3
  clear HP3 HB3
  have f0a := (HP.out.at (i := 0) (N := N) (p := (an, ad)) rfl).cell.1
  have f0b := (HP.out.at (i := 0) (N := N) (p := (an, ad)) rfl).cell.2.1
  simp only [rv_eq]
  go_wp2_with fail
  obtain ⟨M5, hM5⟩ : ∃ N, V6.heap.size = N := ⟨_, rfl⟩
  obtain ⟨X6, hX⟩ : ∃ V, V6.alloc (.cells #[.string ks, .string kt] 24) = V := ⟨_, rfl⟩
  rw [hX, hM5] at HP
  rw [hX] at HB ⊢
  try rw [hM5]
  clear hX
  refine (rnot_calls (an, ad) HZ.out.1 X6).mono ?_
  rintro e V7 ⟨rfl, hb⟩
  rw [HRk.out]
  have HP2 := HP.out.below hb
  have HB2 := HB.out.trans (hb.mono HB.out.size)
  have HP3 := HP2.box ks kt
  have HB3 := HB2.alloc (o := .cells #[.string ks, .string kt] 24) HB2.size
  try clear f0a f0b
  try clear f1a f1b
  try clear f2a f2b
  try clear f3a f3b
  clear HP HB HP2 HB2 hb
  have HP := Lib.hid HP3
  have HB := Lib.hid HB3
  clear HP3 HB3
  simp only [rv_eq]
  go_wp2_with fail
  obtain ⟨M6, hM6⟩ : ∃ N, V7.heap.size = N := ⟨_, rfl⟩
  obtain ⟨X7, hX⟩ : ∃ V, V7.alloc (.cells #[.string ks, .string kt] 24) = V := ⟨_, rfl⟩
  rw [hX, hM6] at HP
  rw [hX] at HB ⊢
  try rw [hM6]
  clear hX
  have hL : PBs X7 [(N, (an, ad)), (N + 1, (bn, bd)), (M1, (cs, ct)), (M2, (cs, ct)), (M3, (gs, gt)), (M4, (gs, gt)), (M5, (ks, kt)), (M6, (ks, kt))] := HP.out
  have hLd : PBs X7.drew [(N, (an, ad)), (N + 1, (bn, bd)), (M1, (cs, ct)), (M2, (cs, ct)), (M3, (gs, gt)), (M4, (gs, gt)), (M5, (ks, kt)), (M6, (ks, kt))] := hL
  have hBd := below_drew1 HB.out
  refine region_tail (m := 31) (fun W => PBs W [(N, (an, ad)), (N + 1, (bn, bd)), (M1, (cs, ct)), (M2, (cs, ct)), (M3, (gs, gt)), (M4, (gs, gt)), (M5, (ks, kt)), (M6, (ks, kt))]) 31 1 (by kernel_rfl) rfl ?_
  obtain ⟨Y0, hY0⟩ : ∃ V, X7.drew = V := ⟨_, rfl⟩
  rw [hY0] at hLd hBd ⊢
  clear hL hY0 HP HB
  refine T_take 0 _ _ rfl rfl (by kernel_rfl) (by kernel_rfl) (by kernel_rfl) (fun _ _ d _ _ h => by cases d <;> exact h) (by kernel_rfl) tail_only hLd (by kernel_rfl) (fun W hW => by obtain ⟨z1, z2, z3, z4⟩ := (PBs.at (L := [(N, (an, ad)), (N + 1, (bn, bd)), (M1, (cs, ct)), (M2, (cs, ct)), (M3, (gs, gt)), (M4, (gs, gt)), (M5, (ks, kt)), (M6, (ks, kt))]) hW (i := 2) (N := M1) (p := (cs, ct)) rfl).cell; go_simp; try exact rfl) ?_
  try simp only [List.setIfInBounds_toArray, List.set_cons_zero, List.set_cons_succ]
  refine T_take 1 _ _ rfl rfl (by kernel_rfl) (by kernel_rfl) (by kernel_rfl) (fun _ _ d _ _ h => by cases d <;> exact h) (by kernel_rfl) tail_only hLd (by kernel_rfl) (fun W hW => by go_simp; try exact rfl) ?_
  try simp only [List.setIfInBounds_toArray, List.set_cons_zero, List.set_cons_succ]
  refine T_take 2 _ _ rfl rfl (by kernel_rfl) (by kernel_rfl) (by kernel_rfl) (fun _ _ d _ _ h => by cases d <;> exact h) (by kernel_rfl) tail_only hLd (by kernel_rfl) (fun W hW => by obtain ⟨z1, z2, z3, z4⟩ := (PBs.at (L := [(N, (an, ad)), (N + 1, (bn, bd)), (M1, (cs, ct)), (M2, (cs, ct)), (M3, (gs, gt)), (M4, (gs, gt)), (M5, (ks, kt)), (M6, (ks, kt))]) hW (i := 3) (N := M2) (p := (cs, ct)) rfl).cell; go_simp; try exact rfl) ?_
  try simp only [List.setIfInBounds_toArray, List.set_cons_zero, List.set_cons_succ]
  refine T_take 3 _ _ rfl rfl (by kernel_rfl) (by kernel_rfl) (by kernel_rfl) (fun _ _ d _ _ h => by cases d <;> exact h) (by kernel_rfl) tail_only hLd (by kernel_rfl) (fun W hW => by go_simp; try exact rfl) ?_
  try simp only [List.setIfInBounds_toArray, List.set_cons_zero, List.set_cons_succ]
  refine T_only 4 (by kernel_rfl) rfl (by kernel_rfl) ?_
  unfold Oper.wp
  go_simp
  refine (same_calls (cs, ct) cx Y0).mono ?_
  rintro e Y1 ⟨rfl, hb⟩
  have hL2 := hLd.below hb
  have hB2 := hBd.trans (hb.mono hBd.size)
  clear hLd hBd hb
  have hLd := hL2
  have hBd := hB2
  clear hL2 hB2
  refine ⟨hLd, ?_⟩
  try simp only [List.setIfInBounds_toArray, List.set_cons_zero, List.set_cons_succ]
  refine T_take 5 _ _ rfl rfl (by kernel_rfl) (by kernel_rfl) (by kernel_rfl) (fun _ _ d _ _ h => by cases d <;> exact h) (by kernel_rfl) tail_only hLd (by kernel_rfl) (fun W hW => by go_simp; try exact rfl) ?_
  try simp only [List.setIfInBounds_toArray, List.set_cons_zero, List.set_cons_succ]
  refine T_take 6 _ _ rfl rfl (by kernel_rfl) (by kernel_rfl) (by kernel_rfl) (fun _ _ d _ _ h => by cases d <;> exact h) (by kernel_rfl) tail_only hLd (by kernel_rfl) (fun W hW => by obtain ⟨z1, z2, z3, z4⟩ := (PBs.at (L := [(N, (an, ad)), (N + 1, (bn, bd)), (M1, (cs, ct)), (M2, (cs, ct)), (M3, (gs, gt)), (M4, (gs, gt)), (M5, (ks, kt)), (M6, (ks, kt))]) hW (i := 4) (N := M3) (p := (gs, gt)) rfl).cell; go_simp; try exact rfl) ?_
  try simp only [List.setIfInBounds_toArray, List.set_cons_zero, List.set_cons_succ]
  refine T_take 7 _ _ rfl rfl (by kernel_rfl) (by kernel_rfl) (by kernel_rfl) (fun _ _ d _ _ h => by cases d <;> exact h) (by kernel_rfl) tail_only hLd (by kernel_rfl) (fun W hW => by go_simp; try exact rfl) ?_
  try simp only [List.setIfInBounds_toArray, List.set_cons_zero, List.set_cons_succ]
  refine T_take 8 _ _ rfl rfl (by kernel_rfl) (by kernel_rfl) (by kernel_rfl) (fun _ _ d _ _ h => by cases d <;> exact h) (by kernel_rfl) tail_only hLd (by kernel_rfl) (fun W hW => by obtain ⟨z1, z2, z3, z4⟩ := (PBs.at (L := [(N, (an, ad)), (N + 1, (bn, bd)), (M1, (cs, ct)), (M2, (cs, ct)), (M3, (gs, gt)), (M4, (gs, gt)), (M5, (ks, kt)), (M6, (ks, kt))]) hW (i := 5) (N := M4) (p := (gs, gt)) rfl).cell; go_simp; try exact rfl) ?_
  try simp only [List.setIfInBounds_toArray, List.set_cons_zero, List.set_cons_succ]
  refine T_take 9 _ _ rfl rfl (by kernel_rfl) (by kernel_rfl) (by kernel_rfl) (fun _ _ d _ _ h => by cases d <;> exact h) (by kernel_rfl) tail_only hLd (by kernel_rfl) (fun W hW => by go_simp; try exact rfl) ?_
  try simp only [List.setIfInBounds_toArray, List.set_cons_zero, List.set_cons_succ]
  refine T_only 10 (by kernel_rfl) rfl (by kernel_rfl) ?_
  unfold Oper.wp
  go_simp
  refine (same_calls (gs, gt) gx Y1).mono ?_
  rintro e Y2 ⟨rfl, hb⟩
  have hL2 := hLd.below hb
  have hB2 := hBd.trans (hb.mono hBd.size)
  clear hLd hBd hb
  have hLd := hL2
  have hBd := hB2
  clear hL2 hB2
  refine ⟨hLd, ?_⟩
  try simp only [List.setIfInBounds_toArray, List.set_cons_zero, List.set_cons_succ]
  refine T_take 11 _ _ rfl rfl (by kernel_rfl) (by kernel_rfl) (by kernel_rfl) (fun _ _ d _ _ h => by cases d <;> exact h) (by kernel_rfl) tail_only hLd (by kernel_rfl) (fun W hW => by go_simp; try exact rfl) ?_
  try simp only [List.setIfInBounds_toArray, List.set_cons_zero, List.set_cons_succ]
  refine T_take 12 _ _ rfl rfl (by kernel_rfl) (by kernel_rfl) (by kernel_rfl) (fun _ _ d _ _ h => by cases d <;> exact h) (by kernel_rfl) tail_only hLd (by kernel_rfl) (fun W hW => by go_simp; try exact rfl) ?_
  try simp only [List.setIfInBounds_toArray, List.set_cons_zero, List.set_cons_succ]
  refine T_take 13 _ _ rfl rfl (by kernel_rfl) (by kernel_rfl) (by kernel_rfl) (fun _ _ d _ _ h => by cases d <;> exact h) (by kernel_rfl) tail_only hLd (by kernel_rfl) (fun W hW => by obtain ⟨z1, z2, z3, z4⟩ := (PBs.at (L := [(N, (an, ad)), (N + 1, (bn, bd)), (M1, (cs, ct)), (M2, (cs, ct)), (M3, (gs, gt)), (M4, (gs, gt)), (M5, (ks, kt)), (M6, (ks, kt))]) hW (i := 6) (N := M5) (p := (ks, kt)) rfl).cell; go_simp; try exact rfl) ?_
  try simp only [List.setIfInBounds_toArray, List.set_cons_zero, List.set_cons_succ]
  refine T_take 14 _ _ rfl rfl (by kernel_rfl) (by kernel_rfl) (by kernel_rfl) (fun _ _ d _ _ h => by cases d <;> exact h) (by kernel_rfl) tail_only hLd (by kernel_rfl) (fun W hW => by go_simp; try exact rfl) ?_
  try simp only [List.setIfInBounds_toArray, List.set_cons_zero, List.set_cons_succ]
  refine T_take 15 _ _ rfl rfl (by kernel_rfl) (by kernel_rfl) (by kernel_rfl) (fun _ _ d _ _ h => by cases d <;> exact h) (by kernel_rfl) tail_only hLd (by kernel_rfl) (fun W hW => by obtain ⟨z1, z2, z3, z4⟩ := (PBs.at (L := [(N, (an, ad)), (N + 1, (bn, bd)), (M1, (cs, ct)), (M2, (cs, ct)), (M3, (gs, gt)), (M4, (gs, gt)), (M5, (ks, kt)), (M6, (ks, kt))]) hW (i := 7) (N := M6) (p := (ks, kt)) rfl).cell; go_simp; try exact rfl) ?_
  try simp only [List.setIfInBounds_toArray, List.set_cons_zero, List.set_cons_succ]
  refine T_take 16 _ _ rfl rfl (by kernel_rfl) (by kernel_rfl) (by kernel_rfl) (fun _ _ d _ _ h => by cases d <;> exact h) (by kernel_rfl) tail_only hLd (by kernel_rfl) (fun W hW => by go_simp; try exact rfl) ?_
  try simp only [List.setIfInBounds_toArray, List.set_cons_zero, List.set_cons_succ]
  refine T_only 17 (by kernel_rfl) rfl (by kernel_rfl) ?_
  unfold Oper.wp
  go_simp
  refine (same_calls (ks, kt) kx Y2).mono ?_
  rintro e Y3 ⟨rfl, hb⟩
  have hL2 := hLd.below hb
  have hB2 := hBd.trans (hb.mono hBd.size)
  clear hLd hBd hb
  have hLd := hL2
  have hBd := hB2
  clear hL2 hB2
  refine ⟨hLd, ?_⟩
  try simp only [List.setIfInBounds_toArray, List.set_cons_zero, List.set_cons_succ]
  refine T_take 18 _ _ rfl rfl (by kernel_rfl) (by kernel_rfl) (by kernel_rfl) (fun _ _ d _ _ h => by cases d <;> exact h) (by kernel_rfl) tail_only hLd (by kernel_rfl) (fun W hW => by go_simp; try exact rfl) ?_
  try simp only [List.setIfInBounds_toArray, List.set_cons_zero, List.set_cons_succ]
  refine T_take 19 _ _ rfl rfl (by kernel_rfl) (by kernel_rfl) (by kernel_rfl) (fun _ _ d _ _ h => by cases d <;> exact h) (by kernel_rfl) tail_only hLd (by kernel_rfl) (fun W hW => by go_simp; try exact rfl) ?_
  try simp only [List.setIfInBounds_toArray, List.set_cons_zero, List.set_cons_succ]
  refine T_take 20 _ _ rfl rfl (by kernel_rfl) (by kernel_rfl) (by kernel_rfl) (fun _ _ d _ _ h => by cases d <;> exact h) (by kernel_rfl) tail_only hLd (by kernel_rfl) (fun W hW => by obtain ⟨z1, z2, z3, z4⟩ := (PBs.at (L := [(N, (an, ad)), (N + 1, (bn, bd)), (M1, (cs, ct)), (M2, (cs, ct)), (M3, (gs, gt)), (M4, (gs, gt)), (M5, (ks, kt)), (M6, (ks, kt))]) hW (i := 0) (N := N) (p := (an, ad)) rfl).cell; go_simp; try exact rfl) ?_
  try simp only [List.setIfInBounds_toArray, List.set_cons_zero, List.set_cons_succ]
  refine T_take 21 _ _ rfl rfl (by kernel_rfl) (by kernel_rfl) (by kernel_rfl) (fun _ _ d _ _ h => by cases d <;> exact h) (by kernel_rfl) tail_only hLd (by kernel_rfl) (fun W hW => by obtain ⟨z1, z2, z3, z4⟩ := (PBs.at (L := [(N, (an, ad)), (N + 1, (bn, bd)), (M1, (cs, ct)), (M2, (cs, ct)), (M3, (gs, gt)), (M4, (gs, gt)), (M5, (ks, kt)), (M6, (ks, kt))]) hW (i := 1) (N := N + 1) (p := (bn, bd)) rfl).cell; go_simp; try exact rfl) ?_
  try simp only [List.setIfInBounds_toArray, List.set_cons_zero, List.set_cons_succ]
  refine T_take 23 _ _ rfl rfl (by kernel_rfl) (by kernel_rfl) (by kernel_rfl) (fun _ _ d _ _ h => by cases d <;> exact h) (by kernel_rfl) tail_only hLd (by kernel_rfl) (fun W hW => by obtain ⟨z1, z2, z3, z4⟩ := (PBs.at (L := [(N, (an, ad)), (N + 1, (bn, bd)), (M1, (cs, ct)), (M2, (cs, ct)), (M3, (gs, gt)), (M4, (gs, gt)), (M5, (ks, kt)), (M6, (ks, kt))]) hW (i := 0) (N := N) (p := (an, ad)) rfl).cell; go_simp; try exact rfl) ?_
  try simp only [List.setIfInBounds_toArray, List.set_cons_zero, List.set_cons_succ]
  refine T_take 24 _ _ rfl rfl (by kernel_rfl) (by kernel_rfl) (by kernel_rfl) (fun _ _ d _ _ h => by cases d <;> exact h) (by kernel_rfl) tail_only hLd (by kernel_rfl) (fun W hW => by obtain ⟨z1, z2, z3, z4⟩ := (PBs.at (L := [(N, (an, ad)), (N + 1, (bn, bd)), (M1, (cs, ct)), (M2, (cs, ct)), (M3, (gs, gt)), (M4, (gs, gt)), (M5, (ks, kt)), (M6, (ks, kt))]) hW (i := 1) (N := N + 1) (p := (bn, bd)) rfl).cell; go_simp; try exact rfl) ?_
  try simp only [List.setIfInBounds_toArray, List.set_cons_zero, List.set_cons_succ]
  refine T_only 22 (by kernel_rfl) rfl (by kernel_rfl) ?_
  unfold Oper.wp
  go_simp
  refine (cmp_calls (an, ad) (bn, bd) HS.out.1 HS.out.2 Y3).mono ?_
  rintro e Y4 ⟨rfl, hb⟩
  rw [HRq.out]
  have hL2 := hLd.below hb
  have hB2 := hBd.trans (hb.mono hBd.size)
  clear hLd hBd hb
  have hLd := hL2
  have hBd := hB2
  clear hL2 hB2
  refine ⟨hLd, ?_⟩
  try simp only [List.setIfInBounds_toArray, List.set_cons_zero, List.set_cons_succ]
  refine T_only 25 (by kernel_rfl) rfl (by kernel_rfl) ?_
  unfold Oper.wp
  go_simp
  refine (rcmp_calls (an, ad) (bn, bd) HZ.out.1 HZ.out.2 Y4).mono ?_
  rintro e Y5 ⟨rfl, hb⟩
  rw [HRq.out]
  have hL2 := hLd.below hb
  have hB2 := hBd.trans (hb.mono hBd.size)
  clear hLd hBd hb
  have hLd := hL2
  have hBd := hB2
  clear hL2 hB2
  refine ⟨hLd, ?_⟩
  try simp only [List.setIfInBounds_toArray, List.set_cons_zero, List.set_cons_succ]
  refine T_take 26 _ _ rfl rfl (by kernel_rfl) (by kernel_rfl) (by kernel_rfl) (fun _ _ d _ _ h => by cases d <;> exact h) (by kernel_rfl) tail_only hLd (by kernel_rfl) (fun W hW => by go_simp; try exact rfl) ?_
  try simp only [List.setIfInBounds_toArray, List.set_cons_zero, List.set_cons_succ]
  refine T_take 27 _ _ rfl rfl (by kernel_rfl) (by kernel_rfl) (by kernel_rfl) (fun _ _ d _ _ h => by cases d <;> exact h) (by kernel_rfl) tail_only hLd (by kernel_rfl) (fun W hW => by go_simp; try exact rfl) ?_
  try simp only [List.setIfInBounds_toArray, List.set_cons_zero, List.set_cons_succ]
  refine T_take 28 _ _ rfl rfl (by kernel_rfl) (by kernel_rfl) (by kernel_rfl) (fun _ _ d _ _ h => by cases d <;> exact h) (by kernel_rfl) tail_only hLd (by kernel_rfl) (fun W hW => by go_simp; try exact rfl) ?_
  try simp only [List.setIfInBounds_toArray, List.set_cons_zero, List.set_cons_succ]
  refine T_only 29 (by kernel_rfl) rfl (by kernel_rfl) ?_
  unfold Oper.wp
  go_simp
  refine (alive_calls Y5 (HT.out.below hBd)).mono ?_
  rintro e Y6 ⟨rfl, hb⟩
  have hL2 := hLd.below hb
  have hB2 := hBd.trans (hb.mono hBd.size)
  clear hLd hBd hb
  have hLd := hL2
  have hBd := hB2
  clear hL2 hB2
  refine ⟨hLd, ?_⟩
  try simp only [List.setIfInBounds_toArray, List.set_cons_zero, List.set_cons_succ]
  refine T_take 30 _ _ rfl rfl (by kernel_rfl) (by kernel_rfl) (by kernel_rfl) (fun _ _ d _ _ h => by cases d <;> exact h) (by kernel_rfl) tail_only hLd (by kernel_rfl) (fun W hW => by go_simp; try exact rfl) ?_
  try simp only [List.setIfInBounds_toArray, List.set_cons_zero, List.set_cons_succ]
  refine ⟨by kernel_rfl, ?_⟩
  refine any_only 31 (by kernel_rfl) rfl (by kernel_rfl) ?_
  unfold Oper.wp
  go_simp
  refine any_done (by kernel_rfl) ?_
  have HB := Lib.hid hBd
  clear hLd hBd
  go_wp2_with fail
  go_ret
  first | exact ⟨rfl, HB.out⟩ | exact ⟨rfl, hN ▸ HB.out⟩
  end Go.Proofs.CW
