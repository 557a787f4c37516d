/-
  Part 9 of the proof: K60.
-/
import Derived.Test.YtjfclkbdkafkcaaGreatDoorYZ8
set_option linter.unusedVariables false
set_option linter.unusedSimpArgs false
namespace Go.Proofs.CW
open Go.RowKit Go.Shelf Go.Sort Go.Lib Go.Proofs.YtjfclkbdkafkcaaGreatDoorW.PrintWords Go.Proofs.YtjfclkbdkafkcaaGreatDoor.PF
attribute [local go_sem] Oper.semAt_some

/-- What is short has sizes that the reference is looked at. -/
theorem sz_of {a b : PS} (h : shortB 610 [a, b] = true) : Sz a ∧ Sz b := by
  unfold shortB at h
  simp only [List.all_cons, List.all_nil, Bool.and_true, Bool.and_eq_true, decide_eq_true_eq] at h
  exact ⟨⟨by omega, by omega⟩, ⟨by omega, by omega⟩⟩
set_option maxRecDepth 100000 in
set_option maxHeartbeats 1000000 in
theorem same_calls (p : PS) (x : Int) (w : World) :
    Calls Tryz.prog 22 #[pv p, .int .i64 x, pv p, .int .i64 x] w fun e W => e = .returned (.bool true) ∧ Below w.heap.size w W := by
  obtain ⟨s, t⟩ := p
  have P0 := ((PBs.nil w).box s t).box s t
  simp only [World.size_alloc] at P0
  have HB := Lib.hid (show Below w.heap.size w ((w.alloc (.cells #[.string s, .string t] 24)).alloc (.cells #[.string s, .string t] 24)) from ((Below.refl _ w).alloc (Nat.le_refl _) _).alloc (by simp) _)
  clear P0
  simp only [pv_eq]
  go_enter Tryz.func22, Tryz.ntmps22
  go_wp2_with fail
  go_ret
  exact ⟨rfl, HB.out⟩
set_option maxRecDepth 100000 in
set_option maxHeartbeats 16000000 in
theorem products_walk (a b : PS) (sa : Small a) (sb : Small b) (w : World) (ht : Tab w) : Calls Tryz.prog 3 #[pv a, pv b] w fun e W => e = .returned (.bool true) ∧ Below w.heap.size w W := by
  obtain ⟨an, ad⟩ := a
  obtain ⟨bn, bd⟩ := b
  obtain ⟨ms, mt, mx, hm⟩ : ∃ s t x, mulR (an, ad) (bn, bd) = ((s, t), x) := ⟨_, _, _, rfl⟩
  have HRm := Lib.hid hm
  clear hm
  obtain ⟨qs, qt, qx, hq⟩ : ∃ s t x, divR (an, ad) (bn, bd) = ((s, t), x) := ⟨_, _, _, rfl⟩
  have HRq := Lib.hid hq
  clear hq
  have HT := Lib.hid ht
  have P0 := ((PBs.nil w).box an ad).box bn bd
  simp only [World.size_alloc] at P0
  have b0 : Below w.heap.size w ((w.alloc (.cells #[.string an, .string ad] 24)).alloc (.cells #[.string bn, .string bd] 24)) := ((Below.refl _ w).alloc (Nat.le_refl _) _).alloc (by simp) _
  have HS := Lib.hid (And.intro sa sb)
  obtain ⟨N, hN⟩ : ∃ N, w.heap.size = N := ⟨_, rfl⟩
  rw [hN] at P0
  clear sa sb ht
  simp only [pv_eq]
  have HP := Lib.hid P0
  have HB := Lib.hid b0
  clear P0 b0
  go_enter Tryz.func3, Tryz.ntmps3
  go_wp2_with fail
  obtain ⟨V0, hV0⟩ : ∃ V, ((w.alloc (.cells #[.string an, .string ad] 24)).alloc (.cells #[.string bn, .string bd] 24)) = V := ⟨_, rfl⟩
  have hz : V0.heap.size = N + 1 + 1 := by rw [← hV0, World.size_alloc, World.size_alloc, hN]
  rw [hV0] at HP HB ⊢
  obtain ⟨j1, j2, j3⟩ := row_step HB.out [(an, ad), (bn, bd)] 24 (by simp)
  rw [hz] at j2
  refine (short_list 610 _ _ [(an, ad), (bn, bd)] (by simp) (by intro p hp; simp at hp; rcases hp with rfl | rfl; exact HS.out.1; exact HS.out.2) _ j2).mono ?_
  rintro e V1 ⟨rfl, hb⟩
  have hp2 := (HP.out.below j3).below hb
  have hb2 := j1.trans (hb.mono j1.size)
  clear hb j1 j2 j3 HP HB hz hV0
  have HP := Lib.hid hp2
  have HB := Lib.hid hb2
  clear hp2 hb2
  by_cases hsh : shortB 610 [(an, ad), (bn, bd)] = true
  case neg =>
    have hsf : shortB 610 [(an, ad), (bn, bd)] = false := by simpa using hsh
    rw [hsf]
    clear hsh hsf
    go_wp2_with fail
    refine (alive_calls V1 (HT.out.below HB.out)).mono ?_
    rintro e V2 ⟨rfl, hb⟩
    have HB2 := Lib.hid (HB.out.trans (hb.mono HB.out.size))
    clear hb
    go_wp2_with fail
    go_ret
    first | exact ⟨rfl, HB2.out⟩ | exact ⟨rfl, hN ▸ HB2.out⟩
  rw [hsh]
  have HZ := Lib.hid (sz_of hsh)
  clear hsh
  have f0a := (HP.out.at (i := 0) (N := N) (p := (an, ad)) rfl).cell.1
  have f0b := (HP.out.at (i := 0) (N := N) (p := (an, ad)) rfl).cell.2.1
  have f1a := (HP.out.at (i := 1) (N := N + 1) (p := (bn, bd)) rfl).cell.1
  have f1b := (HP.out.at (i := 1) (N := N + 1) (p := (bn, bd)) rfl).cell.2.1
  go_wp2_with fail
  refine (mul_calls (an, ad) (bn, bd) HS.out.1 HS.out.2 V1 (HT.out.below HB.out)).mono ?_
  rintro e V2 ⟨rfl, hb⟩
  rw [HRm.out]
  have HP2 := HP.out.below hb
  have HB2 := HB.out.trans (hb.mono HB.out.size)
  have HP3 := HP2.box ms mt
  have HB3 := HB2.alloc (o := .cells #[.string ms, .string mt] 24) HB2.size
  try clear f0a f0b
  try clear f1a f1b
  try clear f2a f2b
  try clear f3a f3b
  clear HP HB HP2 HB2 hb
  have HP := Lib.hid HP3
  have HB := Lib.hid HB3
  clear HP3 HB3
  have f0a := (HP.out.at (i := 0) (N := N) (p := (an, ad)) rfl).cell.1
  have f0b := (HP.out.at (i := 0) (N := N) (p := (an, ad)) rfl).cell.2.1
  have f1a := (HP.out.at (i := 1) (N := N + 1) (p := (bn, bd)) rfl).cell.1
  have f1b := (HP.out.at (i := 1) (N := N + 1) (p := (bn, bd)) rfl).cell.2.1
  simp only [rv_eq]
  go_wp2_with fail
  obtain ⟨M1, hM1⟩ : ∃ N, V2.heap.size = N := ⟨_, rfl⟩
  obtain ⟨X2, hX⟩ : ∃ V, V2.alloc (.cells #[.string ms, .string mt] 24) = V := ⟨_, rfl⟩
  rw [hX, hM1] at HP
  rw [hX] at HB ⊢
  try rw [hM1]
  clear hX
  refine (rmul_calls (an, ad) (bn, bd) HZ.out.1 HZ.out.2 X2).mono ?_
  rintro e V3 ⟨rfl, hb⟩
  rw [HRm.out]
  have HP2 := HP.out.below hb
  have HB2 := HB.out.trans (hb.mono HB.out.size)
  have HP3 := HP2.box ms mt
  have HB3 := HB2.alloc (o := .cells #[.string ms, .string mt] 24) HB2.size
  try clear f0a f0b
  try clear f1a f1b
  try clear f2a f2b
  try clear f3a f3b
  clear HP HB HP2 HB2 hb
  have HP := Lib.hid HP3
  have HB := Lib.hid HB3
  clear HP3 HB3
  have f0a := (HP.out.at (i := 0) (N := N) (p := (an, ad)) rfl).cell.1
  have f0b := (HP.out.at (i := 0) (N := N) (p := (an, ad)) rfl).cell.2.1
  have f1a := (HP.out.at (i := 1) (N := N + 1) (p := (bn, bd)) rfl).cell.1
  have f1b := (HP.out.at (i := 1) (N := N + 1) (p := (bn, bd)) rfl).cell.2.1
  simp only [rv_eq]
  go_wp2_with fail
  obtain ⟨M2, hM2⟩ : ∃ N, V3.heap.size = N := ⟨_, rfl⟩
  obtain ⟨X3, hX⟩ : ∃ V, V3.alloc (.cells #[.string ms, .string mt] 24) = V := ⟨_, rfl⟩
  rw [hX, hM2] at HP
  rw [hX] at HB ⊢
  try rw [hM2]
  clear hX
  refine (div_calls (an, ad) (bn, bd) HS.out.1 HS.out.2 X3 (HT.out.below HB.out)).mono ?_
  rintro e V4 ⟨rfl, hb⟩
  rw [HRq.out]
  have HP2 := HP.out.below hb
  have HB2 := HB.out.trans (hb.mono HB.out.size)
  have HP3 := HP2.box qs qt
  have HB3 := HB2.alloc (o := .cells #[.string qs, .string qt] 24) HB2.size
  try clear f0a f0b
  try clear f1a f1b
  try clear f2a f2b
  try clear f3a f3b
  clear HP HB HP2 HB2 hb
  have HP := Lib.hid HP3
  have HB := Lib.hid HB3
  clear HP3 HB3
  have f0a := (HP.out.at (i := 0) (N := N) (p := (an, ad)) rfl).cell.1
  have f0b := (HP.out.at (i := 0) (N := N) (p := (an, ad)) rfl).cell.2.1
  have f1a := (HP.out.at (i := 1) (N := N + 1) (p := (bn, bd)) rfl).cell.1
  have f1b := (HP.out.at (i := 1) (N := N + 1) (p := (bn, bd)) rfl).cell.2.1
  simp only [rv_eq]
  go_wp2_with fail
  obtain ⟨M3, hM3⟩ : ∃ N, V4.heap.size = N := ⟨_, rfl⟩
  obtain ⟨X4, hX⟩ : ∃ V, V4.alloc (.cells #[.string qs, .string qt] 24) = V := ⟨_, rfl⟩
  rw [hX, hM3] at HP
  rw [hX] at HB ⊢
  try rw [hM3]
  clear hX
  refine (rdiv_calls (an, ad) (bn, bd) HZ.out.1 HZ.out.2 X4).mono ?_
  rintro e V5 ⟨rfl, hb⟩
  rw [HRq.out]
  have HP2 := HP.out.below hb
  have HB2 := HB.out.trans (hb.mono HB.out.size)
  have HP3 := HP2.box qs qt
  have HB3 := HB2.alloc (o := .cells #[.string qs, .string qt] 24) HB2.size
  try clear f0a f0b
  try clear f1a f1b
  try clear f2a f2b
  try clear f3a f3b
  clear HP HB HP2 HB2 hb
  have HP := Lib.hid HP3
  have HB := Lib.hid HB3
  clear HP3 HB3
  have f0a := (HP.out.at (i := 2) (N := M1) (p := (ms, mt)) rfl).cell.1
  have f0b := (HP.out.at (i := 2) (N := M1) (p := (ms, mt)) rfl).cell.2.1
  have f1a := (HP.out.at (i := 3) (N := M2) (p := (ms, mt)) rfl).cell.1
  have f1b := (HP.out.at (i := 3) (N := M2) (p := (ms, mt)) rfl).cell.2.1
  have f2a := (HP.out.at (i := 4) (N := M3) (p := (qs, qt)) rfl).cell.1
  have f2b := (HP.out.at (i := 4) (N := M3) (p := (qs, qt)) rfl).cell.2.1
  have f3a := (HP.out.at (i := 5) (N := V5.heap.size) (p := (qs, qt)) rfl).cell.1
  have f3b := (HP.out.at (i := 5) (N := V5.heap.size) (p := (qs, qt)) rfl).cell.2.1
  simp only [rv_eq]
  go_wp2_with fail
  obtain ⟨M4, hM4⟩ : ∃ N, V5.heap.size = N := ⟨_, rfl⟩
  obtain ⟨X5, hX⟩ : ∃ V, V5.alloc (.cells #[.string qs, .string qt] 24) = V := ⟨_, rfl⟩
  rw [hX, hM4] at HP
  rw [hX] at HB ⊢
  try rw [hM4]
  clear hX
  refine (same_calls (ms, mt) mx X5).mono ?_
  rintro e V6 ⟨rfl, hb⟩
  have HP2 := HP.out.below hb
  have HB2 := HB.out.trans (hb.mono HB.out.size)
  try clear f0a f0b
  try clear f1a f1b
  try clear f2a f2b
  try clear f3a f3b
  clear HP HB hb
  have HP := Lib.hid HP2
  have HB := Lib.hid HB2
  clear HP2 HB2
  have f0a := (HP.out.at (i := 4) (N := M3) (p := (qs, qt)) rfl).cell.1
  have f0b := (HP.out.at (i := 4) (N := M3) (p := (qs, qt)) rfl).cell.2.1
  have f1a := (HP.out.at (i := 5) (N := M4) (p := (qs, qt)) rfl).cell.1
  have f1b := (HP.out.at (i := 5) (N := M4) (p := (qs, qt)) rfl).cell.2.1
  go_wp2_with fail
  refine (same_calls (qs, qt) qx V6).mono ?_
  rintro e V7 ⟨rfl, hb⟩
  have HP2 := HP.out.below hb
  have HB2 := HB.out.trans (hb.mono HB.out.size)
  try clear f0a f0b
  try clear f1a f1b
  try clear f2a f2b
  try clear f3a f3b
  clear HP HB hb
  have HP := Lib.hid HP2
  have HB := Lib.hid HB2
  clear HP2 HB2
  go_wp2_with fail
  refine (alive_calls V7 (HT.out.below HB.out)).mono ?_
  rintro e V8 ⟨rfl, hb⟩
  have HP2 := HP.out.below hb
  have HB2 := HB.out.trans (hb.mono HB.out.size)
  try clear f0a f0b
  try clear f1a f1b
  try clear f2a f2b
  try clear f3a f3b
  clear HP HB hb
  have HP := Lib.hid HP2
  have HB := Lib.hid HB2
  clear HP2 HB2
  go_wp2_with fail
  go_ret
  first | exact ⟨rfl, HB.out⟩ | exact ⟨rfl, hN ▸ HB.out⟩
  end Go.Proofs.CW
