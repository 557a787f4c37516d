/-
  Part 11 of the proof: R5.
-/
import Derived.Test.YtjfclkbdkafkcaaGreatDoorYZ8
set_option linter.unusedVariables false
set_option linter.unusedSimpArgs false
namespace Go.Proofs.CW
open Go.RowKit Go.Proofs.YtjfclkbdkafkcaaGreatDoorW.PrintWords Go.Proofs.YtjfclkbdkafkcaaGreatDoor.PF

/-! The sum. -/
structure RPlus (xs ys zs : List Int) (k : Nat) (c : Int) : Prop where
  len : zs.length = k
  lim : Lim 10000 zs
  bit : c = 0 ∨ c = 1
  val : lv 10000 (xs.take k) + lv 10000 (ys.take k) = lv 10000 zs + 10000 ^ k * c
theorem RPlus.step {xs ys zs : List Int} {k : Nat} {c t : Int} (h : RPlus xs ys zs k c) (ht : t = c + xs.getD k 0 + ys.getD k 0) (h0 : 0 ≤ t) (h1 : t < 20000) : RPlus xs ys (zs ++ [t % 10000]) (k + 1) (t / 10000) := by
  refine ⟨by simp [h.len], lim_snoc.2 ⟨h.lim, by omega, by omega⟩, by omega, ?_⟩
  rw [lv_take_getD, lv_take_getD, lv_snoc, h.len, Int.pow_succ]
  have hv := h.val
  have hd : t = 10000 * (t / 10000) + t % 10000 := by omega
  generalize t / 10000 = q at *
  generalize t % 10000 = m at *
  subst hd
  generalize (10000 : Int) ^ k = P at *
  grind
theorem rplus_e1 {c x y : Int} (hc : c = 0 ∨ c = 1) (hx : 0 ≤ x ∧ x < 10000) (hy : 0 ≤ y ∧ y < 10000) : wrap64 (wrap64 (c + x) + y) = c + x + y := by
  rw [w64 (n := c + x) (by omega) (by omega), w64 (by omega) (by omega)]
theorem rplus_e2 {t : Int} (h0 : 0 ≤ t) (h1 : t < 20000) : Int.tmod t 10000 = t % 10000 ∧ wrap64 (Int.tdiv t 10000) = t / 10000 := by
  refine ⟨tmodB h0, ?_⟩
  rw [tdivB h0, w64 (by omega) (by omega)]
theorem rplus_e3 {c x : Int} (hc : c = 0 ∨ c = 1) (hx : 0 ≤ x ∧ x < 10000) : wrap64 (c + x) = c + x := by
  rw [w64 (by omega) (by omega)]
theorem rplus_e4 {k : Int} (h0 : 0 ≤ k) (h1 : k ≤ 1000000) : wrap64 (k + 1) = k + 1 := w64 (by omega) (by omega)
theorem rplus_one (xs ys zs : List Int) (hx : Lim 10000 xs) (hy : Lim 10000 ys) (k : Nat) (c t : Int) (hc : c = 0 ∨ c = 1) (ht : t = c + xs.getD k 0 + ys.getD k 0) (hk : k < max xs.length ys.length) (hz : zs.length ≤ 1000000) (hk2 : k ≤ 1000000) (n : Nat) :
    cressetref01_plus.l0 (n + 1 + 1) xs ys zs c (k : Int) = cressetref01_plus.l0 n xs ys (zs ++ [t % 10000]) (t / 10000) ((k : Int) + 1) := by
  have gx := lim_getD b4 hx k
  have gy := lim_getD b4 hy k
  have h0 : 0 ≤ t := by omega
  have h1 : t < 20000 := by omega
  have i0 : (0 : Int) ≤ (k : Int) := by omega
  have i1 : zs.length < 17592186044416 := by omega
  have i2 : (k : Int) ≤ 1000000 := by omega
  by_cases c1 : k < xs.length
  · have d1 : (k : Int) < (xs.length : Int) := by omega
    by_cases c2 : k < ys.length
    · have d2 : (k : Int) < (ys.length : Int) := by omega
      simp only [cressetref01_plus.l0, cressetref01_plus.j1, rd_nat, if_true]
      rw [if_pos d1, if_pos d1, if_pos i0, if_pos d2, if_pos i1, rplus_e1 hc gx gy, ← ht, (rplus_e2 h0 h1).1, (rplus_e2 h0 h1).2, rplus_e4 i0 i2]
    · have d2 : ¬ (k : Int) < (ys.length : Int) := by omega
      have z : ys.getD k 0 = 0 := getD_ge (by omega)
      have t2 : c + xs.getD k 0 = t := by omega
      simp only [cressetref01_plus.l0, cressetref01_plus.j1, rd_nat, if_true]
      rw [if_pos d1, if_pos d1, if_pos i0, if_neg d2, if_pos i1, rplus_e3 hc gx, t2, (rplus_e2 h0 h1).1, (rplus_e2 h0 h1).2, rplus_e4 i0 i2]
  · have d1 : ¬ (k : Int) < (xs.length : Int) := by omega
    have d2 : (k : Int) < (ys.length : Int) := by omega
    have z : xs.getD k 0 = 0 := getD_ge (by omega)
    have t2 : c + ys.getD k 0 = t := by omega
    simp only [cressetref01_plus.l0, cressetref01_plus.j1, rd_nat, if_true]
    rw [if_neg d1, if_pos d2, if_neg d1, if_pos d2, if_pos i0, if_pos i1, rplus_e3 hc gy, t2, (rplus_e2 h0 h1).1, (rplus_e2 h0 h1).2, rplus_e4 i0 i2]
theorem ev_two {α : Type} {g f : Nat → Option α} {r : α} (h : ∀ n, g (n + 1 + 1) = f n) (hf : Ev f r) : Ev g r :=
  Ev.step (f := fun n => g (n + 1)) (fun _ => rfl) (Ev.step (f := f) (fun n => h n) hf)
theorem norm_of_ge {zs : List Int} (hl : Lim 10000 zs) (h : ∀ m, zs.length = m + 1 → (10000 : Int) ^ m ≤ lv 10000 zs) : Norm zs := by
  intro x hx e
  obtain ⟨ys, rfl⟩ := List.getLast?_eq_some_iff.1 hx
  have h1 := h ys.length (by simp)
  rw [lv_snoc, e] at h1
  have h2 := lv_lt b4 (lim_append.1 hl).1
  omega
theorem rplus_l0 (xs ys : List Int) (hx : Lim 10000 xs) (hy : Lim 10000 ys) (nx : Norm xs) (ny : Norm ys) (hb : max xs.length ys.length ≤ 100000) : ∀ (d k : Nat) (zs : List Int) (c : Int), max xs.length ys.length - k = d → k ≤ max xs.length ys.length → RPlus xs ys zs k c →
    ∃ r, Ev (fun n => cressetref01_plus.l0 n xs ys zs c (k : Int)) r ∧ Lim 10000 r ∧ Norm r ∧ lv 10000 r = lv 10000 xs + lv 10000 ys ∧ r.length ≤ max xs.length ys.length + 1 := by
  intro d
  induction d with
  | zero =>
    intro k zs c hd hk h
    obtain rfl : k = max xs.length ys.length := by omega
    have hv := h.val
    rw [List.take_of_length_le (by omega : xs.length ≤ max xs.length ys.length), List.take_of_length_le (by omega : ys.length ≤ max xs.length ys.length)] at hv
    have hlz := h.len
    rcases h.bit with rfl | rfl
    · rw [Int.mul_zero, Int.add_zero] at hv
      refine ⟨zs, ev_two (f := fun _ => some zs) (fun n => ?_) (Ev.now _), h.lim, norm_of_ge h.lim (fun m hm => ?_), hv.symm, by omega⟩
      · simp only [cressetref01_plus.l0, cressetref01_plus.j1]
        rw [if_neg (by omega), if_neg (by omega), if_neg (by decide)]
      · rw [← hv]
        have x0 := lv_nonneg (B := 10000) (by decide) hx
        have y0 := lv_nonneg (B := 10000) (by decide) hy
        by_cases hxy : xs.length = m + 1
        · obtain ⟨us, u, rfl⟩ := snoc_of_ne (xs := xs) (by intro e; rw [e] at hxy; simp at hxy)
          have := lv_ge b4 hx (norm_snoc.1 nx)
          have e : us.length = m := by simpa using hxy
          rw [e] at this; omega
        · have hyy : ys.length = m + 1 := by omega
          obtain ⟨us, u, rfl⟩ := snoc_of_ne (xs := ys) (by intro e; rw [e] at hyy; simp at hyy)
          have := lv_ge b4 hy (norm_snoc.1 ny)
          have e : us.length = m := by simpa using hyy
          rw [e] at this; omega
    · refine ⟨zs ++ [1], ev_two (f := fun n => cressetref01_plus.l0 n xs ys (zs ++ [1]) 0 ((max xs.length ys.length : Nat) + 1)) (fun n => ?_) (ev_two (f := fun _ => some (zs ++ [1])) (fun n => ?_) (Ev.now _)), lim_snoc.2 ⟨h.lim, by omega, by omega⟩, norm_snoc.2 (by omega), ?_, by simp; omega⟩
      · simp only [cressetref01_plus.l0, cressetref01_plus.j1]
        rw [if_neg (by omega), if_neg (by omega), if_pos (by decide), if_neg (by omega), if_neg (by omega), if_pos (by omega), rplus_e4 (by omega) (by omega), (rplus_e2 (t := 1) (by omega) (by omega)).1, (rplus_e2 (t := 1) (by omega) (by omega)).2]
        rfl
      · simp only [cressetref01_plus.l0, cressetref01_plus.j1]
        rw [if_neg (by omega), if_neg (by omega), if_neg (by decide)]
      · rw [lv_snoc, hlz]; omega
  | succ d ih =>
    intro k zs c hd hk h
    have hlt : k < max xs.length ys.length := by omega
    have gx := lim_getD b4 hx k
    have gy := lim_getD b4 hy k
    have hbit := h.bit
    obtain ⟨t, ht⟩ : ∃ t, c + xs.getD k 0 + ys.getD k 0 = t := ⟨_, rfl⟩
    obtain ⟨r, hr, rest⟩ := ih (k + 1) (zs ++ [t % 10000]) (t / 10000) (by omega) (by omega) (h.step ht.symm (by omega) (by omega))
    refine ⟨r, ev_two (f := fun n => cressetref01_plus.l0 n xs ys (zs ++ [t % 10000]) (t / 10000) ((k : Int) + 1)) (fun n => rplus_one xs ys zs hx hy k c t hbit ht.symm hlt (by have := h.len; omega) (by omega) n) hr, rest⟩
theorem rplus_ev (xs ys : List Int) (hx : Lim 10000 xs) (hy : Lim 10000 ys) (nx : Norm xs) (ny : Norm ys) (hb : max xs.length ys.length ≤ 100000) :
    ∃ r, Ev (fun n => cressetref01_plus.f n xs ys) r ∧ Lim 10000 r ∧ Norm r ∧ lv 10000 r = lv 10000 xs + lv 10000 ys ∧ r.length ≤ max xs.length ys.length + 1 := by
  obtain ⟨r, hr, rest⟩ := rplus_l0 xs ys hx hy nx ny hb _ 0 [] 0 rfl (Nat.zero_le _) ⟨rfl, lim_nil _, .inl rfl, by simp [lv]⟩
  exact ⟨r, Ev.congr (fun n => by simp only [cressetref01_plus.f]; rfl) hr, rest⟩
end Go.Proofs.CW
