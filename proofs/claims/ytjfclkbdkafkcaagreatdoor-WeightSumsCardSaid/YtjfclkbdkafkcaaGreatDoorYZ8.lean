/-
  Part 8 of the proof: R1, R2, R3, R4.
-/
import Derived.Test.YtjfclkbdkafkcaaGreatDoorYZ1
set_option linter.unusedVariables false
set_option linter.unusedSimpArgs false
namespace Go.Proofs.CW
open Go.RowKit Go.Proofs.YtjfclkbdkafkcaaGreatDoorW.PrintWords Go.Proofs.YtjfclkbdkafkcaaGreatDoor.PF

/-- A sign. -/
def Sg (r a b : Int) : Prop := (r = -1 ∧ a < b) ∨ (r = 0 ∧ a = b) ∨ (r = 1 ∧ b < a)
theorem rorder_l0 (xs ys : List Int) (hl : xs.length = ys.length) (hx : Lim 10000 xs) (hy : Lim 10000 ys) (hb : xs.length ≤ 1000000) : ∀ (i : Nat) (x : Int), x = (i : Int) - 1 → i ≤ xs.length → (∀ j, i ≤ j → xs.getD j 0 = ys.getD j 0) →
    ∃ r, Ev (fun k => cressetref01_order.l0 k xs ys x) r ∧ Sg r (lv 10000 xs) (lv 10000 ys)
  | 0, x, e, _, h => by
    refine ⟨0, Ev.step (f := fun _ => some 0) (fun k => ?_) (Ev.now _), .inr (.inl ⟨rfl, ?_⟩)⟩
    · simp only [cressetref01_order.l0]; rw [if_neg (by omega)]
    · have := drop_eq_of hl 0 (fun j hj => h j (by omega))
      simp only [List.drop_zero] at this
      rw [this]
  | i + 1, x, e, hi, h => by
    have hx2 : x = (i : Int) := by omega
    subst hx2
    have h1 : i < xs.length := by omega
    have h2 : i < ys.length := by omega
    rcases Int.lt_trichotomy (xs.getD i 0) (ys.getD i 0) with hlt | heq | hgt
    · refine ⟨-1, Ev.step (f := fun _ => some (-1)) (fun k => ?_) (Ev.now _), .inl ⟨rfl, lv_lt_at b4 hx hy hl h1 h hlt⟩⟩
      simp only [cressetref01_order.l0, rd_nat]
      rw [if_pos (by omega), if_pos (by omega), if_pos (by omega), if_pos (by omega), if_pos hlt]
    · obtain ⟨r, hr, hs⟩ := rorder_l0 xs ys hl hx hy hb i ((i : Int) - 1) rfl (by omega) (fun j hj => by
        rcases Nat.lt_or_ge i j with k | k
        · exact h j (by omega)
        · obtain rfl : j = i := by omega
          exact heq)
      refine ⟨r, Ev.step (f := fun k => cressetref01_order.l0 k xs ys ((i : Int) - 1)) (fun k => ?_) hr, hs⟩
      simp only [cressetref01_order.l0, rd_nat]
      rw [if_pos (by omega), if_pos (by omega), if_pos (by omega), if_pos (by omega), if_neg (by omega), if_neg (by omega), w64 (by omega) (by omega)]
    · refine ⟨1, Ev.step (f := fun _ => some 1) (fun k => ?_) (Ev.now _), .inr (.inr ⟨rfl, lv_lt_at b4 hy hx hl.symm h2 (fun j hj => (h j hj).symm) hgt⟩)⟩
      simp only [cressetref01_order.l0, rd_nat]
      rw [if_pos (by omega), if_pos (by omega), if_pos (by omega), if_pos (by omega), if_neg (by omega), if_pos hgt]
theorem rorder_ev (xs ys : List Int) (hx : Lim 10000 xs) (hy : Lim 10000 ys) (nx : Norm xs) (ny : Norm ys) (hb : xs.length ≤ 1000000) (hb2 : ys.length ≤ 1000000) :
    ∃ r, Ev (fun k => cressetref01_order.f k xs ys) r ∧ Sg r (lv 10000 xs) (lv 10000 ys) := by
  by_cases hl : xs.length = ys.length
  · obtain ⟨r, hr, hs⟩ := rorder_l0 xs ys hl hx hy hb xs.length _ rfl (Nat.le_refl _) (fun j hj => by rw [getD_ge hj, getD_ge (by omega)])
    refine ⟨r, Ev.congr (fun k => ?_) hr, hs⟩
    simp only [cressetref01_order.f]
    rw [if_pos (by omega), w64 (by omega) (by omega)]
  · by_cases h2 : xs.length < ys.length
    · refine ⟨-1, Ev.congr (f := fun _ => some (-1)) (fun k => ?_) (Ev.now _), .inl ⟨rfl, lv_lt_of_length b4 hx hy ny h2⟩⟩
      simp only [cressetref01_order.f]
      rw [if_neg (by omega), if_pos (by omega)]
    · refine ⟨1, Ev.congr (f := fun _ => some 1) (fun k => ?_) (Ev.now _), .inr (.inr ⟨rfl, lv_lt_of_length b4 hy hx nx (by omega)⟩)⟩
      simp only [cressetref01_order.f]
      rw [if_neg (by omega), if_neg (by omega)]

/-! The difference. -/
structure RMin (xs ys zs : List Int) (k : Nat) (b : Int) : Prop where
  len : zs.length = k
  lim : Lim 10000 zs
  bit : b = 0 ∨ b = 1
  val : lv 10000 (xs.take k) - lv 10000 (ys.take k) = lv 10000 zs - 10000 ^ k * b
theorem lv_take_getD (ys : List Int) (k : Nat) : lv 10000 (ys.take (k + 1)) = lv 10000 (ys.take k) + 10000 ^ k * ys.getD k 0 := by
  by_cases h : k < ys.length
  · exact lv_take_succ 10000 h
  · rw [getD_ge (by omega), List.take_of_length_le (by omega), List.take_of_length_le (by omega)]; omega
theorem RMin.step {xs ys zs : List Int} {k : Nat} {b d v b' : Int} (h : RMin xs ys zs k b) (hk : k < xs.length) (hd : d = xs.getD k 0 - b - ys.getD k 0) (hv : 0 ≤ v ∧ v < 10000) (hb : b' = 0 ∨ b' = 1) (he : v = d + 10000 * b') : RMin xs ys (zs ++ [v]) (k + 1) b' := by
  refine ⟨by simp [h.len], lim_snoc.2 ⟨h.lim, hv.1, hv.2⟩, hb, ?_⟩
  rw [lv_take_getD, lv_take_getD, lv_snoc, h.len, Int.pow_succ]
  have := h.val
  subst he hd
  generalize (10000 : Int) ^ k = P at *
  grind
theorem rminus_l0 (xs ys : List Int) (hx : Lim 10000 xs) (hy : Lim 10000 ys) (hb : xs.length ≤ 1000000) (hl : ys.length ≤ xs.length) (hle : lv 10000 ys ≤ lv 10000 xs) : ∀ (d k : Nat) (zs : List Int) (b x : Int), xs.length - k = d → k ≤ xs.length → x = (k : Int) → RMin xs ys zs k b →
    ∃ r, Ev (fun n => cressetref01_minus.l0 n xs ys zs b x) r ∧ Lim 10000 r ∧ Norm r ∧ lv 10000 r = lv 10000 xs - lv 10000 ys ∧ r.length ≤ xs.length := by
  intro d
  induction d with
  | zero =>
    intro k zs b x hd hk hxk h
    obtain rfl : k = xs.length := by omega
    subst hxk
    have hz : lv 10000 zs = lv 10000 xs - lv 10000 ys := by
      have hv := h.val
      rw [List.take_length, List.take_of_length_le hl] at hv
      have h1 := lv_lt b4 h.lim
      rw [h.len] at h1
      have h2 : (0 : Int) < 10000 ^ xs.length := Int.pow_pos b4
      rcases h.bit with rfl | rfl
      · omega
      · generalize (10000 : Int) ^ xs.length = P at *
        omega
    refine ⟨trimL zs, Ev.step (f := fun n => (cressetref01_trim.f n zs).bind fun t => some t) (fun n => ?_) (ev_bind_some (rtrim_ev _ zs rfl (by have := h.len; omega))), lim_trimL h.lim, trimL_norm _, by rw [lv_trimL, hz], by have := trimL_length_le zs; have := h.len; omega⟩
    simp only [cressetref01_minus.l0]
    rw [if_neg (by omega)]
  | succ d ih =>
    intro k zs b x hd hk hxk h
    subst hxk
    have hkx : k < xs.length := by omega
    have g1 := lim_getD b4 hx k
    have g2 := lim_getD b4 hy k
    have hbit := h.bit
    have hlz := h.len
    obtain ⟨dd, hdd⟩ : ∃ dd, xs.getD k 0 - b - ys.getD k 0 = dd := ⟨_, rfl⟩
    by_cases hneg : dd < 0
    · obtain ⟨r, hr, rest⟩ := ih (k + 1) (zs ++ [dd + 10000]) 1 ((k : Int) + 1) (by omega) (by omega) (by omega) (h.step hkx hdd.symm (by omega) (.inr rfl) (by omega))
      refine ⟨r, Ev.step (f := fun n => cressetref01_minus.l0 n xs ys (zs ++ [dd + 10000]) 1 ((k : Int) + 1)) (fun n => ?_) hr, rest⟩
      simp only [cressetref01_minus.l0, rd_nat]
      rw [if_pos (by omega), if_pos (by omega)]
      by_cases hky : k < ys.length
      · rw [if_pos (by omega), w64 (n := xs.getD k 0 - b) (by omega) (by omega), w64 (n := xs.getD k 0 - b - ys.getD k 0) (by omega) (by omega), hdd, if_pos hneg, if_pos (by omega), w64 (by omega) (by omega), w64 (by omega) (by omega)]
      · have e0 : ys.getD k 0 = 0 := getD_ge (by omega)
        rw [e0] at hdd
        rw [if_neg (by omega), w64 (n := xs.getD k 0 - b) (by omega) (by omega), show xs.getD k 0 - b = dd by omega, if_pos hneg, if_pos (by omega), w64 (by omega) (by omega), w64 (by omega) (by omega)]
    · obtain ⟨r, hr, rest⟩ := ih (k + 1) (zs ++ [dd]) 0 ((k : Int) + 1) (by omega) (by omega) (by omega) (h.step hkx hdd.symm (by omega) (.inl rfl) (by omega))
      refine ⟨r, Ev.step (f := fun n => cressetref01_minus.l0 n xs ys (zs ++ [dd]) 0 ((k : Int) + 1)) (fun n => ?_) hr, rest⟩
      simp only [cressetref01_minus.l0, rd_nat]
      rw [if_pos (by omega), if_pos (by omega)]
      by_cases hky : k < ys.length
      · rw [if_pos (by omega), w64 (n := xs.getD k 0 - b) (by omega) (by omega), w64 (n := xs.getD k 0 - b - ys.getD k 0) (by omega) (by omega), hdd, if_neg hneg, if_pos (by omega), w64 (by omega) (by omega)]
      · have e0 : ys.getD k 0 = 0 := getD_ge (by omega)
        rw [e0] at hdd
        rw [if_neg (by omega), w64 (n := xs.getD k 0 - b) (by omega) (by omega), show xs.getD k 0 - b = dd by omega, if_neg hneg, if_pos (by omega), w64 (by omega) (by omega)]
theorem rminus_ev (xs ys : List Int) (hx : Lim 10000 xs) (hy : Lim 10000 ys) (ny : Norm ys) (hb : xs.length ≤ 1000000) (hle : lv 10000 ys ≤ lv 10000 xs) :
    ∃ r, Ev (fun n => cressetref01_minus.f n xs ys) r ∧ Lim 10000 r ∧ Norm r ∧ lv 10000 r = lv 10000 xs - lv 10000 ys ∧ r.length ≤ xs.length := by
  have hl : ys.length ≤ xs.length := by
    rcases Nat.lt_or_ge xs.length ys.length with h | h
    · have := lv_lt_of_length b4 hx hy ny h; omega
    · exact h
  obtain ⟨r, hr, rest⟩ := rminus_l0 xs ys hx hy hb hl hle xs.length 0 [] 0 0 (by omega) (by omega) rfl ⟨rfl, lim_nil _, .inl rfl, by simp [lv]⟩
  exact ⟨r, Ev.congr (fun n => by simp only [cressetref01_minus.f]) hr, rest⟩
end Go.Proofs.CW
namespace Go.Proofs.CW
open Go.RowKit Go.Proofs.YtjfclkbdkafkcaaGreatDoorW.PrintWords Go.Proofs.YtjfclkbdkafkcaaGreatDoor.PF

theorem lim_one {x : Int} (h : 0 ≤ x ∧ x < 10000) : Lim 10000 [x] := lim_cons.2 ⟨h, lim_nil _⟩
theorem lv_one (x : Int) : lv 10000 [x] = x := by simp [lv]
/-- The quotient so far. -/
structure ROver (xs ys qs rs : List Int) (i : Nat) : Prop where
  len : qs.length = xs.length
  lim : Lim 10000 qs
  rlim : Lim 10000 rs
  rnorm : Norm rs
  lt : lv 10000 rs < lv 10000 ys
  val : lv 10000 (xs.drop i) = lv 10000 ys * lv 10000 (qs.drop i) + lv 10000 rs
theorem rover_steps (xs ys : List Int) (hx : Lim 10000 xs) (hy : Lim 10000 ys) (ny : Norm ys) (hy0 : ys ≠ []) (hb : xs.length ≤ 100000) (hb2 : ys.length ≤ 100000) : ∀ (i : Nat) (x : Int) (qs rs : List Int), x = (i : Int) - 1 → i ≤ xs.length → ROver xs ys qs rs i →
    (∀ j, j < i → qs.getD j 0 = 0) →
    ∃ r, Ev (fun k => cressetref01_over.l0 k xs ys qs rs x) r ∧ (Lim 10000 r.1 ∧ Norm r.1 ∧ Lim 10000 r.2 ∧ Norm r.2) ∧ lv 10000 xs = lv 10000 ys * lv 10000 r.1 + lv 10000 r.2 ∧ lv 10000 r.2 < lv 10000 ys := by
  have hyp := lv_pos b4 hy ny hy0
  have hyl := lv_lt b4 hy
  intro i
  induction i with
  | zero =>
    intro x qs rs e hi h hz
    refine ⟨(trimL qs, rs), Ev.step (f := fun k => (cressetref01_trim.f k qs).bind fun t => some (t, rs)) (fun k => ?_) ((rtrim_ev _ qs rfl (by have := h.len; omega)).bind (Ev.now _)), ⟨lim_trimL h.lim, trimL_norm _, h.rlim, h.rnorm⟩, ?_, h.lt⟩
    · simp only [cressetref01_over.l0]; rw [if_neg (by omega)]
    · have := h.val
      simp only [List.drop_zero] at this
      rw [lv_trimL]; exact this
  | succ i ih =>
    intro x qs rs e hi h hz
    have hx2 : x = (i : Int) := by omega
    subst hx2
    have hix : i < xs.length := by omega
    have hiq : i < qs.length := by rw [h.len]; exact hix
    have gx := lim_getD b4 hx i
    have hrl : rs.length ≤ ys.length := length_le_of_lt b4 h.rlim h.rnorm (by have := h.lt; omega)
    -- the rest with the next part
    obtain ⟨ts, hts⟩ : ∃ ts, trimL (xs.getD i 0 :: rs) = ts := ⟨_, rfl⟩
    have lt1 : Lim 10000 (xs.getD i 0 :: rs) := lim_cons.2 ⟨gx, h.rlim⟩
    have tl : Lim 10000 ts := hts ▸ lim_trimL lt1
    have tn : Norm ts := hts ▸ trimL_norm _
    have tv : lv 10000 ts = xs.getD i 0 + 10000 * lv 10000 rs := by rw [← hts, lv_trimL, lv_cons]
    have tlen : ts.length ≤ rs.length + 1 := by rw [← hts]; have := trimL_length_le (xs.getD i 0 :: rs); simpa using this
    have hdx := lv_drop_getD 10000 hix
    have hdq := lv_drop_getD 10000 hiq
    have q0 : qs.getD i 0 = 0 := hz i (by omega)
    have hval := h.val
    have rnn := lv_nonneg (B := 10000) (by decide) h.rlim
    have hlt := h.lt
    obtain ⟨s, hs, hsg⟩ := rorder_ev ts ys tl hy tn ny (by omega) (by omega)
    have evT : Ev (fun k => cressetref01_trim.f k ([xs.getD i 0] ++ rs)) ts := by
      rw [← hts]; exact rtrim_ev _ _ rfl (by simp; omega)
    have hstep : ∀ k, cressetref01_over.l0 (k + 1) xs ys qs rs (i : Int) = (cressetref01_trim.f k ([xs.getD i 0] ++ rs)).bind fun t280 => (cressetref01_order.f k t280 ys).bind fun t283 => if t283 < 0 then cressetref01_over.l0 k xs ys qs t280 (wrap64 ((i : Int) - 1)) else cressetref01_over.l1 k xs ys qs t280 (i : Int) 1 10000 := fun k => by
      simp only [cressetref01_over.l0, rd_nat]
      rw [if_pos (by omega), if_pos (by omega), if_pos (by omega)]
      simp only [Option.bind_some]
      rw [if_pos (by simp; omega)]
    by_cases hneg : lv 10000 ts < lv 10000 ys
    · have hs1 : s = -1 := by rcases hsg with ⟨h1, _⟩ | ⟨_, h2⟩ | ⟨_, h2⟩ <;> omega
      have hn : ROver xs ys qs ts i := ⟨h.len, h.lim, tl, tn, hneg, by rw [hdx, hdq, q0, tv, hval]; grind⟩
      obtain ⟨r, hr, rest⟩ := ih ((i : Int) - 1) qs ts rfl (by omega) hn (fun j hj => hz j (by omega))
      refine ⟨r, Ev.step (f := fun k => (cressetref01_trim.f k ([xs.getD i 0] ++ rs)).bind fun t280 => (cressetref01_order.f k t280 ys).bind fun t283 => if t283 < 0 then cressetref01_over.l0 k xs ys qs t280 (wrap64 ((i : Int) - 1)) else cressetref01_over.l1 k xs ys qs t280 (i : Int) 1 10000) hstep (Ev.bind evT (Ev.bind hs (Ev.congr (fun k => ?_) hr))), rest⟩
      rw [if_pos (by omega), w64 (by omega) (by omega)]
    · have hs1 : ¬ s < 0 := by rcases hsg with ⟨_, h2⟩ | ⟨h1, _⟩ | ⟨h1, _⟩ <;> omega
      -- the search
      have search : ∀ (d : Nat) (low high : Int), (high - low).toNat = d → 1 ≤ low → low < high → high ≤ 10000 → lv 10000 ys * low ≤ lv 10000 ts → lv 10000 ts < lv 10000 ys * high →
          ∃ r, Ev (fun k => cressetref01_over.l1 k xs ys qs ts (i : Int) low high) r ∧ (Lim 10000 r.1 ∧ Norm r.1 ∧ Lim 10000 r.2 ∧ Norm r.2) ∧ lv 10000 xs = lv 10000 ys * lv 10000 r.1 + lv 10000 r.2 ∧ lv 10000 r.2 < lv 10000 ys := by
        intro d
        induction d using Nat.strongRecOn with
        | ind d ihd =>
          intro low high hd h1 h2 h3 h4 h5
          by_cases hone : high - low > 1
          · obtain ⟨mid, hmid⟩ : ∃ mid, (low + high) / 2 = mid := ⟨_, rfl⟩
            have hm1 : low < mid := by omega
            have hm2 : mid < high := by omega
            obtain ⟨ms, hms, ml, mn, mv, mlen⟩ := rtimes_ev ys [mid] hy (lim_one (by omega)) (by simp; omega)
            rw [lv_one] at mv
            simp only [List.length_cons, List.length_nil] at mlen
            obtain ⟨s2, hs2, hsg2⟩ := rorder_ev ms ts ml tl mn tn (by omega) (by omega)
            have hst : ∀ k, cressetref01_over.l1 (k + 1) xs ys qs ts (i : Int) low high = (cressetref01_times.f k ys [mid]).bind fun t297 => (cressetref01_order.f k t297 ts).bind fun t300 => if t300 ≤ 0 then cressetref01_over.l1 k xs ys qs ts (i : Int) mid high else cressetref01_over.l1 k xs ys qs ts (i : Int) low mid := fun k => by
              simp only [cressetref01_over.l1]
              rw [w64 (n := high - low) (by omega) (by omega), if_pos hone, w64 (n := low + high) (by omega) (by omega), tdivB (by omega), hmid, w64 (n := mid) (by omega) (by omega)]
            by_cases hle : lv 10000 ys * mid ≤ lv 10000 ts
            · obtain ⟨r, hr, rest⟩ := ihd (high - mid).toNat (by omega) mid high rfl (by omega) hm2 h3 hle h5
              refine ⟨r, Ev.step (f := _) hst (Ev.bind hms (Ev.bind hs2 (Ev.congr (fun k => ?_) hr))), rest⟩
              rw [if_pos (by rcases hsg2 with ⟨h1, _⟩ | ⟨h1, _⟩ | ⟨_, h2⟩ <;> omega)]
            · obtain ⟨r, hr, rest⟩ := ihd (mid - low).toNat (by omega) low mid rfl h1 hm1 (by omega) h4 (by omega)
              refine ⟨r, Ev.step (f := _) hst (Ev.bind hms (Ev.bind hs2 (Ev.congr (fun k => ?_) hr))), rest⟩
              rw [if_neg (by rcases hsg2 with ⟨_, h2⟩ | ⟨_, h2⟩ | ⟨h1, _⟩ <;> omega)]
          · have hh : high = low + 1 := by omega
            subst hh
            obtain ⟨ms, hms, ml, mn, mv, mlen⟩ := rtimes_ev ys [low] hy (lim_one (by omega)) (by simp; omega)
            rw [lv_one] at mv
            obtain ⟨us, hus, ul, un, uv, ulen⟩ := rminus_ev ts ms tl ml mn (by omega) (by rw [mv]; exact h4)
            have hgd : (qs.set i low).getD i 0 = low := getD_set_self low hiq
            have hds := lv_drop_getD 10000 (xs := qs.set i low) (i := i) (by rw [List.length_set]; exact hiq)
            have hq2 : ROver xs ys (qs.set i low) us i := by
              refine ⟨by rw [List.length_set, h.len], lim_set h.lim i (by omega) (by omega), ul, un, ?_, ?_⟩
              · rw [uv, mv]; have : lv 10000 ys * (low + 1) = lv 10000 ys * low + lv 10000 ys := by grind
                omega
              · rw [hdx, hds, hgd, drop_set_succ, uv, mv, tv, hval]
                grind
            obtain ⟨r, hr, rest⟩ := ih ((i : Int) - 1) (qs.set i low) us rfl (by omega) hq2 (fun j hj => by rw [getD_set_ne low (by omega)]; exact hz j (by omega))
            refine ⟨r, Ev.step (f := fun k => (cressetref01_times.f k ys [low]).bind fun t288 => (cressetref01_minus.f k ts t288).bind fun t291 => cressetref01_over.l0 k xs ys (qs.set i low) t291 ((i : Int) - 1)) (fun k => ?_) (Ev.bind hms (Ev.bind hus hr)), rest⟩
            simp only [cressetref01_over.l1]
            rw [w64 (n := low + 1 - low) (by omega) (by omega), if_neg (by omega), if_pos (by omega), if_pos (by omega), w64 (n := (i : Int) - 1) (by omega) (by omega), Int.toNat_natCast]
      have hhi : lv 10000 ts < lv 10000 ys * 10000 := by rw [tv]; omega
      obtain ⟨r, hr, rest⟩ := search _ 1 10000 rfl (by omega) (by omega) (by omega) (by omega) hhi
      refine ⟨r, Ev.step (f := fun k => (cressetref01_trim.f k ([xs.getD i 0] ++ rs)).bind fun t280 => (cressetref01_order.f k t280 ys).bind fun t283 => if t283 < 0 then cressetref01_over.l0 k xs ys qs t280 (wrap64 ((i : Int) - 1)) else cressetref01_over.l1 k xs ys qs t280 (i : Int) 1 10000) hstep (Ev.bind evT (Ev.bind hs (Ev.congr (fun k => ?_) hr))), rest⟩
      rw [if_neg hs1]
theorem rover_ev (xs ys : List Int) (hx : Lim 10000 xs) (hy : Lim 10000 ys) (ny : Norm ys) (hy0 : ys ≠ []) (hb : xs.length ≤ 100000) (hb2 : ys.length ≤ 100000) :
    ∃ r, Ev (fun k => cressetref01_over.f k xs ys) r ∧ (Lim 10000 r.1 ∧ Norm r.1 ∧ Lim 10000 r.2 ∧ Norm r.2) ∧ lv 10000 xs = lv 10000 ys * lv 10000 r.1 + lv 10000 r.2 ∧ lv 10000 r.2 < lv 10000 ys := by
  obtain ⟨r, hr, rest⟩ := rover_steps xs ys hx hy ny hy0 hb hb2 xs.length ((xs.length : Int) - 1) (List.replicate xs.length 0) [] rfl (Nat.le_refl _)
    ⟨by simp, by intro x h; have := List.eq_of_mem_replicate h; omega, lim_nil _, norm_nil, lv_pos b4 hy ny hy0, by rw [List.drop_length, List.drop_of_length_le (by simp)]; simp [lv]⟩
    (fun j hj => by rw [getD_lt (by simpa using hj)]; simp)
  refine ⟨r, Ev.congr (fun k => ?_) hr, rest⟩
  simp only [cressetref01_over.f]
  rw [if_pos (by omega), if_pos (by omega), w64 (by omega) (by omega), Int.toNat_natCast]
theorem rgcd_ev : ∀ (n : Nat) (xs ys : List Int), (lv 10000 ys).toNat = n → Lim 10000 xs → Lim 10000 ys → Norm xs → Norm ys → xs.length ≤ 100000 → ys.length ≤ 100000 →
    ∃ r, Ev (fun k => cressetref01_gcd.f k xs ys) r ∧ Lim 10000 r ∧ Norm r ∧ lv 10000 r = (Nat.gcd (lv 10000 xs).toNat (lv 10000 ys).toNat : Nat) ∧ r.length ≤ 100000 := by
  intro n
  induction n using Nat.strongRecOn with
  | ind n ih =>
    intro xs ys hn hx hy nx ny hb hb2
    have x0 := lv_nonneg (B := 10000) (by decide) hx
    have y0 := lv_nonneg (B := 10000) (by decide) hy
    by_cases hy0 : ys = []
    · subst hy0
      refine ⟨xs, Ev.step (f := fun _ => some xs) (fun k => ?_) (Ev.now _), hx, nx, ?_, hb⟩
      · simp only [cressetref01_gcd.f, cressetref01_gcd.l0]; rw [if_neg (by simp)]
      · rw [lv_nil]; simp; omega
    · obtain ⟨q, hq, ⟨_, _, ql, qn⟩, qv, qlt⟩ := rover_ev xs ys hx hy ny hy0 hb hb2
      have r0 := lv_nonneg (B := 10000) (by decide) ql
      have hql : q.2.length ≤ ys.length := length_le_of_lt b4 ql qn (by have := lv_lt b4 hy; omega)
      obtain ⟨r, hr, rl, rn, rv, rb⟩ := ih (lv 10000 q.2).toNat (by omega) ys q.2 rfl hy ql ny qn hb2 (by omega)
      have hl : (ys.length : Int) > 0 := by
        have := List.length_pos_iff.2 hy0; omega
      refine ⟨r, Ev.step (f := fun k => (cressetref01_over.f k xs ys).bind fun t => cressetref01_gcd.l0 k ys t.2) (fun k => ?_) (Ev.bind hq hr), rl, rn, ?_, rb⟩
      · simp only [cressetref01_gcd.f, cressetref01_gcd.l0]; rw [if_pos hl]
      · rw [rv]
        obtain ⟨a, ha⟩ : ∃ a : Nat, lv 10000 xs = (a : Int) := ⟨_, (Int.toNat_of_nonneg x0).symm⟩
        obtain ⟨b, hb⟩ : ∃ b : Nat, lv 10000 ys = (b : Int) := ⟨_, (Int.toNat_of_nonneg y0).symm⟩
        obtain ⟨c, hc⟩ : ∃ c : Nat, lv 10000 q.2 = (c : Int) := ⟨_, (Int.toNat_of_nonneg r0).symm⟩
        have e1 : (c : Int) < (b : Int) := by rw [← hc, ← hb]; exact qlt
        have e2 : (a : Int) = (b : Int) * lv 10000 q.1 + (c : Int) := by rw [← ha, ← hb, ← hc]; exact qv
        rw [ha, hb, hc]
        simp only [Int.toNat_natCast]
        have hcm : c = a % b := by
          have h1 : (a : Int) % (b : Int) = (c : Int) := by
            rw [e2, Int.add_comm, Int.add_mul_emod_self_left, Int.emod_eq_of_lt (by omega) (by omega)]
          have h2 : ((a % b : Nat) : Int) = (c : Int) := by rw [Int.natCast_emod]; exact h1
          omega
        rw [hcm, Nat.gcd_comm b, ← Nat.gcd_rec, Nat.gcd_comm]
end Go.Proofs.CW
namespace Go.Proofs.CW
open Go.RowKit Go.Proofs.YtjfclkbdkafkcaaGreatDoorW.PrintWords Go.Proofs.YtjfclkbdkafkcaaGreatDoor.PF

theorem bt_get (s : ByteArray) (i : Nat) (h : i < s.data.toList.length) : bt s (i : Int) = ((s.data.toList[i]).toNat : Int) := by
  have h2 : i < s.size := by rw [← list_length]; exact h
  rw [← bt_at s (i : Int) (by simpa using h2)]
  simp only [Int.toNat_natCast]
  rfl
/-! Is it a number? -/
theorem rNat_l0 (s : ByteArray) (hs : s.size ≤ 1000000) : ∀ (d i : Nat), s.data.toList.length - i = d → i ≤ s.data.toList.length → Ev (fun k => cressetref01_Nat.l0 k s (i : Int)) (allD (s.data.toList.drop i)) := by
  intro d
  have hl := list_length s
  induction d with
  | zero =>
    intro i hd hi
    obtain rfl : i = s.data.toList.length := by omega
    refine Ev.step (f := fun _ => some true) (fun k => ?_) (by rw [List.drop_length]; exact Ev.now _)
    simp only [cressetref01_Nat.l0]; rw [if_neg (by omega)]
  | succ d ih =>
    intro i hd hi
    have h1 : i < s.data.toList.length := by omega
    have hb := bt_get s i h1
    have e : s.data.toList.drop i = s.data.toList[i] :: s.data.toList.drop (i + 1) := List.drop_eq_getElem_cons h1
    generalize s.data.toList[i] = c at hb e
    by_cases hc : isd c = true
    · have hr := isd_iff.1 hc
      refine Ev.step (f := fun k => cressetref01_Nat.l0 k s ((i : Int) + 1)) (fun k => ?_) ?_
      · simp only [cressetref01_Nat.l0, hb]
        rw [if_pos (by omega), if_pos (by omega), if_neg (by omega), if_neg (by omega), w64 (by omega) (by omega)]
      · have := ih (i + 1) (by omega) (by omega)
        rw [e]
        have e2 : allD (c :: s.data.toList.drop (i + 1)) = allD (s.data.toList.drop (i + 1)) := by simp [allD, hc]
        rw [e2]
        exact this
    · have e2 : allD (s.data.toList.drop i) = false := by rw [e]; simp [allD, hc]
      rw [e2]
      refine Ev.step (f := fun _ => some false) (fun k => ?_) (Ev.now _)
      simp only [cressetref01_Nat.l0, hb]
      rw [if_pos (by omega), if_pos (by omega)]
      by_cases h48 : (c.toNat : Int) < 48
      · rw [if_pos h48]
      · rw [if_neg h48, if_pos (by
          have : ¬ (48 ≤ c.toNat ∧ c.toNat ≤ 57) := fun h => hc (isd_iff.2 h)
          omega)]
theorem rNat_ev (s : ByteArray) (hs : s.size ≤ 1000000) : Ev (fun k => cressetref01_Nat.f k s) (okN s) := by
  have hl := list_length s
  have hT : Ev (fun k => cressetref01_Nat.j0 k s true) false := Ev.step (f := fun _ => some false) (fun k => by simp only [cressetref01_Nat.j0, if_true]) (Ev.now _)
  have hF : Ev (fun k => cressetref01_Nat.j0 k s false) (allD s.data.toList) := by
    have := rNat_l0 s hs _ 0 rfl (Nat.zero_le _)
    rw [List.drop_zero] at this
    refine Ev.step (f := fun k => cressetref01_Nat.l0 k s 0) (fun k => ?_) this
    simp only [cressetref01_Nat.j0]; rw [if_neg (by decide)]
  by_cases h0 : s.size = 0
  · have e : okN s = false := by unfold okN canon; rw [(list_nil s).2 h0]; rfl
    rw [e]
    refine Ev.congr (fun k => ?_) hT
    simp only [cressetref01_Nat.f]; rw [if_pos (by omega)]
  · by_cases h6 : 600 < s.size
    · have e : okN s = false := by unfold okN; rw [decide_eq_false (by omega : ¬ s.size ≤ 600), Bool.and_false]
      rw [e]
      refine Ev.congr (fun k => ?_) hT
      simp only [cressetref01_Nat.f]; rw [if_neg (by omega), if_pos (by omega)]
    · by_cases h1 : 1 < s.size
      · obtain ⟨c, l, hcl⟩ : ∃ c l, s.data.toList = c :: l := by
          cases h : s.data.toList with
          | nil => rw [h] at hl; simp at hl; omega
          | cons c l => exact ⟨c, l, rfl⟩
        have hb := bt_head s c l hcl
        by_cases h48 : c = 48
        · have e : okN s = false := by
            unfold okN canon
            rw [hcl]
            have : l.length + 1 = s.size := by rw [← hl, hcl]; rfl
            have e1 : ((c :: l).length == 1) = false := by rw [beq_eq_false_iff_ne]; simp only [List.length_cons]; omega
            rw [e1, h48]; simp
          rw [e]
          refine Ev.congr (fun k => ?_) hT
          simp only [cressetref01_Nat.f]
          rw [if_neg (by omega), if_neg (by omega), if_pos (by omega), if_pos (by omega), hb, h48]; rfl
        · have hne : ((c.toNat : Int) == 48) = false := by
            rw [beq_eq_false_iff_ne]
            intro h
            apply h48
            have h2 : c.toNat = 48 := Int.ofNat.inj h
            rw [← ofNat_of_toNat c, h2]; rfl
          have e : okN s = allD s.data.toList := by
            unfold okN canon
            rw [hcl]
            have e2 : ((c :: l).head? != some 48) = true := by simp [h48]
            rw [e2, decide_eq_true (by omega : s.size ≤ 600)]; simp
          rw [e]
          refine Ev.congr (fun k => ?_) hF
          simp only [cressetref01_Nat.f]
          rw [if_neg (by omega), if_neg (by omega), if_pos (by omega), if_pos (by omega), hb, hne]
      · have hs1 : s.size = 1 := by omega
        have e : okN s = allD s.data.toList := by
          unfold okN canon
          have e1 : (s.data.toList.length == 1) = true := by rw [hl, hs1]; rfl
          have e2 : decide (s.data.toList ≠ []) = true := decide_eq_true (by rw [Ne, list_nil]; omega)
          rw [e1, e2, decide_eq_true (by omega : s.size ≤ 600)]; simp
        rw [e]
        refine Ev.congr (fun k => ?_) hF
        simp only [cressetref01_Nat.f]
        rw [if_neg (by omega), if_neg (by omega), if_neg (by omega)]

/-! The parts of a string of digits. -/
theorem dval_chunk (l : List UInt8) (lo i : Nat) (h : lo ≤ i) (hi : i < l.length) : dval ((l.drop lo).take (i + 1 - lo)) = dval ((l.drop lo).take (i - lo)) * 10 + (l[i].toNat - 48) := by
  have e : (l.drop lo).take (i + 1 - lo) = (l.drop lo).take (i - lo) ++ [l[i]] := by
    rw [show i + 1 - lo = (i - lo) + 1 by omega, List.take_succ_eq_append_getElem (by simp; omega)]
    congr 2
    rw [List.getElem_drop]; congr 1; omega
  rw [e, dval_snoc]
theorem allD_get {l : List UInt8} (h : allD l = true) {i : Nat} (hi : i < l.length) : 48 ≤ (l[i]).toNat ∧ (l[i]).toNat ≤ 57 := by
  unfold allD at h
  rw [List.all_eq_true] at h
  exact isd_iff.1 (h _ (List.getElem_mem hi))
theorem allD_take {l : List UInt8} (h : allD l = true) (n : Nat) : allD (l.take n) = true := by
  unfold allD at *
  rw [List.all_eq_true] at *
  exact fun x hx => h x (List.mem_of_mem_take hx)
theorem allD_drop {l : List UInt8} (h : allD l = true) (n : Nat) : allD (l.drop n) = true := by
  unfold allD at *
  rw [List.all_eq_true] at *
  exact fun x hx => h x (List.mem_of_mem_drop hx)
theorem rParts_l1 (s : ByteArray) (hd : allD s.data.toList = true) (hs : s.size ≤ 1000000) (out : List Int) (ho : out.length ≤ 1000000) (lo en : Nat) (hle : lo ≤ en) (hen : en ≤ s.data.toList.length) (h4 : en ≤ lo + 4) (r : List Int)
    (hr : Ev (fun k => cressetref01_Parts.l0 k s (out ++ [(dval ((s.data.toList.drop lo).take (en - lo)) : Int)]) ((en : Int) - 4)) r) :
    ∀ (d i : Nat), en - i = d → lo ≤ i → i ≤ en → Ev (fun k => cressetref01_Parts.l1 k s out (en : Int) (dval ((s.data.toList.drop lo).take (i - lo)) : Int) (i : Int)) r := by
  have hl := list_length s
  intro d
  induction d with
  | zero =>
    intro i h1 h2 h3
    obtain rfl : i = en := by omega
    refine Ev.step (f := _) (fun k => ?_) hr
    simp only [cressetref01_Parts.l1]
    rw [if_neg (by omega), if_pos (by omega), w64 (by omega) (by omega)]
  | succ d ih =>
    intro i h1 h2 h3
    have hi : i < s.data.toList.length := by omega
    have hb := bt_get s i hi
    have hg := allD_get hd hi
    have hch := dval_chunk s.data.toList lo i h2 hi
    have hlt := dval_lt ((s.data.toList.drop lo).take (i - lo)) (allD_take (allD_drop hd lo) _)
    have hlen : ((s.data.toList.drop lo).take (i - lo)).length ≤ 3 := by simp only [List.length_take]; omega
    have hp : (10 : Nat) ^ ((s.data.toList.drop lo).take (i - lo)).length ≤ 10 ^ 3 := Nat.pow_le_pow_right (by omega) hlen
    have hnext := ih (i + 1) (by omega) (by omega) (by omega)
    rw [hch] at hnext
    refine Ev.step (f := _) (fun k => ?_) hnext
    simp only [cressetref01_Parts.l1, hb]
    generalize dval ((s.data.toList.drop lo).take (i - lo)) = p at *
    generalize (s.data.toList[i]).toNat = c at *
    rw [if_pos (by omega), if_pos (by omega), if_pos (by omega), w64 (n := 10 * (p : Int)) (by omega) (by omega), w64 (n := 10 * (p : Int) + ((c : Int) - 48) % 256) (by omega) (by omega), w64 (n := (i : Int) + 1) (by omega) (by omega)]
    congr 1
    omega
theorem rParts_l0 (s : ByteArray) (hd : allD s.data.toList = true) (hs : s.size ≤ 100000) : ∀ (d en : Nat) (out : List Int) (x : Int), en ≤ d → (x = (en : Int) ∨ (x ≤ 0 ∧ en = 0)) → en ≤ s.data.toList.length → out.length + en ≤ 100000 → Lim 10000 out → lv 10000 out + 10000 ^ out.length * (dval (s.data.toList.take en) : Int) = (dval s.data.toList : Int) →
    ∃ r, Ev (fun k => cressetref01_Parts.l0 k s out x) r ∧ Lim 10000 r ∧ Norm r ∧ lv 10000 r = (dval s.data.toList : Int) ∧ r.length ≤ 100000 := by
  have hl := list_length s
  intro d
  induction d with
  | zero =>
    intro en out x h1 h2 h3 h4 hlim hv
    obtain rfl : en = 0 := by omega
    refine ⟨trimL out, Ev.step (f := fun k => (cressetref01_trim.f k out).bind fun t => some t) (fun k => ?_) (ev_bind_some (rtrim_ev _ out rfl (by omega))), lim_trimL hlim, trimL_norm _, ?_, by have := trimL_length_le out; omega⟩
    · simp only [cressetref01_Parts.l0]; rw [if_neg (by omega)]
    · rw [lv_trimL, ← hv, List.take_zero, show dval [] = 0 from rfl]; omega
  | succ d ih =>
    intro en out x h1 h2 h3 h4 hlim hv
    by_cases h0 : en = 0
    · exact ih en out x (by omega) h2 h3 h4 hlim hv
    have hx : x = (en : Int) := by omega
    subst hx
    obtain ⟨lo, hlo⟩ : ∃ lo, en - 4 = lo := ⟨_, rfl⟩
    have hclt := dval_lt ((s.data.toList.drop lo).take (en - lo)) (allD_take (allD_drop hd lo) _)
    have hclen : ((s.data.toList.drop lo).take (en - lo)).length = en - lo := by simp only [List.length_take, List.length_drop]; omega
    have hcp : (10 : Nat) ^ (en - lo) ≤ 10 ^ 4 := Nat.pow_le_pow_right (by omega) (by omega)
    rw [hclen] at hclt
    have hsplit : s.data.toList.take en = s.data.toList.take lo ++ (s.data.toList.drop lo).take (en - lo) := by
      have e : en = lo + (en - lo) := by omega
      conv => lhs; rw [e, List.take_add]
    have hdv : dval (s.data.toList.take en) = dval (s.data.toList.take lo) * 10 ^ (en - lo) + dval ((s.data.toList.drop lo).take (en - lo)) := by rw [hsplit, dval_append, hclen]
    obtain ⟨p, hp⟩ : ∃ p, dval ((s.data.toList.drop lo).take (en - lo)) = p := ⟨_, rfl⟩
    rw [hp] at hclt hdv
    have hv2 : lv 10000 (out ++ [(p : Int)]) + 10000 ^ (out ++ [(p : Int)]).length * (dval (s.data.toList.take lo) : Int) = (dval s.data.toList : Int) := by
      rw [lv_snoc, List.length_append, List.length_cons, List.length_nil, Int.pow_succ, ← hv, hdv]
      by_cases hsm : lo = 0
      · subst hsm
        have e0 : dval (s.data.toList.take 0) = 0 := by rw [List.take_zero]; rfl
        rw [e0, Nat.zero_mul, Nat.zero_add]
        generalize (10000 : Int) ^ out.length = P
        grind
      · have e4 : en - lo = 4 := by omega
        have e5 : (10 : Nat) ^ 4 = 10000 := by decide
        rw [e4, e5]
        have e6 : ((dval (s.data.toList.take lo) * 10000 + p : Nat) : Int) = (dval (s.data.toList.take lo) : Int) * 10000 + (p : Int) := by omega
        rw [e6]
        generalize (10000 : Int) ^ out.length = P
        grind
    obtain ⟨r, hr, rest⟩ := ih lo (out ++ [(p : Int)]) ((en : Int) - 4) (by omega) (by omega) (by omega) (by simp; omega) (lim_snoc.2 ⟨hlim, by omega, by omega⟩) hv2
    rw [← hp] at hr
    have hrun := rParts_l1 s hd (by omega) out (by omega) lo en (by omega) h3 (by omega) r hr _ lo rfl (Nat.le_refl _) (by omega)
    rw [Nat.sub_self, List.take_zero, show dval [] = 0 from rfl] at hrun
    refine ⟨r, Ev.step (f := _) (fun k => ?_) hrun, rest⟩
    simp only [cressetref01_Parts.l0]
    rw [if_pos (by omega), w64 (n := (en : Int) - 4) (by omega) (by omega)]
    have hmx : mx 0 ((en : Int) - 4) = (lo : Int) := by unfold mx; split <;> omega
    rw [hmx]; rfl
theorem rParts_ev (s : ByteArray) (hd : allD s.data.toList = true) (hs : s.size ≤ 100000) : ∃ r, Ev (fun k => cressetref01_Parts.f k s) r ∧ Lim 10000 r ∧ Norm r ∧ lv 10000 r = (dval s.data.toList : Int) ∧ r.length ≤ 100000 := by
  have hl := list_length s
  obtain ⟨r, hr, rest⟩ := rParts_l0 s hd hs s.data.toList.length s.data.toList.length [] (s.size : Int) (Nat.le_refl _) (.inl (by rw [hl])) (Nat.le_refl _) (by simp; omega) (lim_nil _) (by rw [List.take_length, lv_nil, List.length_nil, Int.pow_zero]; omega)
  exact ⟨r, Ev.congr (fun k => by simp only [cressetref01_Parts.f]) hr, rest⟩
end Go.Proofs.CW
namespace Go.Proofs.CW
open Go.RowKit Go.Proofs.YtjfclkbdkafkcaaGreatDoorW.PrintWords Go.Proofs.YtjfclkbdkafkcaaGreatDoor.PF

theorem app_list (a b : ByteArray) : (a ++ b).data.toList = a.data.toList ++ b.data.toList := by simp
/-- The j lowest digits. -/
def dg (x : Nat) : Nat → List UInt8
  | 0 => []
  | j + 1 => UInt8.ofNat (48 + x / 10 ^ j % 10) :: dg x j
theorem dg_length (x : Nat) : ∀ j, (dg x j).length = j
  | 0 => rfl
  | j + 1 => by rw [dg, List.length_cons, dg_length x j]
theorem digit_toNat {d : Nat} (h : d < 10) : (UInt8.ofNat (48 + d)).toNat = 48 + d := ofNat_toNat (by omega)
theorem dg_allD (x : Nat) : ∀ j, allD (dg x j) = true
  | 0 => rfl
  | j + 1 => by
    have h := digit_toNat (Nat.mod_lt (x / 10 ^ j) (show 10 > 0 by omega))
    exact allD_cons.2 ⟨by omega, dg_allD x j⟩
theorem dg_val (x : Nat) : ∀ j, dval (dg x j) = x % 10 ^ j
  | 0 => by rw [dg, Nat.pow_zero, Nat.mod_one]; rfl
  | j + 1 => by
    have h := digit_toNat (Nat.mod_lt (x / 10 ^ j) (show 10 > 0 by omega))
    rw [dg, dval_cons, dg_length, dg_val x j, h, Nat.mod_pow_succ, Nat.mul_comm (10 ^ j), Nat.add_sub_cancel_left, Nat.add_comm]
theorem nstr_of {r : ByteArray} {n : Nat} (hc : canon r.data.toList = true) (hv : dval r.data.toList = n) : nstr n = r := by
  have h := decDigits_dval _ hc
  rw [hv] at h
  unfold nstr
  rw [h]
/-- Without the leading zeros. -/
theorem rDigits_l2 : ∀ (d : Nat) (s : ByteArray) (n : Nat), s.size = d → s.size ≤ 1000000 → allD s.data.toList = true → dval s.data.toList = n → Ev (fun k => cressetref01_Digits.l2 k s) (nstr n) := by
  intro d
  induction d with
  | zero =>
    intro s n hd hs ha hv
    have e : s.data.toList = [] := (list_nil s).2 hd
    have e2 : s.toList = [] := by rw [ByteArray.toList_eq]; exact e
    rw [e] at hv
    have hn : n = 0 := by rw [← hv]; rfl
    subst hn
    rw [nstr_zero]
    refine Ev.step (f := fun _ => some s0) (fun k => ?_) (Ev.now _)
    simp only [cressetref01_Digits.l2]
    rw [if_neg (by omega), if_pos e2]; rfl
  | succ d ih =>
    intro s n hd hs ha hv
    have hl := list_length s
    obtain ⟨c, l, hcl⟩ : ∃ c l, s.data.toList = c :: l := by
      cases h : s.data.toList with
      | nil => rw [h] at hl; simp at hl; omega
      | cons c l => exact ⟨c, l, rfl⟩
    have hne : ¬ s.toList = [] := by rw [ByteArray.toList_eq, hcl]; simp
    have hb := bt_head s c l hcl
    have hll : l.length = d := by rw [hcl, List.length_cons] at hl; omega
    rw [hcl] at ha
    have hac := allD_cons.1 ha
    by_cases h1 : 1 < s.size
    · by_cases h48 : c.toNat = 48
      · have he : (s.extract 1 s.size).data.toList = l := by
          rw [Lib.extract_data, hcl, List.drop_succ_cons, List.drop_zero, List.take_of_length_le (by omega)]
        have hes : (s.extract 1 s.size).size = d := by rw [← list_length, he, hll]
        have hv2 : dval l = n := by rw [hcl, dval_cons, h48] at hv; omega
        refine Ev.step (f := fun k => cressetref01_Digits.l2 k (s.extract 1 s.size)) (fun k => ?_) (ih _ n hes (by omega) (by rw [he]; exact hac.2) (by rw [he]; exact hv2))
        simp only [cressetref01_Digits.l2]
        rw [if_pos (by omega), if_pos (by omega), hb, if_pos (by omega), if_pos (by omega)]
      · have hc : canon s.data.toList = true := canon_iff.2 ⟨by rw [hcl]; simp, by rw [hcl]; exact ha, .inr (by
          rw [hcl, List.head?_cons]
          intro h
          injection h with h
          exact h48 (by rw [h]; rfl))⟩
        rw [nstr_of hc hv]
        refine Ev.step (f := fun _ => some s) (fun k => ?_) (Ev.now _)
        simp only [cressetref01_Digits.l2]
        rw [if_pos (by omega), if_pos (by omega), hb, if_neg (by omega), if_neg hne]
    · have hc : canon s.data.toList = true := canon_iff.2 ⟨by rw [hcl]; simp, by rw [hcl]; exact ha, .inl (by rw [hl]; omega)⟩
      rw [nstr_of hc hv]
      refine Ev.step (f := fun _ => some s) (fun k => ?_) (Ev.now _)
      simp only [cressetref01_Digits.l2]
      rw [if_neg (by omega), if_neg hne]
theorem dig_e1 (p : Nat) (hp : p < 10000) : wrap64 (48 + Int.tmod (p : Int) 10) % 256 = ((48 + p % 10 : Nat) : Int) := by
  rw [tmodB (by omega), w64 (by omega) (by omega)]; omega
theorem dig_e2 (p : Nat) (hp : p < 10000) : wrap64 (Int.tdiv (p : Int) 10) = ((p / 10 : Nat) : Int) := by
  rw [tdivB (by omega), w64 (by omega) (by omega)]; omega
theorem dig_e3 (j : Nat) (hj : j < 4) : wrap64 ((j : Int) + 1) = ((j + 1 : Nat) : Int) := by rw [w64 (by omega) (by omega)]; omega
theorem rDigits_l1 (xs : List Int) (i x : Nat) (hx : x < 10000) (hi : i ≤ 100000) (t : ByteArray) (ht : t.size ≤ 1000000) (r : ByteArray)
    (hr : ∀ s : ByteArray, s.data.toList = dg x 4 ++ t.data.toList → Ev (fun k => cressetref01_Digits.l0 k xs s ((i : Int) + 1)) r) :
    ∀ (d j : Nat) (s : ByteArray), 4 - j = d → j ≤ 4 → s.data.toList = dg x j ++ t.data.toList → Ev (fun k => cressetref01_Digits.l1 k xs s (i : Int) ((x / 10 ^ j : Nat) : Int) (j : Int)) r := by
  intro d
  induction d with
  | zero =>
    intro j s hd hj hs
    obtain rfl : j = 4 := by omega
    refine Ev.step (f := _) (fun k => ?_) (hr s hs)
    simp only [cressetref01_Digits.l1]
    rw [if_neg (by omega), w64 (by omega) (by omega)]
  | succ d ih =>
    intro j s hd hj hs
    have hsz : s.size = j + t.size := by rw [← list_length, hs, List.length_append, dg_length, list_length]
    have hp : x / 10 ^ j ≤ x := Nat.div_le_self _ _
    have hmod := Nat.mod_lt (x / 10 ^ j) (show 10 > 0 by omega)
    have hdiv : x / 10 ^ (j + 1) = x / 10 ^ j / 10 := by rw [Nat.pow_succ, Nat.div_div_eq_div_mul]
    have hstr : (strOfNums [((48 + x / 10 ^ j % 10 : Nat) : Int)]).data.toList = [UInt8.ofNat (48 + x / 10 ^ j % 10)] := by
      rw [strOfNums_data]
      show [UInt8.ofNat (((48 + x / 10 ^ j % 10 : Nat) : Int)).toNat] = _
      rw [Int.toNat_natCast]
    have hnext := ih (j + 1) (strOfNums [((48 + x / 10 ^ j % 10 : Nat) : Int)] ++ s) (by omega) (by omega) (by rw [app_list, hstr, hs]; rfl)
    rw [hdiv] at hnext
    refine Ev.step (f := _) (fun k => ?_) hnext
    simp only [cressetref01_Digits.l1]
    rw [if_pos (by omega)]
    simp only [Option.bind_some]
    generalize x / 10 ^ j = p at *
    rw [dig_e1 p (by omega), dig_e2 p (by omega), dig_e3 j (by omega), if_pos (by rw [strOfNums_size]; simp only [List.length_cons, List.length_nil]; omega)]
theorem rDigits_l0 (xs : List Int) (hx : Lim 10000 xs) (hl : xs.length ≤ 100000) : ∀ (d i : Nat) (s : ByteArray), xs.length - i = d → i ≤ xs.length → allD s.data.toList = true → s.size = 4 * i → (dval s.data.toList : Int) = lv 10000 (xs.take i) →
    Ev (fun k => cressetref01_Digits.l0 k xs s (i : Int)) (nstr (lv 10000 xs).toNat) := by
  intro d
  induction d with
  | zero =>
    intro i s hd hi ha hs hv
    obtain rfl : i = xs.length := by omega
    rw [List.take_length] at hv
    refine Ev.step (f := fun k => cressetref01_Digits.l2 k s) (fun k => ?_) (rDigits_l2 _ s _ rfl (by omega) ha (by omega))
    simp only [cressetref01_Digits.l0]
    rw [if_neg (by omega)]
  | succ d ih =>
    intro i s hd hi ha hs hv
    have hi2 : i < xs.length := by omega
    have g := lim_getD b4 hx i
    obtain ⟨x, hxx⟩ : ∃ x : Nat, xs.getD i 0 = (x : Int) := ⟨_, (Int.toNat_of_nonneg g.1).symm⟩
    have hrun := rDigits_l1 xs i x (by omega) (by omega) s (by omega) (nstr (lv 10000 xs).toNat) (fun s2 h2 => by
      have h3 := ih (i + 1) s2 (by omega) (by omega) (by rw [h2]; exact allD_append.2 ⟨dg_allD x 4, ha⟩) (by rw [← list_length, h2, List.length_append, dg_length, list_length]; omega) (by
        rw [h2, dval_append, dg_val, lv_take_succ 10000 hi2, hxx, ← hv, list_length, hs, Nat.mod_eq_of_lt (show x < 10 ^ 4 by omega)]
        have e : ((10 : Nat) ^ (4 * i) : Nat) = 10000 ^ i := by rw [Nat.pow_mul]
        rw [e]
        have e2 : ((x * 10000 ^ i + dval s.data.toList : Nat) : Int) = (x : Int) * (10000 : Int) ^ i + (dval s.data.toList : Int) := by
          rw [Int.natCast_add, Int.natCast_mul, Int.natCast_pow]; rfl
        rw [e2]
        generalize (10000 : Int) ^ i = P
        grind)
      exact h3) 4 0 s rfl (by omega) (by rw [dg]; rfl)
    rw [Nat.pow_zero, Nat.div_one] at hrun
    refine Ev.step (f := _) (fun k => ?_) hrun
    simp only [cressetref01_Digits.l0, rd_nat]
    rw [if_pos (by omega), if_pos (by omega), hxx]; rfl
theorem rDigits_ev (xs : List Int) (hx : Lim 10000 xs) (hl : xs.length ≤ 100000) : Ev (fun k => cressetref01_Digits.f k xs) (nstr (lv 10000 xs).toNat) :=
  Ev.congr (fun k => by simp only [cressetref01_Digits.f]; rfl) (rDigits_l0 xs hx hl _ 0 ⟨#[]⟩ rfl (Nat.zero_le _) rfl rfl (by rw [List.take_zero]; rfl))
end Go.Proofs.CW
