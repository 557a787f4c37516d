/-
  Part 8 of the proof: R1, R2, R3, R4, RG2, RC1, RC2, RC3, RC4.
-/
import Derived.Test.YtjfclkbdkafkcaaGreatDoorYZ7
set_option linter.unusedVariables false
set_option linter.unusedSimpArgs false
namespace Go.Proofs.CW
open Go.RowKit Go.Proofs.YtjfclkbdkafkcaaGreatDoorW.PrintWords Go.Proofs.YtjfclkbdkafkcaaGreatDoor.PF

/-- A sign. -/
def Sg (r a b : Int) : Prop := (r = -1 ∧ a < b) ∨ (r = 0 ∧ a = b) ∨ (r = 1 ∧ b < a)
theorem rorder_l0 (xs ys : List Int) (hl : xs.length = ys.length) (hx : Lim 10000 xs) (hy : Lim 10000 ys) (hb : xs.length ≤ 1000000) : ∀ (i : Nat) (x : Int), x = (i : Int) - 1 → i ≤ xs.length → (∀ j, i ≤ j → xs.getD j 0 = ys.getD j 0) →
    ∃ r, Ev (fun k => cressetref01_order.l0 k xs ys x) r ∧ Sg r (lv 10000 xs) (lv 10000 ys)
  | 0, x, e, _, h => by
    refine ⟨0, Ev.step (f := fun _ => some 0) (fun k => ?_) (Ev.now _), .inr (.inl ⟨rfl, ?_⟩)⟩
    · simp only [cressetref01_order.l0]; rw [if_neg (by omega)]
    · have := drop_eq_of hl 0 (fun j hj => h j (by omega))
      simp only [List.drop_zero] at this
      rw [this]
  | i + 1, x, e, hi, h => by
    have hx2 : x = (i : Int) := by omega
    subst hx2
    have h1 : i < xs.length := by omega
    have h2 : i < ys.length := by omega
    rcases Int.lt_trichotomy (xs.getD i 0) (ys.getD i 0) with hlt | heq | hgt
    · refine ⟨-1, Ev.step (f := fun _ => some (-1)) (fun k => ?_) (Ev.now _), .inl ⟨rfl, lv_lt_at b4 hx hy hl h1 h hlt⟩⟩
      simp only [cressetref01_order.l0, rd_nat]
      rw [if_pos (by omega), if_pos (by omega), if_pos (by omega), if_pos (by omega), if_pos hlt]
    · obtain ⟨r, hr, hs⟩ := rorder_l0 xs ys hl hx hy hb i ((i : Int) - 1) rfl (by omega) (fun j hj => by
        rcases Nat.lt_or_ge i j with k | k
        · exact h j (by omega)
        · obtain rfl : j = i := by omega
          exact heq)
      refine ⟨r, Ev.step (f := fun k => cressetref01_order.l0 k xs ys ((i : Int) - 1)) (fun k => ?_) hr, hs⟩
      simp only [cressetref01_order.l0, rd_nat]
      rw [if_pos (by omega), if_pos (by omega), if_pos (by omega), if_pos (by omega), if_neg (by omega), if_neg (by omega), w64 (by omega) (by omega)]
    · refine ⟨1, Ev.step (f := fun _ => some 1) (fun k => ?_) (Ev.now _), .inr (.inr ⟨rfl, lv_lt_at b4 hy hx hl.symm h2 (fun j hj => (h j hj).symm) hgt⟩)⟩
      simp only [cressetref01_order.l0, rd_nat]
      rw [if_pos (by omega), if_pos (by omega), if_pos (by omega), if_pos (by omega), if_neg (by omega), if_pos hgt]
theorem rorder_ev (xs ys : List Int) (hx : Lim 10000 xs) (hy : Lim 10000 ys) (nx : Norm xs) (ny : Norm ys) (hb : xs.length ≤ 1000000) (hb2 : ys.length ≤ 1000000) :
    ∃ r, Ev (fun k => cressetref01_order.f k xs ys) r ∧ Sg r (lv 10000 xs) (lv 10000 ys) := by
  by_cases hl : xs.length = ys.length
  · obtain ⟨r, hr, hs⟩ := rorder_l0 xs ys hl hx hy hb xs.length _ rfl (Nat.le_refl _) (fun j hj => by rw [getD_ge hj, getD_ge (by omega)])
    refine ⟨r, Ev.congr (fun k => ?_) hr, hs⟩
    simp only [cressetref01_order.f]
    rw [if_pos (by omega), w64 (by omega) (by omega)]
  · by_cases h2 : xs.length < ys.length
    · refine ⟨-1, Ev.congr (f := fun _ => some (-1)) (fun k => ?_) (Ev.now _), .inl ⟨rfl, lv_lt_of_length b4 hx hy ny h2⟩⟩
      simp only [cressetref01_order.f]
      rw [if_neg (by omega), if_pos (by omega)]
    · refine ⟨1, Ev.congr (f := fun _ => some 1) (fun k => ?_) (Ev.now _), .inr (.inr ⟨rfl, lv_lt_of_length b4 hy hx nx (by omega)⟩)⟩
      simp only [cressetref01_order.f]
      rw [if_neg (by omega), if_neg (by omega)]

/-! The difference. -/
structure RMin (xs ys zs : List Int) (k : Nat) (b : Int) : Prop where
  len : zs.length = k
  lim : Lim 10000 zs
  bit : b = 0 ∨ b = 1
  val : lv 10000 (xs.take k) - lv 10000 (ys.take k) = lv 10000 zs - 10000 ^ k * b
theorem lv_take_getD (ys : List Int) (k : Nat) : lv 10000 (ys.take (k + 1)) = lv 10000 (ys.take k) + 10000 ^ k * ys.getD k 0 := by
  by_cases h : k < ys.length
  · exact lv_take_succ 10000 h
  · rw [getD_ge (by omega), List.take_of_length_le (by omega), List.take_of_length_le (by omega)]; omega
theorem RMin.step {xs ys zs : List Int} {k : Nat} {b d v b' : Int} (h : RMin xs ys zs k b) (hk : k < xs.length) (hd : d = xs.getD k 0 - b - ys.getD k 0) (hv : 0 ≤ v ∧ v < 10000) (hb : b' = 0 ∨ b' = 1) (he : v = d + 10000 * b') : RMin xs ys (zs ++ [v]) (k + 1) b' := by
  refine ⟨by simp [h.len], lim_snoc.2 ⟨h.lim, hv.1, hv.2⟩, hb, ?_⟩
  rw [lv_take_getD, lv_take_getD, lv_snoc, h.len, Int.pow_succ]
  have := h.val
  subst he hd
  generalize (10000 : Int) ^ k = P at *
  grind
theorem rminus_l0 (xs ys : List Int) (hx : Lim 10000 xs) (hy : Lim 10000 ys) (hb : xs.length ≤ 1000000) (hl : ys.length ≤ xs.length) (hle : lv 10000 ys ≤ lv 10000 xs) : ∀ (d k : Nat) (zs : List Int) (b x : Int), xs.length - k = d → k ≤ xs.length → x = (k : Int) → RMin xs ys zs k b →
    ∃ r, Ev (fun n => cressetref01_minus.l0 n xs ys zs b x) r ∧ Lim 10000 r ∧ Norm r ∧ lv 10000 r = lv 10000 xs - lv 10000 ys ∧ r.length ≤ xs.length := by
  intro d
  induction d with
  | zero =>
    intro k zs b x hd hk hxk h
    obtain rfl : k = xs.length := by omega
    subst hxk
    have hz : lv 10000 zs = lv 10000 xs - lv 10000 ys := by
      have hv := h.val
      rw [List.take_length, List.take_of_length_le hl] at hv
      have h1 := lv_lt b4 h.lim
      rw [h.len] at h1
      have h2 : (0 : Int) < 10000 ^ xs.length := Int.pow_pos b4
      rcases h.bit with rfl | rfl
      · omega
      · generalize (10000 : Int) ^ xs.length = P at *
        omega
    refine ⟨trimL zs, Ev.step (f := fun n => (cressetref01_trim.f n zs).bind fun t => some t) (fun n => ?_) (ev_bind_some (rtrim_ev _ zs rfl (by have := h.len; omega))), lim_trimL h.lim, trimL_norm _, by rw [lv_trimL, hz], by have := trimL_length_le zs; have := h.len; omega⟩
    simp only [cressetref01_minus.l0]
    rw [if_neg (by omega)]
  | succ d ih =>
    intro k zs b x hd hk hxk h
    subst hxk
    have hkx : k < xs.length := by omega
    have g1 := lim_getD b4 hx k
    have g2 := lim_getD b4 hy k
    have hbit := h.bit
    have hlz := h.len
    obtain ⟨dd, hdd⟩ : ∃ dd, xs.getD k 0 - b - ys.getD k 0 = dd := ⟨_, rfl⟩
    by_cases hneg : dd < 0
    · obtain ⟨r, hr, rest⟩ := ih (k + 1) (zs ++ [dd + 10000]) 1 ((k : Int) + 1) (by omega) (by omega) (by omega) (h.step hkx hdd.symm (by omega) (.inr rfl) (by omega))
      refine ⟨r, Ev.step (f := fun n => cressetref01_minus.l0 n xs ys (zs ++ [dd + 10000]) 1 ((k : Int) + 1)) (fun n => ?_) hr, rest⟩
      simp only [cressetref01_minus.l0, rd_nat]
      rw [if_pos (by omega), if_pos (by omega)]
      by_cases hky : k < ys.length
      · rw [if_pos (by omega), w64 (n := xs.getD k 0 - b) (by omega) (by omega), w64 (n := xs.getD k 0 - b - ys.getD k 0) (by omega) (by omega), hdd, if_pos hneg, if_pos (by omega), w64 (by omega) (by omega), w64 (by omega) (by omega)]
      · have e0 : ys.getD k 0 = 0 := getD_ge (by omega)
        rw [e0] at hdd
        rw [if_neg (by omega), w64 (n := xs.getD k 0 - b) (by omega) (by omega), show xs.getD k 0 - b = dd by omega, if_pos hneg, if_pos (by omega), w64 (by omega) (by omega), w64 (by omega) (by omega)]
    · obtain ⟨r, hr, rest⟩ := ih (k + 1) (zs ++ [dd]) 0 ((k : Int) + 1) (by omega) (by omega) (by omega) (h.step hkx hdd.symm (by omega) (.inl rfl) (by omega))
      refine ⟨r, Ev.step (f := fun n => cressetref01_minus.l0 n xs ys (zs ++ [dd]) 0 ((k : Int) + 1)) (fun n => ?_) hr, rest⟩
      simp only [cressetref01_minus.l0, rd_nat]
      rw [if_pos (by omega), if_pos (by omega)]
      by_cases hky : k < ys.length
      · rw [if_pos (by omega), w64 (n := xs.getD k 0 - b) (by omega) (by omega), w64 (n := xs.getD k 0 - b - ys.getD k 0) (by omega) (by omega), hdd, if_neg hneg, if_pos (by omega), w64 (by omega) (by omega)]
      · have e0 : ys.getD k 0 = 0 := getD_ge (by omega)
        rw [e0] at hdd
        rw [if_neg (by omega), w64 (n := xs.getD k 0 - b) (by omega) (by omega), show xs.getD k 0 - b = dd by omega, if_neg hneg, if_pos (by omega), w64 (by omega) (by omega)]
theorem rminus_ev (xs ys : List Int) (hx : Lim 10000 xs) (hy : Lim 10000 ys) (ny : Norm ys) (hb : xs.length ≤ 1000000) (hle : lv 10000 ys ≤ lv 10000 xs) :
    ∃ r, Ev (fun n => cressetref01_minus.f n xs ys) r ∧ Lim 10000 r ∧ Norm r ∧ lv 10000 r = lv 10000 xs - lv 10000 ys ∧ r.length ≤ xs.length := by
  have hl : ys.length ≤ xs.length := by
    rcases Nat.lt_or_ge xs.length ys.length with h | h
    · have := lv_lt_of_length b4 hx hy ny h; omega
    · exact h
  obtain ⟨r, hr, rest⟩ := rminus_l0 xs ys hx hy hb hl hle xs.length 0 [] 0 0 (by omega) (by omega) rfl ⟨rfl, lim_nil _, .inl rfl, by simp [lv]⟩
  exact ⟨r, Ev.congr (fun n => by simp only [cressetref01_minus.f]) hr, rest⟩
end Go.Proofs.CW
namespace Go.Proofs.CW
open Go.RowKit Go.Proofs.YtjfclkbdkafkcaaGreatDoorW.PrintWords Go.Proofs.YtjfclkbdkafkcaaGreatDoor.PF

theorem lim_one {x : Int} (h : 0 ≤ x ∧ x < 10000) : Lim 10000 [x] := lim_cons.2 ⟨h, lim_nil _⟩
theorem lv_one (x : Int) : lv 10000 [x] = x := by simp [lv]
/-- The quotient so far. -/
structure ROver (xs ys qs rs : List Int) (i : Nat) : Prop where
  len : qs.length = xs.length
  lim : Lim 10000 qs
  rlim : Lim 10000 rs
  rnorm : Norm rs
  lt : lv 10000 rs < lv 10000 ys
  val : lv 10000 (xs.drop i) = lv 10000 ys * lv 10000 (qs.drop i) + lv 10000 rs
theorem rover_steps (xs ys : List Int) (hx : Lim 10000 xs) (hy : Lim 10000 ys) (ny : Norm ys) (hy0 : ys ≠ []) (hb : xs.length ≤ 100000) (hb2 : ys.length ≤ 100000) : ∀ (i : Nat) (x : Int) (qs rs : List Int), x = (i : Int) - 1 → i ≤ xs.length → ROver xs ys qs rs i →
    (∀ j, j < i → qs.getD j 0 = 0) →
    ∃ r, Ev (fun k => cressetref01_over.l0 k xs ys qs rs x) r ∧ (Lim 10000 r.1 ∧ Norm r.1 ∧ Lim 10000 r.2 ∧ Norm r.2) ∧ lv 10000 xs = lv 10000 ys * lv 10000 r.1 + lv 10000 r.2 ∧ lv 10000 r.2 < lv 10000 ys := by
  have hyp := lv_pos b4 hy ny hy0
  have hyl := lv_lt b4 hy
  intro i
  induction i with
  | zero =>
    intro x qs rs e hi h hz
    refine ⟨(trimL qs, rs), Ev.step (f := fun k => (cressetref01_trim.f k qs).bind fun t => some (t, rs)) (fun k => ?_) ((rtrim_ev _ qs rfl (by have := h.len; omega)).bind (Ev.now _)), ⟨lim_trimL h.lim, trimL_norm _, h.rlim, h.rnorm⟩, ?_, h.lt⟩
    · simp only [cressetref01_over.l0]; rw [if_neg (by omega)]
    · have := h.val
      simp only [List.drop_zero] at this
      rw [lv_trimL]; exact this
  | succ i ih =>
    intro x qs rs e hi h hz
    have hx2 : x = (i : Int) := by omega
    subst hx2
    have hix : i < xs.length := by omega
    have hiq : i < qs.length := by rw [h.len]; exact hix
    have gx := lim_getD b4 hx i
    have hrl : rs.length ≤ ys.length := length_le_of_lt b4 h.rlim h.rnorm (by have := h.lt; omega)
    -- the rest with the next part
    obtain ⟨ts, hts⟩ : ∃ ts, trimL (xs.getD i 0 :: rs) = ts := ⟨_, rfl⟩
    have lt1 : Lim 10000 (xs.getD i 0 :: rs) := lim_cons.2 ⟨gx, h.rlim⟩
    have tl : Lim 10000 ts := hts ▸ lim_trimL lt1
    have tn : Norm ts := hts ▸ trimL_norm _
    have tv : lv 10000 ts = xs.getD i 0 + 10000 * lv 10000 rs := by rw [← hts, lv_trimL, lv_cons]
    have tlen : ts.length ≤ rs.length + 1 := by rw [← hts]; have := trimL_length_le (xs.getD i 0 :: rs); simpa using this
    have hdx := lv_drop_getD 10000 hix
    have hdq := lv_drop_getD 10000 hiq
    have q0 : qs.getD i 0 = 0 := hz i (by omega)
    have hval := h.val
    have rnn := lv_nonneg (B := 10000) (by decide) h.rlim
    have hlt := h.lt
    obtain ⟨s, hs, hsg⟩ := rorder_ev ts ys tl hy tn ny (by omega) (by omega)
    have evT : Ev (fun k => cressetref01_trim.f k ([xs.getD i 0] ++ rs)) ts := by
      rw [← hts]; exact rtrim_ev _ _ rfl (by simp; omega)
    have hstep : ∀ k, cressetref01_over.l0 (k + 1) xs ys qs rs (i : Int) = (cressetref01_trim.f k ([xs.getD i 0] ++ rs)).bind fun t280 => (cressetref01_order.f k t280 ys).bind fun t283 => if t283 < 0 then cressetref01_over.l0 k xs ys qs t280 (wrap64 ((i : Int) - 1)) else cressetref01_over.l1 k xs ys qs t280 (i : Int) 1 10000 := fun k => by
      simp only [cressetref01_over.l0, rd_nat]
      rw [if_pos (by omega), if_pos (by omega), if_pos (by omega)]
      simp only [Option.bind_some]
      rw [if_pos (by simp; omega)]
    by_cases hneg : lv 10000 ts < lv 10000 ys
    · have hs1 : s = -1 := by rcases hsg with ⟨h1, _⟩ | ⟨_, h2⟩ | ⟨_, h2⟩ <;> omega
      have hn : ROver xs ys qs ts i := ⟨h.len, h.lim, tl, tn, hneg, by rw [hdx, hdq, q0, tv, hval]; grind⟩
      obtain ⟨r, hr, rest⟩ := ih ((i : Int) - 1) qs ts rfl (by omega) hn (fun j hj => hz j (by omega))
      refine ⟨r, Ev.step (f := fun k => (cressetref01_trim.f k ([xs.getD i 0] ++ rs)).bind fun t280 => (cressetref01_order.f k t280 ys).bind fun t283 => if t283 < 0 then cressetref01_over.l0 k xs ys qs t280 (wrap64 ((i : Int) - 1)) else cressetref01_over.l1 k xs ys qs t280 (i : Int) 1 10000) hstep (Ev.bind evT (Ev.bind hs (Ev.congr (fun k => ?_) hr))), rest⟩
      rw [if_pos (by omega), w64 (by omega) (by omega)]
    · have hs1 : ¬ s < 0 := by rcases hsg with ⟨_, h2⟩ | ⟨h1, _⟩ | ⟨h1, _⟩ <;> omega
      -- the search
      have search : ∀ (d : Nat) (low high : Int), (high - low).toNat = d → 1 ≤ low → low < high → high ≤ 10000 → lv 10000 ys * low ≤ lv 10000 ts → lv 10000 ts < lv 10000 ys * high →
          ∃ r, Ev (fun k => cressetref01_over.l1 k xs ys qs ts (i : Int) low high) r ∧ (Lim 10000 r.1 ∧ Norm r.1 ∧ Lim 10000 r.2 ∧ Norm r.2) ∧ lv 10000 xs = lv 10000 ys * lv 10000 r.1 + lv 10000 r.2 ∧ lv 10000 r.2 < lv 10000 ys := by
        intro d
        induction d using Nat.strongRecOn with
        | ind d ihd =>
          intro low high hd h1 h2 h3 h4 h5
          by_cases hone : high - low > 1
          · obtain ⟨mid, hmid⟩ : ∃ mid, (low + high) / 2 = mid := ⟨_, rfl⟩
            have hm1 : low < mid := by omega
            have hm2 : mid < high := by omega
            obtain ⟨ms, hms, ml, mn, mv, mlen⟩ := rtimes_ev ys [mid] hy (lim_one (by omega)) (by simp; omega)
            rw [lv_one] at mv
            simp only [List.length_cons, List.length_nil] at mlen
            obtain ⟨s2, hs2, hsg2⟩ := rorder_ev ms ts ml tl mn tn (by omega) (by omega)
            have hst : ∀ k, cressetref01_over.l1 (k + 1) xs ys qs ts (i : Int) low high = (cressetref01_times.f k ys [mid]).bind fun t297 => (cressetref01_order.f k t297 ts).bind fun t300 => if t300 ≤ 0 then cressetref01_over.l1 k xs ys qs ts (i : Int) mid high else cressetref01_over.l1 k xs ys qs ts (i : Int) low mid := fun k => by
              simp only [cressetref01_over.l1]
              rw [w64 (n := high - low) (by omega) (by omega), if_pos hone, w64 (n := low + high) (by omega) (by omega), tdivB (by omega), hmid, w64 (n := mid) (by omega) (by omega)]
            by_cases hle : lv 10000 ys * mid ≤ lv 10000 ts
            · obtain ⟨r, hr, rest⟩ := ihd (high - mid).toNat (by omega) mid high rfl (by omega) hm2 h3 hle h5
              refine ⟨r, Ev.step (f := _) hst (Ev.bind hms (Ev.bind hs2 (Ev.congr (fun k => ?_) hr))), rest⟩
              rw [if_pos (by rcases hsg2 with ⟨h1, _⟩ | ⟨h1, _⟩ | ⟨_, h2⟩ <;> omega)]
            · obtain ⟨r, hr, rest⟩ := ihd (mid - low).toNat (by omega) low mid rfl h1 hm1 (by omega) h4 (by omega)
              refine ⟨r, Ev.step (f := _) hst (Ev.bind hms (Ev.bind hs2 (Ev.congr (fun k => ?_) hr))), rest⟩
              rw [if_neg (by rcases hsg2 with ⟨_, h2⟩ | ⟨_, h2⟩ | ⟨h1, _⟩ <;> omega)]
          · have hh : high = low + 1 := by omega
            subst hh
            obtain ⟨ms, hms, ml, mn, mv, mlen⟩ := rtimes_ev ys [low] hy (lim_one (by omega)) (by simp; omega)
            rw [lv_one] at mv
            obtain ⟨us, hus, ul, un, uv, ulen⟩ := rminus_ev ts ms tl ml mn (by omega) (by rw [mv]; exact h4)
            have hgd : (qs.set i low).getD i 0 = low := getD_set_self low hiq
            have hds := lv_drop_getD 10000 (xs := qs.set i low) (i := i) (by rw [List.length_set]; exact hiq)
            have hq2 : ROver xs ys (qs.set i low) us i := by
              refine ⟨by rw [List.length_set, h.len], lim_set h.lim i (by omega) (by omega), ul, un, ?_, ?_⟩
              · rw [uv, mv]; have : lv 10000 ys * (low + 1) = lv 10000 ys * low + lv 10000 ys := by grind
                omega
              · rw [hdx, hds, hgd, drop_set_succ, uv, mv, tv, hval]
                grind
            obtain ⟨r, hr, rest⟩ := ih ((i : Int) - 1) (qs.set i low) us rfl (by omega) hq2 (fun j hj => by rw [getD_set_ne low (by omega)]; exact hz j (by omega))
            refine ⟨r, Ev.step (f := fun k => (cressetref01_times.f k ys [low]).bind fun t288 => (cressetref01_minus.f k ts t288).bind fun t291 => cressetref01_over.l0 k xs ys (qs.set i low) t291 ((i : Int) - 1)) (fun k => ?_) (Ev.bind hms (Ev.bind hus hr)), rest⟩
            simp only [cressetref01_over.l1]
            rw [w64 (n := low + 1 - low) (by omega) (by omega), if_neg (by omega), if_pos (by omega), if_pos (by omega), w64 (n := (i : Int) - 1) (by omega) (by omega), Int.toNat_natCast]
      have hhi : lv 10000 ts < lv 10000 ys * 10000 := by rw [tv]; omega
      obtain ⟨r, hr, rest⟩ := search _ 1 10000 rfl (by omega) (by omega) (by omega) (by omega) hhi
      refine ⟨r, Ev.step (f := fun k => (cressetref01_trim.f k ([xs.getD i 0] ++ rs)).bind fun t280 => (cressetref01_order.f k t280 ys).bind fun t283 => if t283 < 0 then cressetref01_over.l0 k xs ys qs t280 (wrap64 ((i : Int) - 1)) else cressetref01_over.l1 k xs ys qs t280 (i : Int) 1 10000) hstep (Ev.bind evT (Ev.bind hs (Ev.congr (fun k => ?_) hr))), rest⟩
      rw [if_neg hs1]
theorem rover_ev (xs ys : List Int) (hx : Lim 10000 xs) (hy : Lim 10000 ys) (ny : Norm ys) (hy0 : ys ≠ []) (hb : xs.length ≤ 100000) (hb2 : ys.length ≤ 100000) :
    ∃ r, Ev (fun k => cressetref01_over.f k xs ys) r ∧ (Lim 10000 r.1 ∧ Norm r.1 ∧ Lim 10000 r.2 ∧ Norm r.2) ∧ lv 10000 xs = lv 10000 ys * lv 10000 r.1 + lv 10000 r.2 ∧ lv 10000 r.2 < lv 10000 ys := by
  obtain ⟨r, hr, rest⟩ := rover_steps xs ys hx hy ny hy0 hb hb2 xs.length ((xs.length : Int) - 1) (List.replicate xs.length 0) [] rfl (Nat.le_refl _)
    ⟨by simp, by intro x h; have := List.eq_of_mem_replicate h; omega, lim_nil _, norm_nil, lv_pos b4 hy ny hy0, by rw [List.drop_length, List.drop_of_length_le (by simp)]; simp [lv]⟩
    (fun j hj => by rw [getD_lt (by simpa using hj)]; simp)
  refine ⟨r, Ev.congr (fun k => ?_) hr, rest⟩
  simp only [cressetref01_over.f]
  rw [if_pos (by omega), if_pos (by omega), w64 (by omega) (by omega), Int.toNat_natCast]
theorem rgcd_ev : ∀ (n : Nat) (xs ys : List Int), (lv 10000 ys).toNat = n → Lim 10000 xs → Lim 10000 ys → Norm xs → Norm ys → xs.length ≤ 100000 → ys.length ≤ 100000 →
    ∃ r, Ev (fun k => cressetref01_gcd.f k xs ys) r ∧ Lim 10000 r ∧ Norm r ∧ lv 10000 r = (Nat.gcd (lv 10000 xs).toNat (lv 10000 ys).toNat : Nat) ∧ r.length ≤ 100000 := by
  intro n
  induction n using Nat.strongRecOn with
  | ind n ih =>
    intro xs ys hn hx hy nx ny hb hb2
    have x0 := lv_nonneg (B := 10000) (by decide) hx
    have y0 := lv_nonneg (B := 10000) (by decide) hy
    by_cases hy0 : ys = []
    · subst hy0
      refine ⟨xs, Ev.step (f := fun _ => some xs) (fun k => ?_) (Ev.now _), hx, nx, ?_, hb⟩
      · simp only [cressetref01_gcd.f, cressetref01_gcd.l0]; rw [if_neg (by simp)]
      · rw [lv_nil]; simp; omega
    · obtain ⟨q, hq, ⟨_, _, ql, qn⟩, qv, qlt⟩ := rover_ev xs ys hx hy ny hy0 hb hb2
      have r0 := lv_nonneg (B := 10000) (by decide) ql
      have hql : q.2.length ≤ ys.length := length_le_of_lt b4 ql qn (by have := lv_lt b4 hy; omega)
      obtain ⟨r, hr, rl, rn, rv, rb⟩ := ih (lv 10000 q.2).toNat (by omega) ys q.2 rfl hy ql ny qn hb2 (by omega)
      have hl : (ys.length : Int) > 0 := by
        have := List.length_pos_iff.2 hy0; omega
      refine ⟨r, Ev.step (f := fun k => (cressetref01_over.f k xs ys).bind fun t => cressetref01_gcd.l0 k ys t.2) (fun k => ?_) (Ev.bind hq hr), rl, rn, ?_, rb⟩
      · simp only [cressetref01_gcd.f, cressetref01_gcd.l0]; rw [if_pos hl]
      · rw [rv]
        obtain ⟨a, ha⟩ : ∃ a : Nat, lv 10000 xs = (a : Int) := ⟨_, (Int.toNat_of_nonneg x0).symm⟩
        obtain ⟨b, hb⟩ : ∃ b : Nat, lv 10000 ys = (b : Int) := ⟨_, (Int.toNat_of_nonneg y0).symm⟩
        obtain ⟨c, hc⟩ : ∃ c : Nat, lv 10000 q.2 = (c : Int) := ⟨_, (Int.toNat_of_nonneg r0).symm⟩
        have e1 : (c : Int) < (b : Int) := by rw [← hc, ← hb]; exact qlt
        have e2 : (a : Int) = (b : Int) * lv 10000 q.1 + (c : Int) := by rw [← ha, ← hb, ← hc]; exact qv
        rw [ha, hb, hc]
        simp only [Int.toNat_natCast]
        have hcm : c = a % b := by
          have h1 : (a : Int) % (b : Int) = (c : Int) := by
            rw [e2, Int.add_comm, Int.add_mul_emod_self_left, Int.emod_eq_of_lt (by omega) (by omega)]
          have h2 : ((a % b : Nat) : Int) = (c : Int) := by rw [Int.natCast_emod]; exact h1
          omega
        rw [hcm, Nat.gcd_comm b, ← Nat.gcd_rec, Nat.gcd_comm]
end Go.Proofs.CW
namespace Go.Proofs.CW
open Go.RowKit Go.Proofs.YtjfclkbdkafkcaaGreatDoorW.PrintWords Go.Proofs.YtjfclkbdkafkcaaGreatDoor.PF

theorem bt_get (s : ByteArray) (i : Nat) (h : i < s.data.toList.length) : bt s (i : Int) = ((s.data.toList[i]).toNat : Int) := by
  have h2 : i < s.size := by rw [← list_length]; exact h
  rw [← bt_at s (i : Int) (by simpa using h2)]
  simp only [Int.toNat_natCast]
  rfl
/-! Is it a number? -/
theorem rNat_l0 (s : ByteArray) (hs : s.size ≤ 1000000) : ∀ (d i : Nat), s.data.toList.length - i = d → i ≤ s.data.toList.length → Ev (fun k => cressetref01_Nat.l0 k s (i : Int)) (allD (s.data.toList.drop i)) := by
  intro d
  have hl := list_length s
  induction d with
  | zero =>
    intro i hd hi
    obtain rfl : i = s.data.toList.length := by omega
    refine Ev.step (f := fun _ => some true) (fun k => ?_) (by rw [List.drop_length]; exact Ev.now _)
    simp only [cressetref01_Nat.l0]; rw [if_neg (by omega)]
  | succ d ih =>
    intro i hd hi
    have h1 : i < s.data.toList.length := by omega
    have hb := bt_get s i h1
    have e : s.data.toList.drop i = s.data.toList[i] :: s.data.toList.drop (i + 1) := List.drop_eq_getElem_cons h1
    generalize s.data.toList[i] = c at hb e
    by_cases hc : isd c = true
    · have hr := isd_iff.1 hc
      refine Ev.step (f := fun k => cressetref01_Nat.l0 k s ((i : Int) + 1)) (fun k => ?_) ?_
      · simp only [cressetref01_Nat.l0, hb]
        rw [if_pos (by omega), if_pos (by omega), if_neg (by omega), if_neg (by omega), w64 (by omega) (by omega)]
      · have := ih (i + 1) (by omega) (by omega)
        rw [e]
        have e2 : allD (c :: s.data.toList.drop (i + 1)) = allD (s.data.toList.drop (i + 1)) := by simp [allD, hc]
        rw [e2]
        exact this
    · have e2 : allD (s.data.toList.drop i) = false := by rw [e]; simp [allD, hc]
      rw [e2]
      refine Ev.step (f := fun _ => some false) (fun k => ?_) (Ev.now _)
      simp only [cressetref01_Nat.l0, hb]
      rw [if_pos (by omega), if_pos (by omega)]
      by_cases h48 : (c.toNat : Int) < 48
      · rw [if_pos h48]
      · rw [if_neg h48, if_pos (by
          have : ¬ (48 ≤ c.toNat ∧ c.toNat ≤ 57) := fun h => hc (isd_iff.2 h)
          omega)]
theorem rNat_ev (s : ByteArray) (hs : s.size ≤ 1000000) : Ev (fun k => cressetref01_Nat.f k s) (okN s) := by
  have hl := list_length s
  have hT : Ev (fun k => cressetref01_Nat.j0 k s true) false := Ev.step (f := fun _ => some false) (fun k => by simp only [cressetref01_Nat.j0, if_true]) (Ev.now _)
  have hF : Ev (fun k => cressetref01_Nat.j0 k s false) (allD s.data.toList) := by
    have := rNat_l0 s hs _ 0 rfl (Nat.zero_le _)
    rw [List.drop_zero] at this
    refine Ev.step (f := fun k => cressetref01_Nat.l0 k s 0) (fun k => ?_) this
    simp only [cressetref01_Nat.j0]; rw [if_neg (by decide)]
  by_cases h0 : s.size = 0
  · have e : okN s = false := by unfold okN canon; rw [(list_nil s).2 h0]; rfl
    rw [e]
    refine Ev.congr (fun k => ?_) hT
    simp only [cressetref01_Nat.f]; rw [if_pos (by omega)]
  · by_cases h6 : 600 < s.size
    · have e : okN s = false := by unfold okN; rw [decide_eq_false (by omega : ¬ s.size ≤ 600), Bool.and_false]
      rw [e]
      refine Ev.congr (fun k => ?_) hT
      simp only [cressetref01_Nat.f]; rw [if_neg (by omega), if_pos (by omega)]
    · by_cases h1 : 1 < s.size
      · obtain ⟨c, l, hcl⟩ : ∃ c l, s.data.toList = c :: l := by
          cases h : s.data.toList with
          | nil => rw [h] at hl; simp at hl; omega
          | cons c l => exact ⟨c, l, rfl⟩
        have hb := bt_head s c l hcl
        by_cases h48 : c = 48
        · have e : okN s = false := by
            unfold okN canon
            rw [hcl]
            have : l.length + 1 = s.size := by rw [← hl, hcl]; rfl
            have e1 : ((c :: l).length == 1) = false := by rw [beq_eq_false_iff_ne]; simp only [List.length_cons]; omega
            rw [e1, h48]; simp
          rw [e]
          refine Ev.congr (fun k => ?_) hT
          simp only [cressetref01_Nat.f]
          rw [if_neg (by omega), if_neg (by omega), if_pos (by omega), if_pos (by omega), hb, h48]; rfl
        · have hne : ((c.toNat : Int) == 48) = false := by
            rw [beq_eq_false_iff_ne]
            intro h
            apply h48
            have h2 : c.toNat = 48 := Int.ofNat.inj h
            rw [← ofNat_of_toNat c, h2]; rfl
          have e : okN s = allD s.data.toList := by
            unfold okN canon
            rw [hcl]
            have e2 : ((c :: l).head? != some 48) = true := by simp [h48]
            rw [e2, decide_eq_true (by omega : s.size ≤ 600)]; simp
          rw [e]
          refine Ev.congr (fun k => ?_) hF
          simp only [cressetref01_Nat.f]
          rw [if_neg (by omega), if_neg (by omega), if_pos (by omega), if_pos (by omega), hb, hne]
      · have hs1 : s.size = 1 := by omega
        have e : okN s = allD s.data.toList := by
          unfold okN canon
          have e1 : (s.data.toList.length == 1) = true := by rw [hl, hs1]; rfl
          have e2 : decide (s.data.toList ≠ []) = true := decide_eq_true (by rw [Ne, list_nil]; omega)
          rw [e1, e2, decide_eq_true (by omega : s.size ≤ 600)]; simp
        rw [e]
        refine Ev.congr (fun k => ?_) hF
        simp only [cressetref01_Nat.f]
        rw [if_neg (by omega), if_neg (by omega), if_neg (by omega)]

/-! The parts of a string of digits. -/
theorem dval_chunk (l : List UInt8) (lo i : Nat) (h : lo ≤ i) (hi : i < l.length) : dval ((l.drop lo).take (i + 1 - lo)) = dval ((l.drop lo).take (i - lo)) * 10 + (l[i].toNat - 48) := by
  have e : (l.drop lo).take (i + 1 - lo) = (l.drop lo).take (i - lo) ++ [l[i]] := by
    rw [show i + 1 - lo = (i - lo) + 1 by omega, List.take_succ_eq_append_getElem (by simp; omega)]
    congr 2
    rw [List.getElem_drop]; congr 1; omega
  rw [e, dval_snoc]
theorem allD_get {l : List UInt8} (h : allD l = true) {i : Nat} (hi : i < l.length) : 48 ≤ (l[i]).toNat ∧ (l[i]).toNat ≤ 57 := by
  unfold allD at h
  rw [List.all_eq_true] at h
  exact isd_iff.1 (h _ (List.getElem_mem hi))
theorem allD_take {l : List UInt8} (h : allD l = true) (n : Nat) : allD (l.take n) = true := by
  unfold allD at *
  rw [List.all_eq_true] at *
  exact fun x hx => h x (List.mem_of_mem_take hx)
theorem allD_drop {l : List UInt8} (h : allD l = true) (n : Nat) : allD (l.drop n) = true := by
  unfold allD at *
  rw [List.all_eq_true] at *
  exact fun x hx => h x (List.mem_of_mem_drop hx)
theorem rParts_l1 (s : ByteArray) (hd : allD s.data.toList = true) (hs : s.size ≤ 1000000) (out : List Int) (ho : out.length ≤ 1000000) (lo en : Nat) (hle : lo ≤ en) (hen : en ≤ s.data.toList.length) (h4 : en ≤ lo + 4) (r : List Int)
    (hr : Ev (fun k => cressetref01_Parts.l0 k s (out ++ [(dval ((s.data.toList.drop lo).take (en - lo)) : Int)]) ((en : Int) - 4)) r) :
    ∀ (d i : Nat), en - i = d → lo ≤ i → i ≤ en → Ev (fun k => cressetref01_Parts.l1 k s out (en : Int) (dval ((s.data.toList.drop lo).take (i - lo)) : Int) (i : Int)) r := by
  have hl := list_length s
  intro d
  induction d with
  | zero =>
    intro i h1 h2 h3
    obtain rfl : i = en := by omega
    refine Ev.step (f := _) (fun k => ?_) hr
    simp only [cressetref01_Parts.l1]
    rw [if_neg (by omega), if_pos (by omega), w64 (by omega) (by omega)]
  | succ d ih =>
    intro i h1 h2 h3
    have hi : i < s.data.toList.length := by omega
    have hb := bt_get s i hi
    have hg := allD_get hd hi
    have hch := dval_chunk s.data.toList lo i h2 hi
    have hlt := dval_lt ((s.data.toList.drop lo).take (i - lo)) (allD_take (allD_drop hd lo) _)
    have hlen : ((s.data.toList.drop lo).take (i - lo)).length ≤ 3 := by simp only [List.length_take]; omega
    have hp : (10 : Nat) ^ ((s.data.toList.drop lo).take (i - lo)).length ≤ 10 ^ 3 := Nat.pow_le_pow_right (by omega) hlen
    have hnext := ih (i + 1) (by omega) (by omega) (by omega)
    rw [hch] at hnext
    refine Ev.step (f := _) (fun k => ?_) hnext
    simp only [cressetref01_Parts.l1, hb]
    generalize dval ((s.data.toList.drop lo).take (i - lo)) = p at *
    generalize (s.data.toList[i]).toNat = c at *
    rw [if_pos (by omega), if_pos (by omega), if_pos (by omega), w64 (n := 10 * (p : Int)) (by omega) (by omega), w64 (n := 10 * (p : Int) + ((c : Int) - 48) % 256) (by omega) (by omega), w64 (n := (i : Int) + 1) (by omega) (by omega)]
    congr 1
    omega
theorem rParts_l0 (s : ByteArray) (hd : allD s.data.toList = true) (hs : s.size ≤ 100000) : ∀ (d en : Nat) (out : List Int) (x : Int), en ≤ d → (x = (en : Int) ∨ (x ≤ 0 ∧ en = 0)) → en ≤ s.data.toList.length → out.length + en ≤ 100000 → Lim 10000 out → lv 10000 out + 10000 ^ out.length * (dval (s.data.toList.take en) : Int) = (dval s.data.toList : Int) →
    ∃ r, Ev (fun k => cressetref01_Parts.l0 k s out x) r ∧ Lim 10000 r ∧ Norm r ∧ lv 10000 r = (dval s.data.toList : Int) ∧ r.length ≤ 100000 := by
  have hl := list_length s
  intro d
  induction d with
  | zero =>
    intro en out x h1 h2 h3 h4 hlim hv
    obtain rfl : en = 0 := by omega
    refine ⟨trimL out, Ev.step (f := fun k => (cressetref01_trim.f k out).bind fun t => some t) (fun k => ?_) (ev_bind_some (rtrim_ev _ out rfl (by omega))), lim_trimL hlim, trimL_norm _, ?_, by have := trimL_length_le out; omega⟩
    · simp only [cressetref01_Parts.l0]; rw [if_neg (by omega)]
    · rw [lv_trimL, ← hv, List.take_zero, show dval [] = 0 from rfl]; omega
  | succ d ih =>
    intro en out x h1 h2 h3 h4 hlim hv
    by_cases h0 : en = 0
    · exact ih en out x (by omega) h2 h3 h4 hlim hv
    have hx : x = (en : Int) := by omega
    subst hx
    obtain ⟨lo, hlo⟩ : ∃ lo, en - 4 = lo := ⟨_, rfl⟩
    have hclt := dval_lt ((s.data.toList.drop lo).take (en - lo)) (allD_take (allD_drop hd lo) _)
    have hclen : ((s.data.toList.drop lo).take (en - lo)).length = en - lo := by simp only [List.length_take, List.length_drop]; omega
    have hcp : (10 : Nat) ^ (en - lo) ≤ 10 ^ 4 := Nat.pow_le_pow_right (by omega) (by omega)
    rw [hclen] at hclt
    have hsplit : s.data.toList.take en = s.data.toList.take lo ++ (s.data.toList.drop lo).take (en - lo) := by
      have e : en = lo + (en - lo) := by omega
      conv => lhs; rw [e, List.take_add]
    have hdv : dval (s.data.toList.take en) = dval (s.data.toList.take lo) * 10 ^ (en - lo) + dval ((s.data.toList.drop lo).take (en - lo)) := by rw [hsplit, dval_append, hclen]
    obtain ⟨p, hp⟩ : ∃ p, dval ((s.data.toList.drop lo).take (en - lo)) = p := ⟨_, rfl⟩
    rw [hp] at hclt hdv
    have hv2 : lv 10000 (out ++ [(p : Int)]) + 10000 ^ (out ++ [(p : Int)]).length * (dval (s.data.toList.take lo) : Int) = (dval s.data.toList : Int) := by
      rw [lv_snoc, List.length_append, List.length_cons, List.length_nil, Int.pow_succ, ← hv, hdv]
      by_cases hsm : lo = 0
      · subst hsm
        have e0 : dval (s.data.toList.take 0) = 0 := by rw [List.take_zero]; rfl
        rw [e0, Nat.zero_mul, Nat.zero_add]
        generalize (10000 : Int) ^ out.length = P
        grind
      · have e4 : en - lo = 4 := by omega
        have e5 : (10 : Nat) ^ 4 = 10000 := by decide
        rw [e4, e5]
        have e6 : ((dval (s.data.toList.take lo) * 10000 + p : Nat) : Int) = (dval (s.data.toList.take lo) : Int) * 10000 + (p : Int) := by omega
        rw [e6]
        generalize (10000 : Int) ^ out.length = P
        grind
    obtain ⟨r, hr, rest⟩ := ih lo (out ++ [(p : Int)]) ((en : Int) - 4) (by omega) (by omega) (by omega) (by simp; omega) (lim_snoc.2 ⟨hlim, by omega, by omega⟩) hv2
    rw [← hp] at hr
    have hrun := rParts_l1 s hd (by omega) out (by omega) lo en (by omega) h3 (by omega) r hr _ lo rfl (Nat.le_refl _) (by omega)
    rw [Nat.sub_self, List.take_zero, show dval [] = 0 from rfl] at hrun
    refine ⟨r, Ev.step (f := _) (fun k => ?_) hrun, rest⟩
    simp only [cressetref01_Parts.l0]
    rw [if_pos (by omega), w64 (n := (en : Int) - 4) (by omega) (by omega)]
    have hmx : mx 0 ((en : Int) - 4) = (lo : Int) := by unfold mx; split <;> omega
    rw [hmx]; rfl
theorem rParts_ev (s : ByteArray) (hd : allD s.data.toList = true) (hs : s.size ≤ 100000) : ∃ r, Ev (fun k => cressetref01_Parts.f k s) r ∧ Lim 10000 r ∧ Norm r ∧ lv 10000 r = (dval s.data.toList : Int) ∧ r.length ≤ 100000 := by
  have hl := list_length s
  obtain ⟨r, hr, rest⟩ := rParts_l0 s hd hs s.data.toList.length s.data.toList.length [] (s.size : Int) (Nat.le_refl _) (.inl (by rw [hl])) (Nat.le_refl _) (by simp; omega) (lim_nil _) (by rw [List.take_length, lv_nil, List.length_nil, Int.pow_zero]; omega)
  exact ⟨r, Ev.congr (fun k => by simp only [cressetref01_Parts.f]) hr, rest⟩
end Go.Proofs.CW
namespace Go.Proofs.CW
open Go.RowKit Go.Proofs.YtjfclkbdkafkcaaGreatDoorW.PrintWords Go.Proofs.YtjfclkbdkafkcaaGreatDoor.PF

theorem app_list (a b : ByteArray) : (a ++ b).data.toList = a.data.toList ++ b.data.toList := by simp
/-- The j lowest digits. -/
def dg (x : Nat) : Nat → List UInt8
  | 0 => []
  | j + 1 => UInt8.ofNat (48 + x / 10 ^ j % 10) :: dg x j
theorem dg_length (x : Nat) : ∀ j, (dg x j).length = j
  | 0 => rfl
  | j + 1 => by rw [dg, List.length_cons, dg_length x j]
theorem digit_toNat {d : Nat} (h : d < 10) : (UInt8.ofNat (48 + d)).toNat = 48 + d := ofNat_toNat (by omega)
theorem dg_allD (x : Nat) : ∀ j, allD (dg x j) = true
  | 0 => rfl
  | j + 1 => by
    have h := digit_toNat (Nat.mod_lt (x / 10 ^ j) (show 10 > 0 by omega))
    exact allD_cons.2 ⟨by omega, dg_allD x j⟩
theorem dg_val (x : Nat) : ∀ j, dval (dg x j) = x % 10 ^ j
  | 0 => by rw [dg, Nat.pow_zero, Nat.mod_one]; rfl
  | j + 1 => by
    have h := digit_toNat (Nat.mod_lt (x / 10 ^ j) (show 10 > 0 by omega))
    rw [dg, dval_cons, dg_length, dg_val x j, h, Nat.mod_pow_succ, Nat.mul_comm (10 ^ j), Nat.add_sub_cancel_left, Nat.add_comm]
theorem nstr_of {r : ByteArray} {n : Nat} (hc : canon r.data.toList = true) (hv : dval r.data.toList = n) : nstr n = r := by
  have h := decDigits_dval _ hc
  rw [hv] at h
  unfold nstr
  rw [h]
/-- Without the leading zeros. -/
theorem rDigits_l2 : ∀ (d : Nat) (s : ByteArray) (n : Nat), s.size = d → s.size ≤ 1000000 → allD s.data.toList = true → dval s.data.toList = n → Ev (fun k => cressetref01_Digits.l2 k s) (nstr n) := by
  intro d
  induction d with
  | zero =>
    intro s n hd hs ha hv
    have e : s.data.toList = [] := (list_nil s).2 hd
    have e2 : s.toList = [] := by rw [ByteArray.toList_eq]; exact e
    rw [e] at hv
    have hn : n = 0 := by rw [← hv]; rfl
    subst hn
    rw [nstr_zero]
    refine Ev.step (f := fun _ => some s0) (fun k => ?_) (Ev.now _)
    simp only [cressetref01_Digits.l2]
    rw [if_neg (by omega), if_pos e2]; rfl
  | succ d ih =>
    intro s n hd hs ha hv
    have hl := list_length s
    obtain ⟨c, l, hcl⟩ : ∃ c l, s.data.toList = c :: l := by
      cases h : s.data.toList with
      | nil => rw [h] at hl; simp at hl; omega
      | cons c l => exact ⟨c, l, rfl⟩
    have hne : ¬ s.toList = [] := by rw [ByteArray.toList_eq, hcl]; simp
    have hb := bt_head s c l hcl
    have hll : l.length = d := by rw [hcl, List.length_cons] at hl; omega
    rw [hcl] at ha
    have hac := allD_cons.1 ha
    by_cases h1 : 1 < s.size
    · by_cases h48 : c.toNat = 48
      · have he : (s.extract 1 s.size).data.toList = l := by
          rw [Lib.extract_data, hcl, List.drop_succ_cons, List.drop_zero, List.take_of_length_le (by omega)]
        have hes : (s.extract 1 s.size).size = d := by rw [← list_length, he, hll]
        have hv2 : dval l = n := by rw [hcl, dval_cons, h48] at hv; omega
        refine Ev.step (f := fun k => cressetref01_Digits.l2 k (s.extract 1 s.size)) (fun k => ?_) (ih _ n hes (by omega) (by rw [he]; exact hac.2) (by rw [he]; exact hv2))
        simp only [cressetref01_Digits.l2]
        rw [if_pos (by omega), if_pos (by omega), hb, if_pos (by omega), if_pos (by omega)]
      · have hc : canon s.data.toList = true := canon_iff.2 ⟨by rw [hcl]; simp, by rw [hcl]; exact ha, .inr (by
          rw [hcl, List.head?_cons]
          intro h
          injection h with h
          exact h48 (by rw [h]; rfl))⟩
        rw [nstr_of hc hv]
        refine Ev.step (f := fun _ => some s) (fun k => ?_) (Ev.now _)
        simp only [cressetref01_Digits.l2]
        rw [if_pos (by omega), if_pos (by omega), hb, if_neg (by omega), if_neg hne]
    · have hc : canon s.data.toList = true := canon_iff.2 ⟨by rw [hcl]; simp, by rw [hcl]; exact ha, .inl (by rw [hl]; omega)⟩
      rw [nstr_of hc hv]
      refine Ev.step (f := fun _ => some s) (fun k => ?_) (Ev.now _)
      simp only [cressetref01_Digits.l2]
      rw [if_neg (by omega), if_neg hne]
theorem dig_e1 (p : Nat) (hp : p < 10000) : wrap64 (48 + Int.tmod (p : Int) 10) % 256 = ((48 + p % 10 : Nat) : Int) := by
  rw [tmodB (by omega), w64 (by omega) (by omega)]; omega
theorem dig_e2 (p : Nat) (hp : p < 10000) : wrap64 (Int.tdiv (p : Int) 10) = ((p / 10 : Nat) : Int) := by
  rw [tdivB (by omega), w64 (by omega) (by omega)]; omega
theorem dig_e3 (j : Nat) (hj : j < 4) : wrap64 ((j : Int) + 1) = ((j + 1 : Nat) : Int) := by rw [w64 (by omega) (by omega)]; omega
theorem rDigits_l1 (xs : List Int) (i x : Nat) (hx : x < 10000) (hi : i ≤ 100000) (t : ByteArray) (ht : t.size ≤ 1000000) (r : ByteArray)
    (hr : ∀ s : ByteArray, s.data.toList = dg x 4 ++ t.data.toList → Ev (fun k => cressetref01_Digits.l0 k xs s ((i : Int) + 1)) r) :
    ∀ (d j : Nat) (s : ByteArray), 4 - j = d → j ≤ 4 → s.data.toList = dg x j ++ t.data.toList → Ev (fun k => cressetref01_Digits.l1 k xs s (i : Int) ((x / 10 ^ j : Nat) : Int) (j : Int)) r := by
  intro d
  induction d with
  | zero =>
    intro j s hd hj hs
    obtain rfl : j = 4 := by omega
    refine Ev.step (f := _) (fun k => ?_) (hr s hs)
    simp only [cressetref01_Digits.l1]
    rw [if_neg (by omega), w64 (by omega) (by omega)]
  | succ d ih =>
    intro j s hd hj hs
    have hsz : s.size = j + t.size := by rw [← list_length, hs, List.length_append, dg_length, list_length]
    have hp : x / 10 ^ j ≤ x := Nat.div_le_self _ _
    have hmod := Nat.mod_lt (x / 10 ^ j) (show 10 > 0 by omega)
    have hdiv : x / 10 ^ (j + 1) = x / 10 ^ j / 10 := by rw [Nat.pow_succ, Nat.div_div_eq_div_mul]
    have hstr : (strOfNums [((48 + x / 10 ^ j % 10 : Nat) : Int)]).data.toList = [UInt8.ofNat (48 + x / 10 ^ j % 10)] := by
      rw [strOfNums_data]
      show [UInt8.ofNat (((48 + x / 10 ^ j % 10 : Nat) : Int)).toNat] = _
      rw [Int.toNat_natCast]
    have hnext := ih (j + 1) (strOfNums [((48 + x / 10 ^ j % 10 : Nat) : Int)] ++ s) (by omega) (by omega) (by rw [app_list, hstr, hs]; rfl)
    rw [hdiv] at hnext
    refine Ev.step (f := _) (fun k => ?_) hnext
    simp only [cressetref01_Digits.l1]
    rw [if_pos (by omega)]
    simp only [Option.bind_some]
    generalize x / 10 ^ j = p at *
    rw [dig_e1 p (by omega), dig_e2 p (by omega), dig_e3 j (by omega), if_pos (by rw [strOfNums_size]; simp only [List.length_cons, List.length_nil]; omega)]
theorem rDigits_l0 (xs : List Int) (hx : Lim 10000 xs) (hl : xs.length ≤ 100000) : ∀ (d i : Nat) (s : ByteArray), xs.length - i = d → i ≤ xs.length → allD s.data.toList = true → s.size = 4 * i → (dval s.data.toList : Int) = lv 10000 (xs.take i) →
    Ev (fun k => cressetref01_Digits.l0 k xs s (i : Int)) (nstr (lv 10000 xs).toNat) := by
  intro d
  induction d with
  | zero =>
    intro i s hd hi ha hs hv
    obtain rfl : i = xs.length := by omega
    rw [List.take_length] at hv
    refine Ev.step (f := fun k => cressetref01_Digits.l2 k s) (fun k => ?_) (rDigits_l2 _ s _ rfl (by omega) ha (by omega))
    simp only [cressetref01_Digits.l0]
    rw [if_neg (by omega)]
  | succ d ih =>
    intro i s hd hi ha hs hv
    have hi2 : i < xs.length := by omega
    have g := lim_getD b4 hx i
    obtain ⟨x, hxx⟩ : ∃ x : Nat, xs.getD i 0 = (x : Int) := ⟨_, (Int.toNat_of_nonneg g.1).symm⟩
    have hrun := rDigits_l1 xs i x (by omega) (by omega) s (by omega) (nstr (lv 10000 xs).toNat) (fun s2 h2 => by
      have h3 := ih (i + 1) s2 (by omega) (by omega) (by rw [h2]; exact allD_append.2 ⟨dg_allD x 4, ha⟩) (by rw [← list_length, h2, List.length_append, dg_length, list_length]; omega) (by
        rw [h2, dval_append, dg_val, lv_take_succ 10000 hi2, hxx, ← hv, list_length, hs, Nat.mod_eq_of_lt (show x < 10 ^ 4 by omega)]
        have e : ((10 : Nat) ^ (4 * i) : Nat) = 10000 ^ i := by rw [Nat.pow_mul]
        rw [e]
        have e2 : ((x * 10000 ^ i + dval s.data.toList : Nat) : Int) = (x : Int) * (10000 : Int) ^ i + (dval s.data.toList : Int) := by
          rw [Int.natCast_add, Int.natCast_mul, Int.natCast_pow]; rfl
        rw [e2]
        generalize (10000 : Int) ^ i = P
        grind)
      exact h3) 4 0 s rfl (by omega) (by rw [dg]; rfl)
    rw [Nat.pow_zero, Nat.div_one] at hrun
    refine Ev.step (f := _) (fun k => ?_) hrun
    simp only [cressetref01_Digits.l0, rd_nat]
    rw [if_pos (by omega), if_pos (by omega), hxx]; rfl
theorem rDigits_ev (xs : List Int) (hx : Lim 10000 xs) (hl : xs.length ≤ 100000) : Ev (fun k => cressetref01_Digits.f k xs) (nstr (lv 10000 xs).toNat) :=
  Ev.congr (fun k => by simp only [cressetref01_Digits.f]; rfl) (rDigits_l0 xs hx hl _ 0 ⟨#[]⟩ rfl (Nat.zero_le _) rfl rfl (by rw [List.take_zero]; rfl))
end Go.Proofs.CW
namespace Go.Proofs.CW
open Go.RowKit Go.Shelf Go.Sort Go.Lib Go.Proofs.YtjfclkbdkafkcaaGreatDoorW.PrintWords Go.Proofs.YtjfclkbdkafkcaaGreatDoor.PF
attribute [local go_sem] Oper.semAt_some

section
variable {P : Program} {md : Region.Mode} {ops : Array Oper} {Q : Exit → Act → World → Prop} {S : World → Prop} {T : Array Bool → Act → World → Prop}
end
end Go.Proofs.CW
namespace Go.Proofs.CW
open Go.RowKit Go.Shelf Go.Sort Go.Lib Go.Proofs.YtjfclkbdkafkcaaGreatDoorW.PrintWords Go.Proofs.YtjfclkbdkafkcaaGreatDoor.PF
attribute [local go_sem] Oper.semAt_some

/-- A number of the reference's. -/
structure RNum (W : World) (v : Value) (n : Nat) : Prop where
  mk_ ::
  ex : ∃ xs, Kd.V (Kd.int .i64) 3 W 0 (fun _ => True) v xs ∧ Lim 10000 xs ∧ Norm xs ∧ lv 10000 xs = (n : Int) ∧ xs.length ≤ 100000
theorem RNum.below {W W' : World} {v : Value} {n : Nat} (h : RNum W v n) (hb : Below W.heap.size W W') : RNum W' v n := by
  obtain ⟨xs, h1, h2⟩ := h.ex
  exact ⟨xs, Kd.V_below h1 hb, h2⟩
theorem RNum.drew {W : World} {v : Value} {n : Nat} (h : RNum W v n) : RNum W.drew v n := h.below (below_drew1 (Below.refl _ W))
theorem RNum.len {W : World} {v : Value} {n k : Nat} (h : RNum W v n) (hn : (n : Int) < 10000 ^ k) : ∃ xs A c, v = .slice A xs.length c ∧ xs.length ≤ c ∧ Kd.C (Kd.int .i64) W A xs.length xs ∧ Kd.V (Kd.int .i64) 3 W 0 (fun _ => True) (.slice A xs.length c) xs ∧ Lim 10000 xs ∧ Norm xs ∧ lv 10000 xs = (n : Int) ∧ xs.length ≤ k := by
  obtain ⟨xs, h1, h2, h3, h4, h5⟩ := h.ex
  obtain ⟨A, c, rfl⟩ := Kd.V_slice h1
  have hr := Kd.V_reads' h1
  exact ⟨xs, A, c, rfl, hr.2.1, hr.2.2, h1, h2, h3, h4, length_le_of_lt b4 h2 h3 (by rw [h4]; exact hn)⟩
/-- A number that comes back. -/
def RBack (W : World) (e : Ending) (n : Nat) (W' : World) : Prop := ∃ A L c, e = .returned (.slice A L c) ∧ RNum W' (.slice A L c) n ∧ Below W.heap.size W W'
theorem rback {W W' : World} {e : Ending} {n : Nat} {base : Nat} {ok : Nat → Prop} {xs : List Int} (h : ∃ v, e = .returned v ∧ Kd.V (Kd.int .i64) 3 W' base ok v xs ∧ Below W.heap.size W W') (hl : Lim 10000 xs) (hn : Norm xs) (hv : lv 10000 xs = (n : Int)) (hlen : xs.length ≤ 100000) : RBack W e n W' := by
  obtain ⟨v, rfl, h1, h2⟩ := h
  obtain ⟨A, c, rfl⟩ := Kd.V_slice h1
  exact ⟨A, _, c, rfl, ⟨xs, Kd.V_mono h1 (fun _ _ => trivial), hl, hn, hv, hlen⟩, h2⟩
/-- How much a number of the reference's fits. -/
structure RFit (k n : Nat) : Prop where
  mk_ ::
  out : (n : Int) < 10000 ^ k
theorem RFit.up {k m n : Nat} (h : RFit k n) (hm : k ≤ m) : RFit m n := ⟨Int.lt_of_lt_of_le h.out (pow_le_pow b4 hm)⟩
theorem RFit.le {k a n : Nat} (h : RFit k n) (ha : a ≤ n) : RFit k a := ⟨Int.lt_of_le_of_lt (by omega) h.out⟩
theorem RFit.mul {j k a b : Nat} (h : RFit j a) (h2 : RFit k b) : RFit (j + k) (a * b) := by
  refine ⟨?_⟩
  have h1 := h.out
  have h3 := h2.out
  rw [Int.pow_add, Int.natCast_mul]
  generalize (10000 : Int) ^ j = P at *
  generalize (10000 : Int) ^ k = Q at *
  have e1 : (a : Int) * (b : Int) ≤ (a : Int) * Q := Int.mul_le_mul_of_nonneg_left (by omega) (by omega)
  have e2 : (a : Int) * Q < P * Q := Int.mul_lt_mul_of_pos_right h1 (by omega)
  omega
theorem RFit.add {k a b : Nat} (h : RFit k a) (h2 : RFit k b) : RFit (k + 1) (a + b) := by
  refine ⟨?_⟩
  have h1 := h.out
  have h3 := h2.out
  rw [Int.pow_succ]
  generalize (10000 : Int) ^ k = P at *
  omega
theorem rparts_calls (s : ByteArray) (hd : allD s.data.toList = true) (hs : s.size ≤ 100000) (w : World) :
    Calls Tryz.prog 69 #[.string s] w fun e W => RBack w e (nval s) W := by
  obtain ⟨r, hev, h1, h2, h3, h4⟩ := rParts_ev s hd hs
  obtain ⟨k, hk⟩ := (ev_bind_some hev).rounds
  exact (cressetref01_parts.calls k s r w (by simp only [cressetref01_parts.f]; exact hk)).mono fun e W h => rback h h1 h2 h3 h4
theorem rnat_calls (v : Value) (n : Nat) (w : World) (h : RNum w v n) :
    Calls Tryz.prog 98 #[v] w fun e W => e = .returned (.string (nstr n)) ∧ Below w.heap.size w W := by
  obtain ⟨xs, h1, h2, h3, h4, h5⟩ := h.ex
  obtain ⟨A, c, rfl⟩ := Kd.V_slice h1
  have hr := Kd.V_reads' h1
  obtain ⟨k, hk⟩ := (ev_bind_some (rDigits_ev xs h2 h5)).rounds
  have e : (lv 10000 xs).toNat = n := by omega
  rw [e] at hk
  exact cressetref01_nat.calls k A c xs _ w hr.2.2 hr.2.1 (by simp only [cressetref01_nat.f]; exact hk)
theorem rdigits_calls (v : Value) (n : Nat) (w : World) (h : RNum w v n) :
    Calls Tryz.prog 111 #[v] w fun e W => e = .returned (.string (nstr n)) ∧ Below w.heap.size w W := by
  obtain ⟨xs, h1, h2, h3, h4, h5⟩ := h.ex
  obtain ⟨A, c, rfl⟩ := Kd.V_slice h1
  have hr := Kd.V_reads' h1
  obtain ⟨k, hk⟩ := (rDigits_ev xs h2 h5).rounds
  have e : (lv 10000 xs).toNat = n := by omega
  rw [e] at hk
  exact cressetref01_Digits.calls k A c xs _ w hr.2.2 hr.2.1 hk
theorem rNat_calls (s : ByteArray) (hs : s.size ≤ 1000000) (w : World) :
    Calls Tryz.prog 100 #[.string s] w fun e W => e = .returned (.bool (okN s)) ∧ Below w.heap.size w W := by
  obtain ⟨k, hk⟩ := (rNat_ev s hs).rounds
  exact (cressetref01_Nat.calls k s _ w hk).mono fun e W h => ⟨h.1, h.2.below⟩
theorem rtimes_calls (u v : Value) (a b : Nat) (w : World) (ha : RNum w u a) (hb : RNum w v b) (fa : RFit 500 a) (fb : RFit 500 b) :
    Calls Tryz.prog 68 #[u, v] w fun e W => RBack w e (a * b) W := by
  obtain ⟨xs, A, c, rfl, c1, r1, _, l1, n1, v1, k1⟩ := ha.len fa.out
  obtain ⟨ys, B, d, rfl, c2, r2, _, l2, n2, v2, k2⟩ := hb.len fb.out
  obtain ⟨r, hev, h1, h2, h3, h4⟩ := rtimes_ev xs ys l1 l2 (by omega)
  obtain ⟨k, hk⟩ := hev.rounds
  exact (cressetref01_times.calls k A c xs B d ys r w r1 c1 r2 c2 hk).mono fun e W h => rback h h1 h2 (by rw [h3, v1, v2, Int.natCast_mul]) (by omega)
theorem rover_calls (u v : Value) (a b : Nat) (w : World) (ha : RNum w u a) (hb : RNum w v b) (fa : RFit 5000 a) (fb : RFit 5000 b) (h0 : b ≠ 0) :
    Calls Tryz.prog 115 #[u, v] w fun e W => ∃ A L c B M d, e = .returned (.tuple #[.slice A L c, .slice B M d]) ∧ (RNum W (.slice A L c) (a / b) ∧ RNum W (.slice B M d) (a % b)) ∧ Below w.heap.size w W := by
  obtain ⟨xs, A, c, rfl, c1, r1, _, l1, n1, v1, k1⟩ := ha.len fa.out
  obtain ⟨ys, B, d, rfl, c2, r2, _, l2, n2, v2, k2⟩ := hb.len fb.out
  have hy0 : ys ≠ [] := fun h => by subst h; rw [lv_nil] at v2; omega
  obtain ⟨r, hev, ⟨q1, q2, q3, q4⟩, h2, h3⟩ := rover_ev xs ys l1 l2 n2 hy0 (by omega) (by omega)
  obtain ⟨k, hk⟩ := hev.rounds
  have z1 := lv_nonneg (B := 10000) (by decide) q1
  have z2 := lv_nonneg (B := 10000) (by decide) q3
  rw [v1, v2] at h2
  rw [v2] at h3
  have e1 : lv 10000 r.1 = ((a / b : Nat) : Int) := by
    rw [Int.natCast_ediv]
    have := Int.ediv_emod_unique (a := (a : Int)) (b := (b : Int)) (r := lv 10000 r.2) (q := lv 10000 r.1) (by omega)
    exact (this.2 ⟨by rw [h2]; omega, z2, h3⟩).1.symm
  have e2 : lv 10000 r.2 = ((a % b : Nat) : Int) := by
    rw [Int.natCast_emod]
    have := Int.ediv_emod_unique (a := (a : Int)) (b := (b : Int)) (r := lv 10000 r.2) (q := lv 10000 r.1) (by omega)
    exact (this.2 ⟨by rw [h2]; omega, z2, h3⟩).2.symm
  have f1 : r.1.length ≤ 5000 := length_le_of_lt b4 q1 q2 (by rw [e1]; exact (fa.le (Nat.div_le_self a b)).out)
  have f2 : r.2.length ≤ 5000 := length_le_of_lt b4 q3 q4 (by rw [e2]; exact (fb.le (Nat.le_of_lt (Nat.mod_lt _ (by omega)))).out)
  refine (cressetref01_over.calls k A c xs B d ys r.1 r.2 w r1 c1 r2 c2 hk).mono ?_
  rintro e W ⟨x, y, rfl, g1, g2, g3⟩
  obtain ⟨A1, C1, rfl⟩ := Kd.V_slice g1
  obtain ⟨A2, C2, rfl⟩ := Kd.V_slice g2
  exact ⟨A1, _, C1, A2, _, C2, rfl, ⟨⟨_, Kd.V_mono g1 (fun _ _ => trivial), q1, q2, e1, by omega⟩, ⟨_, Kd.V_mono g2 (fun _ _ => trivial), q3, q4, e2, by omega⟩⟩, g3⟩
theorem rgcd_calls (u v : Value) (a b : Nat) (w : World) (ha : RNum w u a) (hb : RNum w v b) (fa : RFit 5000 a) (fb : RFit 5000 b) :
    Calls Tryz.prog 117 #[u, v] w fun e W => RBack w e (Nat.gcd a b) W := by
  obtain ⟨xs, A, c, rfl, c1, r1, y1, l1, n1, v1, k1⟩ := ha.len fa.out
  obtain ⟨ys, B, d, rfl, c2, r2, y2, l2, n2, v2, k2⟩ := hb.len fb.out
  obtain ⟨r, hev, h1, h2, h3, h4⟩ := rgcd_ev _ xs ys rfl l1 l2 n1 n2 (by omega) (by omega)
  obtain ⟨k, hk⟩ := hev.rounds
  refine (cressetref01_gcd.calls k (fun _ => True) A c xs (fun _ => True) B d ys r w y1 y2 hk).mono fun e W h => rback h h1 h2 ?_ h4
  rw [h3, v1, v2, Int.toNat_natCast, Int.toNat_natCast]
end Go.Proofs.CW
namespace Go.Proofs.CW
open Go.RowKit Go.Shelf Go.Sort Go.Lib Go.Proofs.YtjfclkbdkafkcaaGreatDoorW.PrintWords Go.Proofs.YtjfclkbdkafkcaaGreatDoor.PF
attribute [local go_sem] Oper.semAt_some

set_option exponentiation.threshold 3000 in
theorem rfit_nval {s : ByteArray} (h : okN s = true) : RFit 150 (nval s) := by
  refine ⟨?_⟩
  have h1 := dval_lt s.data.toList (okN_digits h)
  have h2 : (10 : Nat) ^ s.data.toList.length ≤ 10 ^ (4 * 150) := Nat.pow_le_pow_right (by omega) (by rw [list_length]; have := okN_size h; omega)
  rw [Nat.pow_mul] at h2
  have h3 : (10 : Nat) ^ 4 = 10000 := by decide
  rw [h3] at h2
  have e : ((10000 ^ 150 : Nat) : Int) = (10000 : Int) ^ 150 := by rw [Int.natCast_pow]; rfl
  rw [← e]
  show ((dval s.data.toList : Nat) : Int) < _
  generalize (10000 : Nat) ^ 150 = p at *
  generalize (10 : Nat) ^ s.data.toList.length = q at *
  omega
/-- The sizes that the reference is looked at. -/
structure Sz (p : PS) : Prop where
  mk_ ::
  one : p.1.size ≤ 1000000
  two : p.2.size ≤ 1000000
theorem Sz.ok {p : PS} (h : okP p = true) : Sz p := by
  have h1 := (okP_iff.1 h).1
  have := okN_size h1.1
  have := okN_size h1.2
  exact ⟨by omega, by omega⟩
/-- What Check's region of calls reads. -/
abbrev OneB (N : Nat) (p : PS) (W : World) : Prop := W.cell? ⟨N, 0, none⟩ = some (.string p.1) ∧ W.cell? ⟨N, 1, none⟩ = some (.string p.2)
set_option maxRecDepth 100000 in
set_option maxHeartbeats 1000000 in
theorem rcheck_calls (p : PS) (hs : Sz p) (w : World) :
    Calls Tryz.prog 57 #[pv p] w fun e W => e = .returned (.int .i64 (checkR p)) ∧ Below w.heap.size w W := by
  obtain ⟨a, b⟩ := p
  have HS := Lib.hid hs
  have HB0 := Lib.hid (show Below w.heap.size w (w.alloc (.cells #[.string a, .string b] 24)) from (Below.refl _ w).alloc (Nat.le_refl _) _)
  have P0 := Lib.hid (PB.new w a b)
  clear hs
  go_enter Tryz.func57, Tryz.ntmps57
  go_wp2_with fail
  refine (rNat_calls a HS.out.one _).mono ?_
  rintro e w1 ⟨rfl, hb⟩
  have H1 := Lib.hid (And.intro (HB0.out.trans (hb.mono (by simp))) (P0.out.below hb))
  clear hb
  obtain ⟨f1, f2, _, _⟩ := H1.out.2.cell
  go_wp2_with fail
  refine (rNat_calls b HS.out.two _).mono ?_
  rintro e w2 ⟨rfl, hb⟩
  have H2 := Lib.hid (And.intro (H1.out.1.trans (hb.mono H1.out.1.size)) (H1.out.2.below hb))
  clear hb f1 f2
  by_cases h1 : okN a = true
  case neg =>
    have h1f : okN a = false := by simpa using h1
    have HE := Lib.hid (checkR_no (p := (a, b)) (fun h => h1 (okP_iff.1 h).1.1))
    rw [h1f]
    clear h1 h1f
    go_wp2_with fail
    go_ret
    exact ⟨by rw [HE.out]; rfl, H2.out.1⟩
  rw [h1]
  by_cases h2 : okN b = true
  case neg =>
    have h2f : okN b = false := by simpa using h2
    have HE := Lib.hid (checkR_no (p := (a, b)) (fun h => h2 (okP_iff.1 h).1.2))
    rw [h2f]
    clear h2 h2f h1
    go_wp2_with fail
    go_ret
    exact ⟨by rw [HE.out]; rfl, H2.out.1⟩
  rw [h2]
  obtain ⟨f1, f2, _, _⟩ := H2.out.2.cell
  by_cases h3 : b = s0
  · have h3b := (str_eq b [48]).2 h3
    have HE := Lib.hid (checkR_no (p := (a, b)) (fun h => (okP_iff.1 h).2.1 (by rw [h3]; exact nval_s0)))
    clear h3 h1 h2
    go_wp2_with fail
    go_ret
    exact ⟨by rw [HE.out]; rfl, H2.out.1⟩
  have h3b := str_ne (l := [48]) h3
  have HN := Lib.hid (And.intro h1 (And.intro h2 (fun e => h3 ((nval_zero h2).1 e))))
  clear h3 h1 h2
  go_wp2_with fail
  have hS : OneB w.heap.size (a, b) w2.drew := ⟨f1, f2⟩
  have H3 := Lib.hid (below_drew1 H2.out.1)
  have HFA := Lib.hid (rfit_nval HN.out.1)
  have HFB := Lib.hid (rfit_nval HN.out.2.1)
  refine region_tail (m := 7) (OneB w.heap.size (a, b)) 7 1 (by kernel_rfl) rfl ?_
  obtain ⟨w3, hw3⟩ : ∃ V, w2.drew = V := ⟨_, rfl⟩
  rw [hw3] at hS H3 ⊢
  clear hw3 h3b f1 f2
  refine T_take 0 _ _ rfl rfl (by kernel_rfl) (by kernel_rfl) (by kernel_rfl) (fun _ _ d _ _ h => by cases d <;> exact h) (by kernel_rfl) tail_only hS (by kernel_rfl) (fun W hW => by obtain ⟨zs1, zs2⟩ := hW; go_simp; try exact rfl) ?_
  try simp only [List.setIfInBounds_toArray, List.set_cons_zero, List.set_cons_succ]
  refine T_take 1 _ _ rfl rfl (by kernel_rfl) (by kernel_rfl) (by kernel_rfl) (fun _ _ d _ _ h => by cases d <;> exact h) (by kernel_rfl) tail_only hS (by kernel_rfl) (fun W hW => by obtain ⟨zs1, zs2⟩ := hW; go_simp; try exact rfl) ?_
  try simp only [List.setIfInBounds_toArray, List.set_cons_zero, List.set_cons_succ]
  refine T_take 3 _ _ rfl rfl (by kernel_rfl) (by kernel_rfl) (by kernel_rfl) (fun _ _ d _ _ h => by cases d <;> exact h) (by kernel_rfl) tail_only hS (by kernel_rfl) (fun W hW => by obtain ⟨zs1, zs2⟩ := hW; go_simp; try exact rfl) ?_
  try simp only [List.setIfInBounds_toArray, List.set_cons_zero, List.set_cons_succ]
  refine T_take 4 _ _ rfl rfl (by kernel_rfl) (by kernel_rfl) (by kernel_rfl) (fun _ _ d _ _ h => by cases d <;> exact h) (by kernel_rfl) tail_only hS (by kernel_rfl) (fun W hW => by obtain ⟨zs1, zs2⟩ := hW; go_simp; try exact rfl) ?_
  try simp only [List.setIfInBounds_toArray, List.set_cons_zero, List.set_cons_succ]
  refine T_only 2 (by kernel_rfl) rfl (by kernel_rfl) ?_
  unfold Oper.wp
  go_simp
  refine (rparts_calls a (okN_digits HN.out.1) (by have := okN_size HN.out.1; omega) w3).mono ?_
  rintro e w4 ⟨A1, L1, c1, rfl, hu, hb⟩
  have hS1 : OneB w.heap.size (a, b) w4 := ⟨(hb.cell (cell_lt hS.1)).trans hS.1, (hb.cell (cell_lt hS.2)).trans hS.2⟩
  have H4 := Lib.hid (And.intro hu (H3.out.trans (hb.mono H3.out.size)))
  clear hb hu
  refine ⟨hS1, ?_⟩
  try simp only [List.setIfInBounds_toArray, List.set_cons_zero, List.set_cons_succ]
  refine T_only 5 (by kernel_rfl) rfl (by kernel_rfl) ?_
  unfold Oper.wp
  go_simp
  refine (rparts_calls b (okN_digits HN.out.2.1) (by have := okN_size HN.out.2.1; omega) w4).mono ?_
  rintro e w5 ⟨B1, M1, d1, rfl, hu, hb⟩
  have hS2 : OneB w.heap.size (a, b) w5 := ⟨(hb.cell (cell_lt hS1.1)).trans hS1.1, (hb.cell (cell_lt hS1.2)).trans hS1.2⟩
  have H5 := Lib.hid (And.intro (H4.out.1.below hb) (And.intro hu (H4.out.2.trans (hb.mono H4.out.2.size))))
  clear hb hu
  refine ⟨hS2, ?_⟩
  try simp only [List.setIfInBounds_toArray, List.set_cons_zero, List.set_cons_succ]
  refine T_only 6 (by kernel_rfl) rfl (by kernel_rfl) ?_
  unfold Oper.wp
  go_simp
  refine (rgcd_calls (.slice A1 L1 c1) (.slice B1 M1 d1) _ _ w5 H5.out.1 H5.out.2.1 (HFA.out.up (by omega)) (HFB.out.up (by omega))).mono ?_
  rintro e w6 ⟨G, K, k, rfl, hu, hb⟩
  have hS3 : OneB w.heap.size (a, b) w6 := ⟨(hb.cell (cell_lt hS2.1)).trans hS2.1, (hb.cell (cell_lt hS2.2)).trans hS2.2⟩
  have H6 := Lib.hid (And.intro hu (H5.out.2.2.trans (hb.mono H5.out.2.2.size)))
  clear hb hu
  refine ⟨hS3, by kernel_rfl, ?_⟩
  try simp only [List.setIfInBounds_toArray, List.set_cons_zero, List.set_cons_succ]
  refine any_only 7 (by kernel_rfl) rfl (by kernel_rfl) ?_
  unfold Oper.wp
  go_simp
  refine any_done (by kernel_rfl) ?_
  clear hS hS1 hS2 hS3
  go_wp2_with fail
  refine (rdigits_calls (.slice G K k) _ w6 H6.out.1).mono ?_
  rintro e w7 ⟨rfl, hb⟩
  have H7 := Lib.hid (H6.out.2.trans (hb.mono H6.out.2.size))
  clear hb
  by_cases hg : Nat.gcd (nval a) (nval b) = 1
  · have HE := Lib.hid (checkR_ok (p := (a, b)) (okP_iff.2 ⟨⟨HN.out.1, HN.out.2.1⟩, HN.out.2.2, hg⟩))
    rw [hg, nstr_one]
    unfold s1
    clear hg
    go_wp2_with fail
    go_ret
    exact ⟨by rw [HE.out]; rfl, H7.out⟩
  · have HE := Lib.hid (checkR_no (p := (a, b)) (fun h => hg (okP_iff.1 h).2.2))
    have h1b := str_ne (l := [49]) (s := nstr (Nat.gcd (nval a) (nval b))) (fun h => hg (nstr_inj (h.trans nstr_one.symm)))
    generalize nstr (Nat.gcd (nval a) (nval b)) = gs at *
    clear hg
    go_wp2_with fail
    go_ret
    exact ⟨by rw [HE.out]; rfl, H7.out⟩
end Go.Proofs.CW
namespace Go.Proofs.CW
open Go.RowKit Go.Shelf Go.Sort Go.Lib Go.Proofs.YtjfclkbdkafkcaaGreatDoorW.PrintWords Go.Proofs.YtjfclkbdkafkcaaGreatDoor.PF
attribute [local go_sem] Oper.semAt_some

set_option maxRecDepth 100000 in
set_option maxHeartbeats 1000000 in
theorem rmade_calls (A B : Option Addr) (L c M k n d : Nat) (w : World) (ha : RNum w (.slice A L c) n) (hb : RNum w (.slice B M k) d) (h0 : d ≠ 0) (fa : RFit 5000 n) (fb : RFit 5000 d) :
    Calls Tryz.prog 67 #[.slice A L c, .slice B M k] w fun e W => e = .returned (rv (mkR ((n : Rat) / (d : Rat)))) ∧ Below w.heap.size w W := by
  have HA := Lib.hid (And.intro ha (And.intro hb (And.intro h0 (And.intro fa fb))))
  have HB0 := Lib.hid (show Below w.heap.size w (w.alloc (.cells #[.string ⟨#[]⟩, .string ⟨#[]⟩] 24)) from (Below.refl _ w).alloc (Nat.le_refl _) _)
  have P0 := Lib.hid (PB.new w ⟨#[]⟩ ⟨#[]⟩)
  obtain ⟨N, hN⟩ : ∃ N, w.heap.size = N := ⟨_, rfl⟩
  rw [hN] at P0
  clear ha hb h0 fa fb
  go_enter Tryz.func67, Tryz.ntmps67
  go_wp2_with fail
  obtain ⟨w0, hw0⟩ : ∃ V, w.alloc (.cells #[.string ⟨#[]⟩, .string ⟨#[]⟩] 24) = V := ⟨_, rfl⟩
  rw [hw0] at HB0 P0 ⊢
  clear hw0
  refine (rgcd_calls (.slice A L c) (.slice B M k) n d w0 (HA.out.1.below HB0.out) (HA.out.2.1.below HB0.out) HA.out.2.2.2.1 HA.out.2.2.2.2).mono ?_
  rintro e w1 ⟨G1, G2, G3, rfl, hg, hb⟩
  have H1 := Lib.hid (And.intro hg (And.intro (HB0.out.trans (hb.mono HB0.out.size)) (P0.out.below hb)))
  clear hg hb HB0 P0
  go_wp2_with fail
  have hgf : RFit 5000 (Nat.gcd n d) := HA.out.2.2.2.2.le (Nat.le_of_dvd (Nat.pos_of_ne_zero HA.out.2.2.1) (Nat.gcd_dvd_right n d))
  have HGF := Lib.hid (And.intro hgf (Nat.ne_of_gt (gcd_pos (n := n) HA.out.2.2.1)))
  clear hgf
  refine (rover_calls (.slice A L c) (.slice G1 G2 G3) n _ w1 (HA.out.1.below H1.out.2.1) H1.out.1 HA.out.2.2.2.1 HGF.out.1 HGF.out.2).mono ?_
  rintro e w2 ⟨Q1, Q2, Q3, R1, R2, R3, rfl, ⟨hq, _⟩, hb⟩
  have H2 := Lib.hid (And.intro hq (And.intro (H1.out.1.below hb) (And.intro (H1.out.2.1.trans (hb.mono H1.out.2.1.size)) (H1.out.2.2.below hb))))
  clear hq hb
  go_wp2_with fail
  refine (rover_calls (.slice B M k) (.slice G1 G2 G3) d _ w2 (HA.out.2.1.below H2.out.2.2.1) H2.out.2.1 HA.out.2.2.2.2 HGF.out.1 HGF.out.2).mono ?_
  rintro e w3 ⟨S1, S2, S3, T1, T2, T3, rfl, ⟨hq, _⟩, hb⟩
  have H3 := Lib.hid (And.intro (H2.out.1.below hb) (And.intro hq (And.intro (H2.out.2.2.1.trans (hb.mono H2.out.2.2.1.size)) (H2.out.2.2.2.below hb))))
  clear hq hb H2
  obtain ⟨e1, e2⟩ := quot_num (n := n) HA.out.2.2.1
  obtain ⟨a, ha⟩ : ∃ a, n / Nat.gcd n d = a := ⟨_, rfl⟩
  obtain ⟨b, hb⟩ : ∃ b, d / Nat.gcd n d = b := ⟨_, rfl⟩
  rw [ha] at e1 H3
  rw [hb] at e2 H3
  have hps : ps ((n : Rat) / (d : Rat)) = (nstr a, nstr b) := by unfold ps; rw [e1, e2]
  have hres : mkR ((n : Rat) / (d : Rat)) = if a < big ∧ b < big then ((nstr a, nstr b), 0) else no 4 := by
    unfold mkR fits
    rw [e1, e2, hps]
    by_cases h : a < big ∧ b < big
    · rw [if_pos h, if_pos (by simp [h.1, h.2])]
    · rw [if_neg h, if_neg (by simpa using h)]
  have HR := Lib.hid hres
  clear e1 e2 ha hb hps hres
  obtain ⟨sa, hsa⟩ : ∃ s, nstr a = s := ⟨_, rfl⟩
  obtain ⟨sb, hsb⟩ : ∃ s, nstr b = s := ⟨_, rfl⟩
  have hia := nstr_size (n := a)
  have hib := nstr_size (n := b)
  have HNA := Lib.hid (fun W h => hsa ▸ rnat_calls (.slice Q1 Q2 Q3) a W h)
  have HNB := Lib.hid (fun W h => hsb ▸ rnat_calls (.slice S1 S2 S3) b W h)
  rw [hsa] at hia HR
  rw [hsb] at hib HR
  obtain ⟨ka, hka⟩ : ∃ k, sa.size = k := ⟨_, rfl⟩
  obtain ⟨kb, hkb⟩ : ∃ k, sb.size = k := ⟨_, rfl⟩
  rw [hka] at hia
  rw [hkb] at hib
  have HK := Lib.hid (And.intro hia hib)
  clear hsa hsb hia hib
  go_wp2_with fail
  refine (HNA.out w3 H3.out.1).mono ?_
  rintro e w4 ⟨rfl, hb⟩
  have H4 := Lib.hid (And.intro (H3.out.2.1.below hb) (And.intro (H3.out.2.2.1.trans (hb.mono H3.out.2.2.1.size)) (H3.out.2.2.2.below hb)))
  clear hb
  go_wp2_with fail
  refine (HNB.out w4 H4.out.1).mono ?_
  rintro e w5 ⟨rfl, hb⟩
  have hB5 := H4.out.2.1.trans (hb.mono H4.out.2.1.size)
  have hP5 := H4.out.2.2.below hb
  have H5 := Lib.hid (And.intro (hB5.alloc hB5.size (.cells #[.string sa, .string sb] 24)) (hP5.alloc (.cells #[.string sa, .string sb] 24)))
  clear hb hB5 hP5
  obtain ⟨f1, f2, f3, f4⟩ := H5.out.2.cell
  by_cases c1 : (600 : Int) < (ka : Int)
  · have HE := Lib.hid (show mkR ((n : Rat) / (d : Rat)) = no 4 by rw [HR.out, if_neg (fun h => by have := HK.out.1.2 h.1; omega)])
    go_wp2_with fail
    refine bodyPost_ret (results_pb rfl _ rfl (H5.out.2.set _ _)) rfl ⟨by rw [HE.out]; rfl, ?_⟩
    exact (H5.out.1.setCell (p := ⟨N, 0, none⟩) (by simp; omega) _).setCell (p := ⟨N, 1, none⟩) (by simp; omega) _
  by_cases c2 : (600 : Int) < (kb : Int)
  · have HE := Lib.hid (show mkR ((n : Rat) / (d : Rat)) = no 4 by rw [HR.out, if_neg (fun h => by have := HK.out.2.2 h.2; omega)])
    go_wp2_with fail
    refine bodyPost_ret (results_pb rfl _ rfl (H5.out.2.set _ _)) rfl ⟨by rw [HE.out]; rfl, ?_⟩
    exact (H5.out.1.setCell (p := ⟨N, 0, none⟩) (by simp; omega) _).setCell (p := ⟨N, 1, none⟩) (by simp; omega) _
  have HE := Lib.hid (show mkR ((n : Rat) / (d : Rat)) = ((sa, sb), 0) by rw [HR.out, if_pos ⟨HK.out.1.1 (by omega), HK.out.2.1 (by omega)⟩])
  go_wp2_with fail
  refine bodyPost_ret (results_pb rfl _ rfl (H5.out.2.set _ _)) rfl ⟨by rw [HE.out]; rfl, ?_⟩
  exact (H5.out.1.setCell (p := ⟨N, 0, none⟩) (by simp; omega) _).setCell (p := ⟨N, 1, none⟩) (by simp; omega) _
end Go.Proofs.CW
namespace Go.Proofs.CW
open Go.RowKit Go.Shelf Go.Sort Go.Lib Go.Proofs.YtjfclkbdkafkcaaGreatDoorW.PrintWords Go.Proofs.YtjfclkbdkafkcaaGreatDoor.PF
attribute [local go_sem] Oper.semAt_some

/-- The error of two. -/
def bothR (a b : PS) : Int := max (checkR a) (checkR b)
theorem bothR_ok {a b : PS} (ha : okP a = true) (hb : okP b = true) : bothR a b = 0 := by unfold bothR; rw [checkR_ok ha, checkR_ok hb]; rfl
theorem bothR_no {a b : PS} (h : ¬ (okP a = true ∧ okP b = true)) : bothR a b = 2 := by
  unfold bothR
  by_cases ha : okP a = true
  · rw [checkR_ok ha, checkR_no (fun hb => h ⟨ha, hb⟩)]; rfl
  · rw [checkR_no ha]
    unfold checkR
    by_cases hb : okP b = true
    · rw [if_pos hb]; rfl
    · rw [if_neg hb]; rfl
theorem box3_set {w W : World} {N : Nat} {u v : Value} (h : Below w.heap.size w W) (hn : w.heap.size = N) : Below w.heap.size w ((W.setCell ⟨N + 1 + 1, 0, none⟩ u).setCell ⟨N + 1 + 1, 1, none⟩ v) :=
  (h.setCell (p := ⟨N + 1 + 1, 0, none⟩) (by show _ ≤ N + 1 + 1; omega) _).setCell (p := ⟨N + 1 + 1, 1, none⟩) (by show _ ≤ N + 1 + 1; omega) _
theorem box3_setN {w W : World} {N : Nat} {u v : Value} (h : Below w.heap.size w W) (hn : w.heap.size = N) : Below N w ((W.setCell ⟨N + 1 + 1, 0, none⟩ u).setCell ⟨N + 1 + 1, 1, none⟩ v) := by
  subst hn; exact box3_set h rfl
theorem rv_eq2 (s t : ByteArray) (x : Int) : rv ((s, t), x) = .tuple #[.agg #[.string s, .string t], .int .i64 x] := rfl
set_option maxRecDepth 100000 in
set_option maxHeartbeats 1000000 in
theorem both_calls (a b : PS) (sa : Sz a) (sb : Sz b) (w : World) :
    Calls Tryz.prog 66 #[pv a, pv b] w fun e W => e = .returned (.int .i64 (bothR a b)) ∧ Below w.heap.size w W := by
  obtain ⟨an, ad⟩ := a
  obtain ⟨bn, bd⟩ := b
  have HT := Lib.hid (And.intro sa sb)
  have h0 := Box2.new w (an, ad) (bn, bd)
  obtain ⟨N, hN⟩ : ∃ N, w.heap.size = N := ⟨_, rfl⟩
  simp only [hN] at h0
  clear sa sb
  go_enter Tryz.func66, Tryz.ntmps66
  go_wp2_with fail
  obtain ⟨W0, hW0⟩ : ∃ W0, ((w.alloc (.cells #[.string an, .string ad] 24)).alloc (.cells #[.string bn, .string bd] 24)) = W0 := ⟨_, rfl⟩
  rw [hW0] at h0 ⊢
  have HX : Hid (Box2 w W0.drew N (an, ad) (bn, bd)) := Lib.hid ⟨below_drew1 h0.bel, h0.nw, h0.bx, h0.by_⟩
  clear h0 hW0
  refine region_tail (m := 5) (BoxPS N (an, ad) (bn, bd)) 5 1 (by kernel_rfl) rfl ?_
  obtain ⟨W1, hW1⟩ : ∃ V, W0.drew = V := ⟨_, rfl⟩
  rw [hW1] at HX ⊢
  have hS := HX.out.s
  clear hW1
  refine T_take 0 _ _ rfl rfl (by kernel_rfl) (by kernel_rfl) (by kernel_rfl) (fun _ _ d _ _ h => by cases d <;> exact h) (by kernel_rfl) tail_only hS (by kernel_rfl) (fun W hW => by obtain ⟨zs1, zs2, zs3, zs4⟩ := hW; go_simp; try exact rfl) ?_
  try simp only [List.setIfInBounds_toArray, List.set_cons_zero, List.set_cons_succ]
  refine T_take 2 _ _ rfl rfl (by kernel_rfl) (by kernel_rfl) (by kernel_rfl) (fun _ _ d _ _ h => by cases d <;> exact h) (by kernel_rfl) tail_only hS (by kernel_rfl) (fun W hW => by obtain ⟨zs1, zs2, zs3, zs4⟩ := hW; go_simp; try exact rfl) ?_
  try simp only [List.setIfInBounds_toArray, List.set_cons_zero, List.set_cons_succ]
  refine T_only 1 (by kernel_rfl) rfl (by kernel_rfl) ?_
  unfold Oper.wp
  go_simp
  refine (rcheck_calls (an, ad) HT.out.1 W1).mono ?_
  rintro e W2 ⟨rfl, hb⟩
  have HY := Lib.hid (HX.out.below hb)
  clear hb
  refine ⟨HY.out.s, ?_⟩
  try simp only [List.setIfInBounds_toArray, List.set_cons_zero, List.set_cons_succ]
  refine T_only 3 (by kernel_rfl) rfl (by kernel_rfl) ?_
  unfold Oper.wp
  go_simp
  refine (rcheck_calls (bn, bd) HT.out.2 W2).mono ?_
  rintro e W3 ⟨rfl, hb⟩
  have HZ := Lib.hid (HY.out.below hb)
  clear hb
  refine ⟨HZ.out.s, ?_⟩
  try simp only [List.setIfInBounds_toArray, List.set_cons_zero, List.set_cons_succ]
  obtain ⟨x, hx⟩ : ∃ x, checkR (an, ad) = x := ⟨_, rfl⟩
  obtain ⟨y, hy⟩ : ∃ y, checkR (bn, bd) = y := ⟨_, rfl⟩
  have HE := Lib.hid (show bothR (an, ad) (bn, bd) = max x y by unfold bothR; rw [hx, hy])
  rw [hx, hy]
  clear hx hy
  refine T_only 4 (by kernel_rfl) rfl (by kernel_rfl) ?_
  unfold Oper.wp
  go_simp
  refine ⟨HZ.out.s, by kernel_rfl, ?_⟩
  try simp only [List.setIfInBounds_toArray, List.set_cons_zero, List.set_cons_succ]
  refine any_only 5 (by kernel_rfl) rfl (by kernel_rfl) ?_
  unfold Oper.wp
  go_simp
  refine any_done (by kernel_rfl) ?_
  clear hS
  go_wp2_with fail
  go_ret
  exact ⟨by rw [HE.out]; rfl, HZ.out.bel⟩
set_option maxRecDepth 100000 in
set_option maxHeartbeats 2000000 in
theorem rmul_calls (a b : PS) (sa : Sz a) (sb : Sz b) (w : World) :
    Calls Tryz.prog 19 #[pv a, pv b] w fun e W => e = .returned (rv (mulR a b)) ∧ Below w.heap.size w W := by
  obtain ⟨an, ad⟩ := a
  obtain ⟨bn, bd⟩ := b
  have HT := Lib.hid (And.intro sa sb)
  have h0 := BoxP.new w (an, ad) (bn, bd)
  obtain ⟨N, hN⟩ : ∃ N, w.heap.size = N := ⟨_, rfl⟩
  simp only [hN] at h0
  clear sa sb
  go_enter Tryz.func19, Tryz.ntmps19
  go_wp2_with fail
  obtain ⟨W0, hW0⟩ : ∃ W0, (((w.alloc (.cells #[.string an, .string ad] 24)).alloc (.cells #[.string bn, .string bd] 24)).alloc (.cells #[.string ⟨#[]⟩, .string ⟨#[]⟩] 24)) = W0 := ⟨_, rfl⟩
  rw [hW0] at h0 ⊢
  have H0 := Lib.hid h0
  clear h0 hW0
  refine (both_calls (an, ad) (bn, bd) HT.out.1 HT.out.2 W0).mono ?_
  rintro e W1 ⟨rfl, hb⟩
  have HX := Lib.hid (H0.out.below hb)
  clear hb H0
  by_cases hok : okP (an, ad) = true ∧ okP (bn, bd) = true
  case neg =>
    have HE := Lib.hid (mulR_no (a := (an, ad)) (b := (bn, bd)) hok)
    rw [bothR_no hok]
    clear hok
    obtain ⟨q1, q2, q3, q4⟩ := HX.out.r
    go_wp2_with fail
    have hn := HX.out.nw
    refine bodyPost_ret (results_pb rfl _ rfl (HX.out.res.set _ _)) rfl ⟨by rw [HE.out]; rfl, ?_⟩
    first | exact box3_set HX.out.bel hn | exact box3_setN HX.out.bel hn
  rw [bothR_ok hok.1 hok.2]
  have HO := Lib.hid hok
  clear hok

  go_wp2_with fail
  obtain ⟨W2, hW2⟩ : ∃ V, W1.drew = V := ⟨_, rfl⟩
  have hS : BoxPS N (an, ad) (bn, bd) W1.drew := HX.out.s
  have hx := HX.out.drew
  refine region_tail (m := 18) (BoxPS N (an, ad) (bn, bd)) 18 1 (by kernel_rfl) rfl ?_
  rw [hW2] at hS hx ⊢
  clear HX hW2
  have HX := Lib.hid hx
  clear hx
  have hden : nval ad * nval bd ≠ 0 := Nat.mul_ne_zero (okP_iff.1 HO.out.1).2.1 (okP_iff.1 HO.out.2).2.1
  refine T_take 0 _ _ rfl rfl (by kernel_rfl) (by kernel_rfl) (by kernel_rfl) (fun _ _ d _ _ h => by cases d <;> exact h) (by kernel_rfl) tail_only hS (by kernel_rfl) (fun W hW => by obtain ⟨zs1, zs2, zs3, zs4⟩ := hW; go_simp; try exact rfl) ?_
  try simp only [List.setIfInBounds_toArray, List.set_cons_zero, List.set_cons_succ]
  refine T_take 1 _ _ rfl rfl (by kernel_rfl) (by kernel_rfl) (by kernel_rfl) (fun _ _ d _ _ h => by cases d <;> exact h) (by kernel_rfl) tail_only hS (by kernel_rfl) (fun W hW => by obtain ⟨zs1, zs2, zs3, zs4⟩ := hW; go_simp; try exact rfl) ?_
  try simp only [List.setIfInBounds_toArray, List.set_cons_zero, List.set_cons_succ]
  refine T_take 3 _ _ rfl rfl (by kernel_rfl) (by kernel_rfl) (by kernel_rfl) (fun _ _ d _ _ h => by cases d <;> exact h) (by kernel_rfl) tail_only hS (by kernel_rfl) (fun W hW => by obtain ⟨zs1, zs2, zs3, zs4⟩ := hW; go_simp; try exact rfl) ?_
  try simp only [List.setIfInBounds_toArray, List.set_cons_zero, List.set_cons_succ]
  refine T_take 4 _ _ rfl rfl (by kernel_rfl) (by kernel_rfl) (by kernel_rfl) (fun _ _ d _ _ h => by cases d <;> exact h) (by kernel_rfl) tail_only hS (by kernel_rfl) (fun W hW => by obtain ⟨zs1, zs2, zs3, zs4⟩ := hW; go_simp; try exact rfl) ?_
  try simp only [List.setIfInBounds_toArray, List.set_cons_zero, List.set_cons_succ]
  refine T_take 7 _ _ rfl rfl (by kernel_rfl) (by kernel_rfl) (by kernel_rfl) (fun _ _ d _ _ h => by cases d <;> exact h) (by kernel_rfl) tail_only hS (by kernel_rfl) (fun W hW => by obtain ⟨zs1, zs2, zs3, zs4⟩ := hW; go_simp; try exact rfl) ?_
  try simp only [List.setIfInBounds_toArray, List.set_cons_zero, List.set_cons_succ]
  refine T_take 8 _ _ rfl rfl (by kernel_rfl) (by kernel_rfl) (by kernel_rfl) (fun _ _ d _ _ h => by cases d <;> exact h) (by kernel_rfl) tail_only hS (by kernel_rfl) (fun W hW => by obtain ⟨zs1, zs2, zs3, zs4⟩ := hW; go_simp; try exact rfl) ?_
  try simp only [List.setIfInBounds_toArray, List.set_cons_zero, List.set_cons_succ]
  refine T_take 10 _ _ rfl rfl (by kernel_rfl) (by kernel_rfl) (by kernel_rfl) (fun _ _ d _ _ h => by cases d <;> exact h) (by kernel_rfl) tail_only hS (by kernel_rfl) (fun W hW => by obtain ⟨zs1, zs2, zs3, zs4⟩ := hW; go_simp; try exact rfl) ?_
  try simp only [List.setIfInBounds_toArray, List.set_cons_zero, List.set_cons_succ]
  refine T_take 11 _ _ rfl rfl (by kernel_rfl) (by kernel_rfl) (by kernel_rfl) (fun _ _ d _ _ h => by cases d <;> exact h) (by kernel_rfl) tail_only hS (by kernel_rfl) (fun W hW => by obtain ⟨zs1, zs2, zs3, zs4⟩ := hW; go_simp; try exact rfl) ?_
  try simp only [List.setIfInBounds_toArray, List.set_cons_zero, List.set_cons_succ]
  refine T_only 2 (by kernel_rfl) rfl (by kernel_rfl) ?_
  unfold Oper.wp
  go_simp
  refine (rparts_calls an (okN_digits (okP_iff.1 HO.out.1).1.1) (Nat.le_trans (okN_size (okP_iff.1 HO.out.1).1.1) (by omega)) W2).mono ?_
  rintro e U1 ⟨A1, L1, C1, rfl, hu, hb⟩
  have hx := HX.out.below hb
  clear HX
  have HX := Lib.hid hx
  clear hx
  have HR1 := Lib.hid hu
  clear hb hu
  refine ⟨HX.out.s, ?_⟩
  try simp only [List.setIfInBounds_toArray, List.set_cons_zero, List.set_cons_succ]
  refine T_only 5 (by kernel_rfl) rfl (by kernel_rfl) ?_
  unfold Oper.wp
  go_simp
  refine (rparts_calls bn (okN_digits (okP_iff.1 HO.out.2).1.1) (Nat.le_trans (okN_size (okP_iff.1 HO.out.2).1.1) (by omega)) U1).mono ?_
  rintro e U2 ⟨A2, L2, C2, rfl, hu, hb⟩
  have hx := HX.out.below hb
  clear HX
  have HX := Lib.hid hx
  clear hx
  have hr := HR1.out.below hb
  clear HR1
  have HR1 := Lib.hid hr
  clear hr
  have HR2 := Lib.hid hu
  clear hb hu
  refine ⟨HX.out.s, ?_⟩
  try simp only [List.setIfInBounds_toArray, List.set_cons_zero, List.set_cons_succ]
  refine T_only 6 (by kernel_rfl) rfl (by kernel_rfl) ?_
  unfold Oper.wp
  go_simp
  refine (rtimes_calls (.slice A1 L1 C1) (.slice A2 L2 C2) _ _ U2 HR1.out HR2.out ((rfit_nval (okP_iff.1 HO.out.1).1.1).up (by omega)) ((rfit_nval (okP_iff.1 HO.out.2).1.1).up (by omega))).mono ?_
  rintro e U3 ⟨A3, L3, C3, rfl, hu, hb⟩
  have hx := HX.out.below hb
  clear HX
  have HX := Lib.hid hx
  clear hx
  have hr := HR1.out.below hb
  clear HR1
  have HR1 := Lib.hid hr
  clear hr
  have hr := HR2.out.below hb
  clear HR2
  have HR2 := Lib.hid hr
  clear hr
  have HR3 := Lib.hid hu
  clear hb hu
  refine ⟨HX.out.s, ?_⟩
  try simp only [List.setIfInBounds_toArray, List.set_cons_zero, List.set_cons_succ]
  refine T_only 9 (by kernel_rfl) rfl (by kernel_rfl) ?_
  unfold Oper.wp
  go_simp
  refine (rparts_calls ad (okN_digits (okP_iff.1 HO.out.1).1.2) (Nat.le_trans (okN_size (okP_iff.1 HO.out.1).1.2) (by omega)) U3).mono ?_
  rintro e U4 ⟨A4, L4, C4, rfl, hu, hb⟩
  have hx := HX.out.below hb
  clear HX
  have HX := Lib.hid hx
  clear hx
  have hr := HR1.out.below hb
  clear HR1
  have HR1 := Lib.hid hr
  clear hr
  have hr := HR2.out.below hb
  clear HR2
  have HR2 := Lib.hid hr
  clear hr
  have hr := HR3.out.below hb
  clear HR3
  have HR3 := Lib.hid hr
  clear hr
  have HR4 := Lib.hid hu
  clear hb hu
  refine ⟨HX.out.s, ?_⟩
  try simp only [List.setIfInBounds_toArray, List.set_cons_zero, List.set_cons_succ]
  refine T_only 12 (by kernel_rfl) rfl (by kernel_rfl) ?_
  unfold Oper.wp
  go_simp
  refine (rparts_calls bd (okN_digits (okP_iff.1 HO.out.2).1.2) (Nat.le_trans (okN_size (okP_iff.1 HO.out.2).1.2) (by omega)) U4).mono ?_
  rintro e U5 ⟨A5, L5, C5, rfl, hu, hb⟩
  have hx := HX.out.below hb
  clear HX
  have HX := Lib.hid hx
  clear hx
  have hr := HR1.out.below hb
  clear HR1
  have HR1 := Lib.hid hr
  clear hr
  have hr := HR2.out.below hb
  clear HR2
  have HR2 := Lib.hid hr
  clear hr
  have hr := HR3.out.below hb
  clear HR3
  have HR3 := Lib.hid hr
  clear hr
  have hr := HR4.out.below hb
  clear HR4
  have HR4 := Lib.hid hr
  clear hr
  have HR5 := Lib.hid hu
  clear hb hu
  refine ⟨HX.out.s, ?_⟩
  try simp only [List.setIfInBounds_toArray, List.set_cons_zero, List.set_cons_succ]
  refine T_only 13 (by kernel_rfl) rfl (by kernel_rfl) ?_
  unfold Oper.wp
  go_simp
  refine (rtimes_calls (.slice A4 L4 C4) (.slice A5 L5 C5) _ _ U5 HR4.out HR5.out ((rfit_nval (okP_iff.1 HO.out.1).1.2).up (by omega)) ((rfit_nval (okP_iff.1 HO.out.2).1.2).up (by omega))).mono ?_
  rintro e U6 ⟨A6, L6, C6, rfl, hu, hb⟩
  have hx := HX.out.below hb
  clear HX
  have HX := Lib.hid hx
  clear hx
  have hr := HR1.out.below hb
  clear HR1
  have HR1 := Lib.hid hr
  clear hr
  have hr := HR2.out.below hb
  clear HR2
  have HR2 := Lib.hid hr
  clear hr
  have hr := HR3.out.below hb
  clear HR3
  have HR3 := Lib.hid hr
  clear hr
  have hr := HR4.out.below hb
  clear HR4
  have HR4 := Lib.hid hr
  clear hr
  have hr := HR5.out.below hb
  clear HR5
  have HR5 := Lib.hid hr
  clear hr
  have HR6 := Lib.hid hu
  clear hb hu
  refine ⟨HX.out.s, ?_⟩
  try simp only [List.setIfInBounds_toArray, List.set_cons_zero, List.set_cons_succ]
  have MA := Lib.hid (And.intro HR3.out (And.intro HR6.out (And.intro hden (And.intro (((rfit_nval (okP_iff.1 HO.out.1).1.1).mul (rfit_nval (okP_iff.1 HO.out.2).1.1)).up (by omega) : RFit 5000 _) (((rfit_nval (okP_iff.1 HO.out.1).1.2).mul (rfit_nval (okP_iff.1 HO.out.2).1.2)).up (by omega) : RFit 5000 _)))))
  clear hden
  refine T_only 14 (by kernel_rfl) rfl (by kernel_rfl) ?_
  unfold Oper.wp
  go_simp
  refine (rmade_calls _ _ _ _ _ _ _ _ _ MA.out.1 MA.out.2.1 MA.out.2.2.1 MA.out.2.2.2.1 MA.out.2.2.2.2).mono ?_
  rintro e U ⟨rfl, hb⟩
  have hx := HX.out.below hb
  clear HX
  have HX := Lib.hid hx
  clear hx hb
  obtain ⟨s, t, x, hE⟩ : ∃ s t x, mulR (an, ad) (bn, bd) = ((s, t), x) := ⟨_, _, _, rfl⟩
  rw [← mulR_eq HO.out.1 HO.out.2, hE, rv_eq2]
  have HE := Lib.hid hE
  clear hE
  have hS2 := HX.out.s
  refine ⟨hS2, ?_⟩
  try simp only [List.setIfInBounds_toArray, List.set_cons_zero, List.set_cons_succ]
  refine T_take 15 _ _ rfl rfl (by kernel_rfl) (by kernel_rfl) (by kernel_rfl) (fun _ _ d _ _ h => by cases d <;> exact h) (by kernel_rfl) tail_only hS2 (by kernel_rfl) (fun W hW => by obtain ⟨zs1, zs2, zs3, zs4⟩ := hW; go_simp; try exact rfl) ?_
  try simp only [List.setIfInBounds_toArray, List.set_cons_zero, List.set_cons_succ]
  refine T_take 16 _ _ rfl rfl (by kernel_rfl) (by kernel_rfl) (by kernel_rfl) (fun _ _ d _ _ h => by cases d <;> exact h) (by kernel_rfl) tail_only hS2 (by kernel_rfl) (fun W hW => by obtain ⟨zs1, zs2, zs3, zs4⟩ := hW; go_simp; try exact rfl) ?_
  try simp only [List.setIfInBounds_toArray, List.set_cons_zero, List.set_cons_succ]
  obtain ⟨q1, q2, q3, q4⟩ := HX.out.r
  refine T_only 17 (by kernel_rfl) rfl (by kernel_rfl) ?_
  unfold Oper.wp
  go_simp
  refine ⟨boxPS_set hS2 _ _, by kernel_rfl, ?_⟩
  try simp only [List.setIfInBounds_toArray, List.set_cons_zero, List.set_cons_succ]
  refine any_only 18 (by kernel_rfl) rfl (by kernel_rfl) ?_
  unfold Oper.wp
  go_simp
  refine any_done (by kernel_rfl) ?_
  clear q1 q2 q3 q4 hS hS2
  go_wp2_with fail
  have hn := HX.out.nw
  refine bodyPost_ret (results_pb rfl _ rfl (HX.out.res.set s t)) rfl ⟨by rw [HE.out]; rfl, ?_⟩
  first | exact box3_set HX.out.bel hn | exact box3_setN HX.out.bel hn
set_option maxRecDepth 100000 in
set_option maxHeartbeats 2000000 in
theorem rdiv_calls (a b : PS) (sa : Sz a) (sb : Sz b) (w : World) :
    Calls Tryz.prog 21 #[pv a, pv b] w fun e W => e = .returned (rv (divR a b)) ∧ Below w.heap.size w W := by
  obtain ⟨an, ad⟩ := a
  obtain ⟨bn, bd⟩ := b
  have HT := Lib.hid (And.intro sa sb)
  have h0 := BoxP.new w (an, ad) (bn, bd)
  obtain ⟨N, hN⟩ : ∃ N, w.heap.size = N := ⟨_, rfl⟩
  simp only [hN] at h0
  clear sa sb
  go_enter Tryz.func21, Tryz.ntmps21
  go_wp2_with fail
  obtain ⟨W0, hW0⟩ : ∃ W0, (((w.alloc (.cells #[.string an, .string ad] 24)).alloc (.cells #[.string bn, .string bd] 24)).alloc (.cells #[.string ⟨#[]⟩, .string ⟨#[]⟩] 24)) = W0 := ⟨_, rfl⟩
  rw [hW0] at h0 ⊢
  have H0 := Lib.hid h0
  clear h0 hW0
  refine (both_calls (an, ad) (bn, bd) HT.out.1 HT.out.2 W0).mono ?_
  rintro e W1 ⟨rfl, hb⟩
  have HX := Lib.hid (H0.out.below hb)
  clear hb H0
  by_cases hok : okP (an, ad) = true ∧ okP (bn, bd) = true
  case neg =>
    have HE := Lib.hid (divR_no (a := (an, ad)) (b := (bn, bd)) hok)
    rw [bothR_no hok]
    clear hok
    obtain ⟨q1, q2, q3, q4⟩ := HX.out.r
    go_wp2_with fail
    have hn := HX.out.nw
    refine bodyPost_ret (results_pb rfl _ rfl (HX.out.res.set _ _)) rfl ⟨by rw [HE.out]; rfl, ?_⟩
    first | exact box3_set HX.out.bel hn | exact box3_setN HX.out.bel hn
  rw [bothR_ok hok.1 hok.2]
  have HO := Lib.hid hok
  clear hok

  obtain ⟨k1, k2, k3, k4⟩ := HX.out.s
  by_cases hz : bn = s0
  · have h3b := (str_eq bn [48]).2 hz
    have HE := Lib.hid (show divR (an, ad) (bn, bd) = no 10 by rw [divR_eq HO.out.1 HO.out.2]; unfold div1R; rw [if_pos (by rw [hz]; exact nval_s0)])
    clear hz
    obtain ⟨q1, q2, q3, q4⟩ := HX.out.r
    go_wp2_with fail
    have hn := HX.out.nw
    refine bodyPost_ret (results_pb rfl _ rfl (HX.out.res.set _ _)) rfl ⟨by rw [HE.out]; rfl, ?_⟩
    first | exact box3_set HX.out.bel hn | exact box3_setN HX.out.bel hn
  have h3b := str_ne (l := [48]) hz
  have hnz : nval bn ≠ 0 := fun h => hz ((nval_zero (okP_iff.1 HO.out.2).1.1).1 h)
  have HD := Lib.hid (show divR (an, ad) (bn, bd) = mkR (((nval an * nval bd : Nat) : Rat) / ((nval ad * nval bn : Nat) : Rat)) by rw [divR_eq HO.out.1 HO.out.2]; unfold div1R; rw [if_neg hnz])
  have HZ := Lib.hid hnz
  clear hz hnz
  go_wp2_with fail
  clear h3b k1 k2 k3 k4
  obtain ⟨W2, hW2⟩ : ∃ V, W1.drew = V := ⟨_, rfl⟩
  have hS : BoxPS N (an, ad) (bn, bd) W1.drew := HX.out.s
  have hx := HX.out.drew
  refine region_tail (m := 18) (BoxPS N (an, ad) (bn, bd)) 18 1 (by kernel_rfl) rfl ?_
  rw [hW2] at hS hx ⊢
  clear HX hW2
  have HX := Lib.hid hx
  clear hx
  have hden : nval ad * nval bn ≠ 0 := Nat.mul_ne_zero (okP_iff.1 HO.out.1).2.1 HZ.out
  refine T_take 0 _ _ rfl rfl (by kernel_rfl) (by kernel_rfl) (by kernel_rfl) (fun _ _ d _ _ h => by cases d <;> exact h) (by kernel_rfl) tail_only hS (by kernel_rfl) (fun W hW => by obtain ⟨zs1, zs2, zs3, zs4⟩ := hW; go_simp; try exact rfl) ?_
  try simp only [List.setIfInBounds_toArray, List.set_cons_zero, List.set_cons_succ]
  refine T_take 1 _ _ rfl rfl (by kernel_rfl) (by kernel_rfl) (by kernel_rfl) (fun _ _ d _ _ h => by cases d <;> exact h) (by kernel_rfl) tail_only hS (by kernel_rfl) (fun W hW => by obtain ⟨zs1, zs2, zs3, zs4⟩ := hW; go_simp; try exact rfl) ?_
  try simp only [List.setIfInBounds_toArray, List.set_cons_zero, List.set_cons_succ]
  refine T_take 3 _ _ rfl rfl (by kernel_rfl) (by kernel_rfl) (by kernel_rfl) (fun _ _ d _ _ h => by cases d <;> exact h) (by kernel_rfl) tail_only hS (by kernel_rfl) (fun W hW => by obtain ⟨zs1, zs2, zs3, zs4⟩ := hW; go_simp; try exact rfl) ?_
  try simp only [List.setIfInBounds_toArray, List.set_cons_zero, List.set_cons_succ]
  refine T_take 4 _ _ rfl rfl (by kernel_rfl) (by kernel_rfl) (by kernel_rfl) (fun _ _ d _ _ h => by cases d <;> exact h) (by kernel_rfl) tail_only hS (by kernel_rfl) (fun W hW => by obtain ⟨zs1, zs2, zs3, zs4⟩ := hW; go_simp; try exact rfl) ?_
  try simp only [List.setIfInBounds_toArray, List.set_cons_zero, List.set_cons_succ]
  refine T_take 7 _ _ rfl rfl (by kernel_rfl) (by kernel_rfl) (by kernel_rfl) (fun _ _ d _ _ h => by cases d <;> exact h) (by kernel_rfl) tail_only hS (by kernel_rfl) (fun W hW => by obtain ⟨zs1, zs2, zs3, zs4⟩ := hW; go_simp; try exact rfl) ?_
  try simp only [List.setIfInBounds_toArray, List.set_cons_zero, List.set_cons_succ]
  refine T_take 8 _ _ rfl rfl (by kernel_rfl) (by kernel_rfl) (by kernel_rfl) (fun _ _ d _ _ h => by cases d <;> exact h) (by kernel_rfl) tail_only hS (by kernel_rfl) (fun W hW => by obtain ⟨zs1, zs2, zs3, zs4⟩ := hW; go_simp; try exact rfl) ?_
  try simp only [List.setIfInBounds_toArray, List.set_cons_zero, List.set_cons_succ]
  refine T_take 10 _ _ rfl rfl (by kernel_rfl) (by kernel_rfl) (by kernel_rfl) (fun _ _ d _ _ h => by cases d <;> exact h) (by kernel_rfl) tail_only hS (by kernel_rfl) (fun W hW => by obtain ⟨zs1, zs2, zs3, zs4⟩ := hW; go_simp; try exact rfl) ?_
  try simp only [List.setIfInBounds_toArray, List.set_cons_zero, List.set_cons_succ]
  refine T_take 11 _ _ rfl rfl (by kernel_rfl) (by kernel_rfl) (by kernel_rfl) (fun _ _ d _ _ h => by cases d <;> exact h) (by kernel_rfl) tail_only hS (by kernel_rfl) (fun W hW => by obtain ⟨zs1, zs2, zs3, zs4⟩ := hW; go_simp; try exact rfl) ?_
  try simp only [List.setIfInBounds_toArray, List.set_cons_zero, List.set_cons_succ]
  refine T_only 2 (by kernel_rfl) rfl (by kernel_rfl) ?_
  unfold Oper.wp
  go_simp
  refine (rparts_calls an (okN_digits (okP_iff.1 HO.out.1).1.1) (Nat.le_trans (okN_size (okP_iff.1 HO.out.1).1.1) (by omega)) W2).mono ?_
  rintro e U1 ⟨A1, L1, C1, rfl, hu, hb⟩
  have hx := HX.out.below hb
  clear HX
  have HX := Lib.hid hx
  clear hx
  have HR1 := Lib.hid hu
  clear hb hu
  refine ⟨HX.out.s, ?_⟩
  try simp only [List.setIfInBounds_toArray, List.set_cons_zero, List.set_cons_succ]
  refine T_only 5 (by kernel_rfl) rfl (by kernel_rfl) ?_
  unfold Oper.wp
  go_simp
  refine (rparts_calls bd (okN_digits (okP_iff.1 HO.out.2).1.2) (Nat.le_trans (okN_size (okP_iff.1 HO.out.2).1.2) (by omega)) U1).mono ?_
  rintro e U2 ⟨A2, L2, C2, rfl, hu, hb⟩
  have hx := HX.out.below hb
  clear HX
  have HX := Lib.hid hx
  clear hx
  have hr := HR1.out.below hb
  clear HR1
  have HR1 := Lib.hid hr
  clear hr
  have HR2 := Lib.hid hu
  clear hb hu
  refine ⟨HX.out.s, ?_⟩
  try simp only [List.setIfInBounds_toArray, List.set_cons_zero, List.set_cons_succ]
  refine T_only 6 (by kernel_rfl) rfl (by kernel_rfl) ?_
  unfold Oper.wp
  go_simp
  refine (rtimes_calls (.slice A1 L1 C1) (.slice A2 L2 C2) _ _ U2 HR1.out HR2.out ((rfit_nval (okP_iff.1 HO.out.1).1.1).up (by omega)) ((rfit_nval (okP_iff.1 HO.out.2).1.2).up (by omega))).mono ?_
  rintro e U3 ⟨A3, L3, C3, rfl, hu, hb⟩
  have hx := HX.out.below hb
  clear HX
  have HX := Lib.hid hx
  clear hx
  have hr := HR1.out.below hb
  clear HR1
  have HR1 := Lib.hid hr
  clear hr
  have hr := HR2.out.below hb
  clear HR2
  have HR2 := Lib.hid hr
  clear hr
  have HR3 := Lib.hid hu
  clear hb hu
  refine ⟨HX.out.s, ?_⟩
  try simp only [List.setIfInBounds_toArray, List.set_cons_zero, List.set_cons_succ]
  refine T_only 9 (by kernel_rfl) rfl (by kernel_rfl) ?_
  unfold Oper.wp
  go_simp
  refine (rparts_calls ad (okN_digits (okP_iff.1 HO.out.1).1.2) (Nat.le_trans (okN_size (okP_iff.1 HO.out.1).1.2) (by omega)) U3).mono ?_
  rintro e U4 ⟨A4, L4, C4, rfl, hu, hb⟩
  have hx := HX.out.below hb
  clear HX
  have HX := Lib.hid hx
  clear hx
  have hr := HR1.out.below hb
  clear HR1
  have HR1 := Lib.hid hr
  clear hr
  have hr := HR2.out.below hb
  clear HR2
  have HR2 := Lib.hid hr
  clear hr
  have hr := HR3.out.below hb
  clear HR3
  have HR3 := Lib.hid hr
  clear hr
  have HR4 := Lib.hid hu
  clear hb hu
  refine ⟨HX.out.s, ?_⟩
  try simp only [List.setIfInBounds_toArray, List.set_cons_zero, List.set_cons_succ]
  refine T_only 12 (by kernel_rfl) rfl (by kernel_rfl) ?_
  unfold Oper.wp
  go_simp
  refine (rparts_calls bn (okN_digits (okP_iff.1 HO.out.2).1.1) (Nat.le_trans (okN_size (okP_iff.1 HO.out.2).1.1) (by omega)) U4).mono ?_
  rintro e U5 ⟨A5, L5, C5, rfl, hu, hb⟩
  have hx := HX.out.below hb
  clear HX
  have HX := Lib.hid hx
  clear hx
  have hr := HR1.out.below hb
  clear HR1
  have HR1 := Lib.hid hr
  clear hr
  have hr := HR2.out.below hb
  clear HR2
  have HR2 := Lib.hid hr
  clear hr
  have hr := HR3.out.below hb
  clear HR3
  have HR3 := Lib.hid hr
  clear hr
  have hr := HR4.out.below hb
  clear HR4
  have HR4 := Lib.hid hr
  clear hr
  have HR5 := Lib.hid hu
  clear hb hu
  refine ⟨HX.out.s, ?_⟩
  try simp only [List.setIfInBounds_toArray, List.set_cons_zero, List.set_cons_succ]
  refine T_only 13 (by kernel_rfl) rfl (by kernel_rfl) ?_
  unfold Oper.wp
  go_simp
  refine (rtimes_calls (.slice A4 L4 C4) (.slice A5 L5 C5) _ _ U5 HR4.out HR5.out ((rfit_nval (okP_iff.1 HO.out.1).1.2).up (by omega)) ((rfit_nval (okP_iff.1 HO.out.2).1.1).up (by omega))).mono ?_
  rintro e U6 ⟨A6, L6, C6, rfl, hu, hb⟩
  have hx := HX.out.below hb
  clear HX
  have HX := Lib.hid hx
  clear hx
  have hr := HR1.out.below hb
  clear HR1
  have HR1 := Lib.hid hr
  clear hr
  have hr := HR2.out.below hb
  clear HR2
  have HR2 := Lib.hid hr
  clear hr
  have hr := HR3.out.below hb
  clear HR3
  have HR3 := Lib.hid hr
  clear hr
  have hr := HR4.out.below hb
  clear HR4
  have HR4 := Lib.hid hr
  clear hr
  have hr := HR5.out.below hb
  clear HR5
  have HR5 := Lib.hid hr
  clear hr
  have HR6 := Lib.hid hu
  clear hb hu
  refine ⟨HX.out.s, ?_⟩
  try simp only [List.setIfInBounds_toArray, List.set_cons_zero, List.set_cons_succ]
  have MA := Lib.hid (And.intro HR3.out (And.intro HR6.out (And.intro hden (And.intro (((rfit_nval (okP_iff.1 HO.out.1).1.1).mul (rfit_nval (okP_iff.1 HO.out.2).1.2)).up (by omega) : RFit 5000 _) (((rfit_nval (okP_iff.1 HO.out.1).1.2).mul (rfit_nval (okP_iff.1 HO.out.2).1.1)).up (by omega) : RFit 5000 _)))))
  clear hden
  refine T_only 14 (by kernel_rfl) rfl (by kernel_rfl) ?_
  unfold Oper.wp
  go_simp
  refine (rmade_calls _ _ _ _ _ _ _ _ _ MA.out.1 MA.out.2.1 MA.out.2.2.1 MA.out.2.2.2.1 MA.out.2.2.2.2).mono ?_
  rintro e U ⟨rfl, hb⟩
  have hx := HX.out.below hb
  clear HX
  have HX := Lib.hid hx
  clear hx hb
  obtain ⟨s, t, x, hE⟩ : ∃ s t x, divR (an, ad) (bn, bd) = ((s, t), x) := ⟨_, _, _, rfl⟩
  rw [← HD.out, hE, rv_eq2]
  have HE := Lib.hid hE
  clear hE
  have hS2 := HX.out.s
  refine ⟨hS2, ?_⟩
  try simp only [List.setIfInBounds_toArray, List.set_cons_zero, List.set_cons_succ]
  refine T_take 15 _ _ rfl rfl (by kernel_rfl) (by kernel_rfl) (by kernel_rfl) (fun _ _ d _ _ h => by cases d <;> exact h) (by kernel_rfl) tail_only hS2 (by kernel_rfl) (fun W hW => by obtain ⟨zs1, zs2, zs3, zs4⟩ := hW; go_simp; try exact rfl) ?_
  try simp only [List.setIfInBounds_toArray, List.set_cons_zero, List.set_cons_succ]
  refine T_take 16 _ _ rfl rfl (by kernel_rfl) (by kernel_rfl) (by kernel_rfl) (fun _ _ d _ _ h => by cases d <;> exact h) (by kernel_rfl) tail_only hS2 (by kernel_rfl) (fun W hW => by obtain ⟨zs1, zs2, zs3, zs4⟩ := hW; go_simp; try exact rfl) ?_
  try simp only [List.setIfInBounds_toArray, List.set_cons_zero, List.set_cons_succ]
  obtain ⟨q1, q2, q3, q4⟩ := HX.out.r
  refine T_only 17 (by kernel_rfl) rfl (by kernel_rfl) ?_
  unfold Oper.wp
  go_simp
  refine ⟨boxPS_set hS2 _ _, by kernel_rfl, ?_⟩
  try simp only [List.setIfInBounds_toArray, List.set_cons_zero, List.set_cons_succ]
  refine any_only 18 (by kernel_rfl) rfl (by kernel_rfl) ?_
  unfold Oper.wp
  go_simp
  refine any_done (by kernel_rfl) ?_
  clear q1 q2 q3 q4 hS hS2
  go_wp2_with fail
  have hn := HX.out.nw
  refine bodyPost_ret (results_pb rfl _ rfl (HX.out.res.set s t)) rfl ⟨by rw [HE.out]; rfl, ?_⟩
  first | exact box3_set HX.out.bel hn | exact box3_setN HX.out.bel hn
end Go.Proofs.CW
