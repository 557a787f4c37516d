/-
  Part 9 of the proof: RG2, RC1, RC2, RC3, RC4.
-/
import Derived.Test.YtjfclkbdkafkcaaGreatDoorYZ3
import Derived.Test.YtjfclkbdkafkcaaGreatDoorYZ4
import Derived.Test.YtjfclkbdkafkcaaGreatDoorYZ6
import Derived.Test.YtjfclkbdkafkcaaGreatDoorYZ8
set_option linter.unusedVariables false
set_option linter.unusedSimpArgs false
namespace Go.Proofs.CW
open Go.RowKit Go.Shelf Go.Sort Go.Lib Go.Proofs.YtjfclkbdkafkcaaGreatDoorW.PrintWords Go.Proofs.YtjfclkbdkafkcaaGreatDoor.PF
attribute [local go_sem] Oper.semAt_some

section
variable {P : Program} {md : Region.Mode} {ops : Array Oper} {Q : Exit → Act → World → Prop} {S : World → Prop} {T : Array Bool → Act → World → Prop}
/-- Two operations may come up: each, walked. -/
theorem T_two {fuel : Nat} (i j : Nat) {o u : Oper} {listed : Array Bool} {a : Act} {w : World} (hr : Region.ready md ops listed = [i, j]) (hi : ops[i]? = some o) (hj : ops[j]? = some u)
    (hw : Region.wanted o (yielded ops a.tmps) = true) (hv : Region.wanted u (yielded ops a.tmps) = true) (h : o.wp P a w (fun a' w' => S w' ∧ wpAnyT P md ops Q S T fuel (listed.setIfInBounds i true) a' w') Q)
    (h2 : u.wp P a w (fun a' w' => S w' ∧ wpAnyT P md ops Q S T fuel (listed.setIfInBounds j true) a' w') Q) : wpAnyT P md ops Q S T (fuel + 1) listed a w := by
  refine ⟨by rw [hr]; simp, fun k hk => ?_⟩
  rw [hr] at hk
  rcases List.mem_cons.1 hk with rfl | hk
  · unfold wpOp
    simp only [hi, hw, if_true]
    exact .inl h
  · rw [List.mem_singleton] at hk
    subst hk
    unfold wpOp
    simp only [hj, hv, if_true]
    exact .inl h2
/-- Three operations may come up: each, walked. -/
theorem T_three {fuel : Nat} (i j m : Nat) {o u v : Oper} {listed : Array Bool} {a : Act} {w : World} (hr : Region.ready md ops listed = [i, j, m]) (hi : ops[i]? = some o) (hj : ops[j]? = some u) (hm : ops[m]? = some v)
    (hw : Region.wanted o (yielded ops a.tmps) = true) (hv : Region.wanted u (yielded ops a.tmps) = true) (hx : Region.wanted v (yielded ops a.tmps) = true) (h : o.wp P a w (fun a' w' => S w' ∧ wpAnyT P md ops Q S T fuel (listed.setIfInBounds i true) a' w') Q)
    (h2 : u.wp P a w (fun a' w' => S w' ∧ wpAnyT P md ops Q S T fuel (listed.setIfInBounds j true) a' w') Q) (h3 : v.wp P a w (fun a' w' => S w' ∧ wpAnyT P md ops Q S T fuel (listed.setIfInBounds m true) a' w') Q) : wpAnyT P md ops Q S T (fuel + 1) listed a w := by
  refine ⟨by rw [hr]; simp, fun k hk => ?_⟩
  rw [hr] at hk
  rcases List.mem_cons.1 hk with rfl | hk
  · unfold wpOp
    simp only [hi, hw, if_true]
    exact .inl h
  · rcases List.mem_cons.1 hk with rfl | hk
    · unfold wpOp
      simp only [hj, hv, if_true]
      exact .inl h2
    · rw [List.mem_singleton] at hk
      subst hk
      unfold wpOp
      simp only [hm, hx, if_true]
      exact .inl h3
end
end Go.Proofs.CW
namespace Go.Proofs.CW
open Go.RowKit Go.Shelf Go.Sort Go.Lib Go.Proofs.YtjfclkbdkafkcaaGreatDoorW.PrintWords Go.Proofs.YtjfclkbdkafkcaaGreatDoor.PF
attribute [local go_sem] Oper.semAt_some

/-- A number of the reference's. -/
structure RNum (W : World) (v : Value) (n : Nat) : Prop where
  mk_ ::
  ex : ∃ xs, Kd.V (Kd.int .i64) 3 W 0 (fun _ => True) v xs ∧ Lim 10000 xs ∧ Norm xs ∧ lv 10000 xs = (n : Int) ∧ xs.length ≤ 100000
theorem RNum.below {W W' : World} {v : Value} {n : Nat} (h : RNum W v n) (hb : Below W.heap.size W W') : RNum W' v n := by
  obtain ⟨xs, h1, h2⟩ := h.ex
  exact ⟨xs, Kd.V_below h1 hb, h2⟩
theorem RNum.drew {W : World} {v : Value} {n : Nat} (h : RNum W v n) : RNum W.drew v n := h.below (below_drew1 (Below.refl _ W))
theorem RNum.len {W : World} {v : Value} {n k : Nat} (h : RNum W v n) (hn : (n : Int) < 10000 ^ k) : ∃ xs A c, v = .slice A xs.length c ∧ xs.length ≤ c ∧ Kd.C (Kd.int .i64) W A xs.length xs ∧ Kd.V (Kd.int .i64) 3 W 0 (fun _ => True) (.slice A xs.length c) xs ∧ Lim 10000 xs ∧ Norm xs ∧ lv 10000 xs = (n : Int) ∧ xs.length ≤ k := by
  obtain ⟨xs, h1, h2, h3, h4, h5⟩ := h.ex
  obtain ⟨A, c, rfl⟩ := Kd.V_slice h1
  have hr := Kd.V_reads' h1
  exact ⟨xs, A, c, rfl, hr.2.1, hr.2.2, h1, h2, h3, h4, length_le_of_lt b4 h2 h3 (by rw [h4]; exact hn)⟩
/-- A number that comes back. -/
def RBack (W : World) (e : Ending) (n : Nat) (W' : World) : Prop := ∃ A L c, e = .returned (.slice A L c) ∧ RNum W' (.slice A L c) n ∧ Below W.heap.size W W'
theorem rback {W W' : World} {e : Ending} {n : Nat} {base : Nat} {ok : Nat → Prop} {xs : List Int} (h : ∃ v, e = .returned v ∧ Kd.V (Kd.int .i64) 3 W' base ok v xs ∧ Below W.heap.size W W') (hl : Lim 10000 xs) (hn : Norm xs) (hv : lv 10000 xs = (n : Int)) (hlen : xs.length ≤ 100000) : RBack W e n W' := by
  obtain ⟨v, rfl, h1, h2⟩ := h
  obtain ⟨A, c, rfl⟩ := Kd.V_slice h1
  exact ⟨A, _, c, rfl, ⟨xs, Kd.V_mono h1 (fun _ _ => trivial), hl, hn, hv, hlen⟩, h2⟩
/-- How much a number of the reference's fits. -/
structure RFit (k n : Nat) : Prop where
  mk_ ::
  out : (n : Int) < 10000 ^ k
theorem RFit.up {k m n : Nat} (h : RFit k n) (hm : k ≤ m) : RFit m n := ⟨Int.lt_of_lt_of_le h.out (pow_le_pow b4 hm)⟩
theorem RFit.le {k a n : Nat} (h : RFit k n) (ha : a ≤ n) : RFit k a := ⟨Int.lt_of_le_of_lt (by omega) h.out⟩
theorem RFit.mul {j k a b : Nat} (h : RFit j a) (h2 : RFit k b) : RFit (j + k) (a * b) := by
  refine ⟨?_⟩
  have h1 := h.out
  have h3 := h2.out
  rw [Int.pow_add, Int.natCast_mul]
  generalize (10000 : Int) ^ j = P at *
  generalize (10000 : Int) ^ k = Q at *
  have e1 : (a : Int) * (b : Int) ≤ (a : Int) * Q := Int.mul_le_mul_of_nonneg_left (by omega) (by omega)
  have e2 : (a : Int) * Q < P * Q := Int.mul_lt_mul_of_pos_right h1 (by omega)
  omega
theorem RFit.add {k a b : Nat} (h : RFit k a) (h2 : RFit k b) : RFit (k + 1) (a + b) := by
  refine ⟨?_⟩
  have h1 := h.out
  have h3 := h2.out
  rw [Int.pow_succ]
  generalize (10000 : Int) ^ k = P at *
  omega
theorem rparts_calls (s : ByteArray) (hd : allD s.data.toList = true) (hs : s.size ≤ 100000) (w : World) :
    Calls Tryz.prog 69 #[.string s] w fun e W => RBack w e (nval s) W := by
  obtain ⟨r, hev, h1, h2, h3, h4⟩ := rParts_ev s hd hs
  obtain ⟨k, hk⟩ := (ev_bind_some hev).rounds
  exact (cressetref01_parts.calls k s r w (by simp only [cressetref01_parts.f]; exact hk)).mono fun e W h => rback h h1 h2 h3 h4
theorem rnat_calls (v : Value) (n : Nat) (w : World) (h : RNum w v n) :
    Calls Tryz.prog 98 #[v] w fun e W => e = .returned (.string (nstr n)) ∧ Below w.heap.size w W := by
  obtain ⟨xs, h1, h2, h3, h4, h5⟩ := h.ex
  obtain ⟨A, c, rfl⟩ := Kd.V_slice h1
  have hr := Kd.V_reads' h1
  obtain ⟨k, hk⟩ := (ev_bind_some (rDigits_ev xs h2 h5)).rounds
  have e : (lv 10000 xs).toNat = n := by omega
  rw [e] at hk
  exact cressetref01_nat.calls k A c xs _ w hr.2.2 hr.2.1 (by simp only [cressetref01_nat.f]; exact hk)
theorem rdigits_calls (v : Value) (n : Nat) (w : World) (h : RNum w v n) :
    Calls Tryz.prog 111 #[v] w fun e W => e = .returned (.string (nstr n)) ∧ Below w.heap.size w W := by
  obtain ⟨xs, h1, h2, h3, h4, h5⟩ := h.ex
  obtain ⟨A, c, rfl⟩ := Kd.V_slice h1
  have hr := Kd.V_reads' h1
  obtain ⟨k, hk⟩ := (rDigits_ev xs h2 h5).rounds
  have e : (lv 10000 xs).toNat = n := by omega
  rw [e] at hk
  exact cressetref01_Digits.calls k A c xs _ w hr.2.2 hr.2.1 hk
theorem rNat_calls (s : ByteArray) (hs : s.size ≤ 1000000) (w : World) :
    Calls Tryz.prog 100 #[.string s] w fun e W => e = .returned (.bool (okN s)) ∧ Below w.heap.size w W := by
  obtain ⟨k, hk⟩ := (rNat_ev s hs).rounds
  exact (cressetref01_Nat.calls k s _ w hk).mono fun e W h => ⟨h.1, h.2.below⟩
theorem rtimes_calls (u v : Value) (a b : Nat) (w : World) (ha : RNum w u a) (hb : RNum w v b) (fa : RFit 500 a) (fb : RFit 500 b) :
    Calls Tryz.prog 68 #[u, v] w fun e W => RBack w e (a * b) W := by
  obtain ⟨xs, A, c, rfl, c1, r1, _, l1, n1, v1, k1⟩ := ha.len fa.out
  obtain ⟨ys, B, d, rfl, c2, r2, _, l2, n2, v2, k2⟩ := hb.len fb.out
  obtain ⟨r, hev, h1, h2, h3, h4⟩ := rtimes_ev xs ys l1 l2 (by omega)
  obtain ⟨k, hk⟩ := hev.rounds
  exact (cressetref01_times.calls k A c xs B d ys r w r1 c1 r2 c2 hk).mono fun e W h => rback h h1 h2 (by rw [h3, v1, v2, Int.natCast_mul]) (by omega)
theorem rminus_calls (u v : Value) (a b : Nat) (w : World) (ha : RNum w u a) (hb : RNum w v b) (fa : RFit 5000 a) (hle : b ≤ a) :
    Calls Tryz.prog 95 #[u, v] w fun e W => RBack w e (a - b) W := by
  obtain ⟨xs, A, c, rfl, c1, r1, _, l1, n1, v1, k1⟩ := ha.len fa.out
  obtain ⟨ys, B, d, rfl, c2, r2, _, l2, n2, v2, k2⟩ := hb.len (fa.le hle).out
  obtain ⟨r, hev, h1, h2, h3, h4⟩ := rminus_ev xs ys l1 l2 n2 (by omega) (by omega)
  obtain ⟨k, hk⟩ := hev.rounds
  exact (cressetref01_minus.calls k A c xs B d ys r w r1 c1 r2 c2 hk).mono fun e W h => rback h h1 h2 (by omega) (by omega)
theorem rorder_calls (u v : Value) (a b : Nat) (w : World) (ha : RNum w u a) (hb : RNum w v b) (fa : RFit 5000 a) (fb : RFit 5000 b) :
    Calls Tryz.prog 94 #[u, v] w fun e W => ∃ r : Int, e = .returned (.int .i64 r) ∧ Sg r (a : Int) (b : Int) ∧ Below w.heap.size w W := by
  obtain ⟨xs, A, c, rfl, c1, r1, _, l1, n1, v1, k1⟩ := ha.len fa.out
  obtain ⟨ys, B, d, rfl, c2, r2, _, l2, n2, v2, k2⟩ := hb.len fb.out
  obtain ⟨r, hev, h1⟩ := rorder_ev xs ys l1 l2 n1 n2 (by omega) (by omega)
  obtain ⟨k, hk⟩ := hev.rounds
  exact (cressetref01_order.calls k A c xs B d ys r w r1 c1 r2 c2 hk).mono fun e W h => ⟨r, h.1, by rw [← v1, ← v2]; exact h1, h.2.below⟩
theorem rover_calls (u v : Value) (a b : Nat) (w : World) (ha : RNum w u a) (hb : RNum w v b) (fa : RFit 5000 a) (fb : RFit 5000 b) (h0 : b ≠ 0) :
    Calls Tryz.prog 115 #[u, v] w fun e W => ∃ A L c B M d, e = .returned (.tuple #[.slice A L c, .slice B M d]) ∧ (RNum W (.slice A L c) (a / b) ∧ RNum W (.slice B M d) (a % b)) ∧ Below w.heap.size w W := by
  obtain ⟨xs, A, c, rfl, c1, r1, _, l1, n1, v1, k1⟩ := ha.len fa.out
  obtain ⟨ys, B, d, rfl, c2, r2, _, l2, n2, v2, k2⟩ := hb.len fb.out
  have hy0 : ys ≠ [] := fun h => by subst h; rw [lv_nil] at v2; omega
  obtain ⟨r, hev, ⟨q1, q2, q3, q4⟩, h2, h3⟩ := rover_ev xs ys l1 l2 n2 hy0 (by omega) (by omega)
  obtain ⟨k, hk⟩ := hev.rounds
  have z1 := lv_nonneg (B := 10000) (by decide) q1
  have z2 := lv_nonneg (B := 10000) (by decide) q3
  rw [v1, v2] at h2
  rw [v2] at h3
  have e1 : lv 10000 r.1 = ((a / b : Nat) : Int) := by
    rw [Int.natCast_ediv]
    have := Int.ediv_emod_unique (a := (a : Int)) (b := (b : Int)) (r := lv 10000 r.2) (q := lv 10000 r.1) (by omega)
    exact (this.2 ⟨by rw [h2]; omega, z2, h3⟩).1.symm
  have e2 : lv 10000 r.2 = ((a % b : Nat) : Int) := by
    rw [Int.natCast_emod]
    have := Int.ediv_emod_unique (a := (a : Int)) (b := (b : Int)) (r := lv 10000 r.2) (q := lv 10000 r.1) (by omega)
    exact (this.2 ⟨by rw [h2]; omega, z2, h3⟩).2.symm
  have f1 : r.1.length ≤ 5000 := length_le_of_lt b4 q1 q2 (by rw [e1]; exact (fa.le (Nat.div_le_self a b)).out)
  have f2 : r.2.length ≤ 5000 := length_le_of_lt b4 q3 q4 (by rw [e2]; exact (fb.le (Nat.le_of_lt (Nat.mod_lt _ (by omega)))).out)
  refine (cressetref01_over.calls k A c xs B d ys r.1 r.2 w r1 c1 r2 c2 hk).mono ?_
  rintro e W ⟨x, y, rfl, g1, g2, g3⟩
  obtain ⟨A1, C1, rfl⟩ := Kd.V_slice g1
  obtain ⟨A2, C2, rfl⟩ := Kd.V_slice g2
  exact ⟨A1, _, C1, A2, _, C2, rfl, ⟨⟨_, Kd.V_mono g1 (fun _ _ => trivial), q1, q2, e1, by omega⟩, ⟨_, Kd.V_mono g2 (fun _ _ => trivial), q3, q4, e2, by omega⟩⟩, g3⟩
theorem rgcd_calls (u v : Value) (a b : Nat) (w : World) (ha : RNum w u a) (hb : RNum w v b) (fa : RFit 5000 a) (fb : RFit 5000 b) :
    Calls Tryz.prog 117 #[u, v] w fun e W => RBack w e (Nat.gcd a b) W := by
  obtain ⟨xs, A, c, rfl, c1, r1, y1, l1, n1, v1, k1⟩ := ha.len fa.out
  obtain ⟨ys, B, d, rfl, c2, r2, y2, l2, n2, v2, k2⟩ := hb.len fb.out
  obtain ⟨r, hev, h1, h2, h3, h4⟩ := rgcd_ev _ xs ys rfl l1 l2 n1 n2 (by omega) (by omega)
  obtain ⟨k, hk⟩ := hev.rounds
  refine (cressetref01_gcd.calls k (fun _ => True) A c xs (fun _ => True) B d ys r w y1 y2 hk).mono fun e W h => rback h h1 h2 ?_ h4
  rw [h3, v1, v2, Int.toNat_natCast, Int.toNat_natCast]
end Go.Proofs.CW
namespace Go.Proofs.CW
open Go.RowKit Go.Shelf Go.Sort Go.Lib Go.Proofs.YtjfclkbdkafkcaaGreatDoorW.PrintWords Go.Proofs.YtjfclkbdkafkcaaGreatDoor.PF
attribute [local go_sem] Oper.semAt_some

set_option exponentiation.threshold 3000 in
theorem rfit_nval {s : ByteArray} (h : okN s = true) : RFit 150 (nval s) := by
  refine ⟨?_⟩
  have h1 := dval_lt s.data.toList (okN_digits h)
  have h2 : (10 : Nat) ^ s.data.toList.length ≤ 10 ^ (4 * 150) := Nat.pow_le_pow_right (by omega) (by rw [list_length]; have := okN_size h; omega)
  rw [Nat.pow_mul] at h2
  have h3 : (10 : Nat) ^ 4 = 10000 := by decide
  rw [h3] at h2
  have e : ((10000 ^ 150 : Nat) : Int) = (10000 : Int) ^ 150 := by rw [Int.natCast_pow]; rfl
  rw [← e]
  show ((dval s.data.toList : Nat) : Int) < _
  generalize (10000 : Nat) ^ 150 = p at *
  generalize (10 : Nat) ^ s.data.toList.length = q at *
  omega
/-- The sizes that the reference is looked at. -/
structure Sz (p : PS) : Prop where
  mk_ ::
  one : p.1.size ≤ 1000000
  two : p.2.size ≤ 1000000
theorem Sz.ok {p : PS} (h : okP p = true) : Sz p := by
  have h1 := (okP_iff.1 h).1
  have := okN_size h1.1
  have := okN_size h1.2
  exact ⟨by omega, by omega⟩
/-- What Check's region of calls reads. -/
abbrev OneB (N : Nat) (p : PS) (W : World) : Prop := W.cell? ⟨N, 0, none⟩ = some (.string p.1) ∧ W.cell? ⟨N, 1, none⟩ = some (.string p.2)
theorem oneB_of {N : Nat} {p : PS} {W : World} (h : PB W N p) : OneB N p W := ⟨h.cell.1, h.cell.2.1⟩
set_option maxRecDepth 100000 in
set_option maxHeartbeats 1000000 in
theorem rcheck_calls (p : PS) (hs : Sz p) (w : World) :
    Calls Tryz.prog 57 #[pv p] w fun e W => e = .returned (.int .i64 (checkR p)) ∧ Below w.heap.size w W := by
  obtain ⟨a, b⟩ := p
  have HS := Lib.hid hs
  have HB0 := Lib.hid (show Below w.heap.size w (w.alloc (.cells #[.string a, .string b] 24)) from (Below.refl _ w).alloc (Nat.le_refl _) _)
  have P0 := Lib.hid (PB.new w a b)
  clear hs
  go_enter Tryz.func57, Tryz.ntmps57
  go_wp2_with fail
  refine (rNat_calls a HS.out.one _).mono ?_
  rintro e w1 ⟨rfl, hb⟩
  have H1 := Lib.hid (And.intro (HB0.out.trans (hb.mono (by simp))) (P0.out.below hb))
  clear hb
  obtain ⟨f1, f2, _, _⟩ := H1.out.2.cell
  go_wp2_with fail
  refine (rNat_calls b HS.out.two _).mono ?_
  rintro e w2 ⟨rfl, hb⟩
  have H2 := Lib.hid (And.intro (H1.out.1.trans (hb.mono H1.out.1.size)) (H1.out.2.below hb))
  clear hb f1 f2
  by_cases h1 : okN a = true
  case neg =>
    have h1f : okN a = false := by simpa using h1
    have HE := Lib.hid (checkR_no (p := (a, b)) (fun h => h1 (okP_iff.1 h).1.1))
    rw [h1f]
    clear h1 h1f
    go_wp2_with fail
    go_ret
    exact ⟨by rw [HE.out]; rfl, H2.out.1⟩
  rw [h1]
  by_cases h2 : okN b = true
  case neg =>
    have h2f : okN b = false := by simpa using h2
    have HE := Lib.hid (checkR_no (p := (a, b)) (fun h => h2 (okP_iff.1 h).1.2))
    rw [h2f]
    clear h2 h2f h1
    go_wp2_with fail
    go_ret
    exact ⟨by rw [HE.out]; rfl, H2.out.1⟩
  rw [h2]
  obtain ⟨f1, f2, _, _⟩ := H2.out.2.cell
  by_cases h3 : b = s0
  · have h3b := (str_eq b [48]).2 h3
    have HE := Lib.hid (checkR_no (p := (a, b)) (fun h => (okP_iff.1 h).2.1 (by rw [h3]; exact nval_s0)))
    clear h3 h1 h2
    go_wp2_with fail
    go_ret
    exact ⟨by rw [HE.out]; rfl, H2.out.1⟩
  have h3b := str_ne (l := [48]) h3
  have HN := Lib.hid (And.intro h1 (And.intro h2 (fun e => h3 ((nval_zero h2).1 e))))
  clear h3 h1 h2
  go_wp2_with fail
  have hS : OneB w.heap.size (a, b) w2.drew := ⟨f1, f2⟩
  have H3 := Lib.hid (below_drew1 H2.out.1)
  have HFA := Lib.hid (rfit_nval HN.out.1)
  have HFB := Lib.hid (rfit_nval HN.out.2.1)
  refine region_tail (m := 7) (OneB w.heap.size (a, b)) 7 1 (by kernel_rfl) rfl ?_
  obtain ⟨w3, hw3⟩ : ∃ V, w2.drew = V := ⟨_, rfl⟩
  rw [hw3] at hS H3 ⊢
  clear hw3 h3b f1 f2
  refine T_take 0 _ _ rfl rfl (by kernel_rfl) (by kernel_rfl) (by kernel_rfl) (fun _ _ d _ _ h => by cases d <;> exact h) (by kernel_rfl) tail_only hS (by kernel_rfl) (fun W hW => by obtain ⟨zs1, zs2⟩ := hW; go_simp; try exact rfl) ?_
  try simp only [List.setIfInBounds_toArray, List.set_cons_zero, List.set_cons_succ]
  refine T_take 1 _ _ rfl rfl (by kernel_rfl) (by kernel_rfl) (by kernel_rfl) (fun _ _ d _ _ h => by cases d <;> exact h) (by kernel_rfl) tail_only hS (by kernel_rfl) (fun W hW => by obtain ⟨zs1, zs2⟩ := hW; go_simp; try exact rfl) ?_
  try simp only [List.setIfInBounds_toArray, List.set_cons_zero, List.set_cons_succ]
  refine T_take 3 _ _ rfl rfl (by kernel_rfl) (by kernel_rfl) (by kernel_rfl) (fun _ _ d _ _ h => by cases d <;> exact h) (by kernel_rfl) tail_only hS (by kernel_rfl) (fun W hW => by obtain ⟨zs1, zs2⟩ := hW; go_simp; try exact rfl) ?_
  try simp only [List.setIfInBounds_toArray, List.set_cons_zero, List.set_cons_succ]
  refine T_take 4 _ _ rfl rfl (by kernel_rfl) (by kernel_rfl) (by kernel_rfl) (fun _ _ d _ _ h => by cases d <;> exact h) (by kernel_rfl) tail_only hS (by kernel_rfl) (fun W hW => by obtain ⟨zs1, zs2⟩ := hW; go_simp; try exact rfl) ?_
  try simp only [List.setIfInBounds_toArray, List.set_cons_zero, List.set_cons_succ]
  refine T_only 2 (by kernel_rfl) rfl (by kernel_rfl) ?_
  unfold Oper.wp
  go_simp
  refine (rparts_calls a (okN_digits HN.out.1) (by have := okN_size HN.out.1; omega) w3).mono ?_
  rintro e w4 ⟨A1, L1, c1, rfl, hu, hb⟩
  have hS1 : OneB w.heap.size (a, b) w4 := ⟨(hb.cell (cell_lt hS.1)).trans hS.1, (hb.cell (cell_lt hS.2)).trans hS.2⟩
  have H4 := Lib.hid (And.intro hu (H3.out.trans (hb.mono H3.out.size)))
  clear hb hu
  refine ⟨hS1, ?_⟩
  try simp only [List.setIfInBounds_toArray, List.set_cons_zero, List.set_cons_succ]
  refine T_only 5 (by kernel_rfl) rfl (by kernel_rfl) ?_
  unfold Oper.wp
  go_simp
  refine (rparts_calls b (okN_digits HN.out.2.1) (by have := okN_size HN.out.2.1; omega) w4).mono ?_
  rintro e w5 ⟨B1, M1, d1, rfl, hu, hb⟩
  have hS2 : OneB w.heap.size (a, b) w5 := ⟨(hb.cell (cell_lt hS1.1)).trans hS1.1, (hb.cell (cell_lt hS1.2)).trans hS1.2⟩
  have H5 := Lib.hid (And.intro (H4.out.1.below hb) (And.intro hu (H4.out.2.trans (hb.mono H4.out.2.size))))
  clear hb hu
  refine ⟨hS2, ?_⟩
  try simp only [List.setIfInBounds_toArray, List.set_cons_zero, List.set_cons_succ]
  refine T_only 6 (by kernel_rfl) rfl (by kernel_rfl) ?_
  unfold Oper.wp
  go_simp
  refine (rgcd_calls (.slice A1 L1 c1) (.slice B1 M1 d1) _ _ w5 H5.out.1 H5.out.2.1 (HFA.out.up (by omega)) (HFB.out.up (by omega))).mono ?_
  rintro e w6 ⟨G, K, k, rfl, hu, hb⟩
  have hS3 : OneB w.heap.size (a, b) w6 := ⟨(hb.cell (cell_lt hS2.1)).trans hS2.1, (hb.cell (cell_lt hS2.2)).trans hS2.2⟩
  have H6 := Lib.hid (And.intro hu (H5.out.2.2.trans (hb.mono H5.out.2.2.size)))
  clear hb hu
  refine ⟨hS3, by kernel_rfl, ?_⟩
  try simp only [List.setIfInBounds_toArray, List.set_cons_zero, List.set_cons_succ]
  refine any_only 7 (by kernel_rfl) rfl (by kernel_rfl) ?_
  unfold Oper.wp
  go_simp
  refine any_done (by kernel_rfl) ?_
  clear hS hS1 hS2 hS3
  go_wp2_with fail
  refine (rdigits_calls (.slice G K k) _ w6 H6.out.1).mono ?_
  rintro e w7 ⟨rfl, hb⟩
  have H7 := Lib.hid (H6.out.2.trans (hb.mono H6.out.2.size))
  clear hb
  by_cases hg : Nat.gcd (nval a) (nval b) = 1
  · have HE := Lib.hid (checkR_ok (p := (a, b)) (okP_iff.2 ⟨⟨HN.out.1, HN.out.2.1⟩, HN.out.2.2, hg⟩))
    rw [hg, nstr_one]
    unfold s1
    clear hg
    go_wp2_with fail
    go_ret
    exact ⟨by rw [HE.out]; rfl, H7.out⟩
  · have HE := Lib.hid (checkR_no (p := (a, b)) (fun h => hg (okP_iff.1 h).2.2))
    have h1b := str_ne (l := [49]) (s := nstr (Nat.gcd (nval a) (nval b))) (fun h => hg (nstr_inj (h.trans nstr_one.symm)))
    generalize nstr (Nat.gcd (nval a) (nval b)) = gs at *
    clear hg
    go_wp2_with fail
    go_ret
    exact ⟨by rw [HE.out]; rfl, H7.out⟩
end Go.Proofs.CW
namespace Go.Proofs.CW
open Go.RowKit Go.Shelf Go.Sort Go.Lib Go.Proofs.YtjfclkbdkafkcaaGreatDoorW.PrintWords Go.Proofs.YtjfclkbdkafkcaaGreatDoor.PF
attribute [local go_sem] Oper.semAt_some

set_option maxRecDepth 100000 in
set_option maxHeartbeats 1000000 in
theorem rmade_calls (A B : Option Addr) (L c M k n d : Nat) (w : World) (ha : RNum w (.slice A L c) n) (hb : RNum w (.slice B M k) d) (h0 : d ≠ 0) (fa : RFit 5000 n) (fb : RFit 5000 d) :
    Calls Tryz.prog 67 #[.slice A L c, .slice B M k] w fun e W => e = .returned (rv (mkR ((n : Rat) / (d : Rat)))) ∧ Below w.heap.size w W := by
  have HA := Lib.hid (And.intro ha (And.intro hb (And.intro h0 (And.intro fa fb))))
  have HB0 := Lib.hid (show Below w.heap.size w (w.alloc (.cells #[.string ⟨#[]⟩, .string ⟨#[]⟩] 24)) from (Below.refl _ w).alloc (Nat.le_refl _) _)
  have P0 := Lib.hid (PB.new w ⟨#[]⟩ ⟨#[]⟩)
  obtain ⟨N, hN⟩ : ∃ N, w.heap.size = N := ⟨_, rfl⟩
  rw [hN] at P0
  clear ha hb h0 fa fb
  go_enter Tryz.func67, Tryz.ntmps67
  go_wp2_with fail
  obtain ⟨w0, hw0⟩ : ∃ V, w.alloc (.cells #[.string ⟨#[]⟩, .string ⟨#[]⟩] 24) = V := ⟨_, rfl⟩
  rw [hw0] at HB0 P0 ⊢
  clear hw0
  refine (rgcd_calls (.slice A L c) (.slice B M k) n d w0 (HA.out.1.below HB0.out) (HA.out.2.1.below HB0.out) HA.out.2.2.2.1 HA.out.2.2.2.2).mono ?_
  rintro e w1 ⟨G1, G2, G3, rfl, hg, hb⟩
  have H1 := Lib.hid (And.intro hg (And.intro (HB0.out.trans (hb.mono HB0.out.size)) (P0.out.below hb)))
  clear hg hb HB0 P0
  go_wp2_with fail
  have hgf : RFit 5000 (Nat.gcd n d) := HA.out.2.2.2.2.le (Nat.le_of_dvd (Nat.pos_of_ne_zero HA.out.2.2.1) (Nat.gcd_dvd_right n d))
  have HGF := Lib.hid (And.intro hgf (Nat.ne_of_gt (gcd_pos (n := n) HA.out.2.2.1)))
  clear hgf
  refine (rover_calls (.slice A L c) (.slice G1 G2 G3) n _ w1 (HA.out.1.below H1.out.2.1) H1.out.1 HA.out.2.2.2.1 HGF.out.1 HGF.out.2).mono ?_
  rintro e w2 ⟨Q1, Q2, Q3, R1, R2, R3, rfl, ⟨hq, _⟩, hb⟩
  have H2 := Lib.hid (And.intro hq (And.intro (H1.out.1.below hb) (And.intro (H1.out.2.1.trans (hb.mono H1.out.2.1.size)) (H1.out.2.2.below hb))))
  clear hq hb
  go_wp2_with fail
  refine (rover_calls (.slice B M k) (.slice G1 G2 G3) d _ w2 (HA.out.2.1.below H2.out.2.2.1) H2.out.2.1 HA.out.2.2.2.2 HGF.out.1 HGF.out.2).mono ?_
  rintro e w3 ⟨S1, S2, S3, T1, T2, T3, rfl, ⟨hq, _⟩, hb⟩
  have H3 := Lib.hid (And.intro (H2.out.1.below hb) (And.intro hq (And.intro (H2.out.2.2.1.trans (hb.mono H2.out.2.2.1.size)) (H2.out.2.2.2.below hb))))
  clear hq hb H2
  obtain ⟨e1, e2⟩ := quot_num (n := n) HA.out.2.2.1
  obtain ⟨a, ha⟩ : ∃ a, n / Nat.gcd n d = a := ⟨_, rfl⟩
  obtain ⟨b, hb⟩ : ∃ b, d / Nat.gcd n d = b := ⟨_, rfl⟩
  rw [ha] at e1 H3
  rw [hb] at e2 H3
  have hps : ps ((n : Rat) / (d : Rat)) = (nstr a, nstr b) := by unfold ps; rw [e1, e2]
  have hres : mkR ((n : Rat) / (d : Rat)) = if a < big ∧ b < big then ((nstr a, nstr b), 0) else no 4 := by
    unfold mkR fits
    rw [e1, e2, hps]
    by_cases h : a < big ∧ b < big
    · rw [if_pos h, if_pos (by simp [h.1, h.2])]
    · rw [if_neg h, if_neg (by simpa using h)]
  have HR := Lib.hid hres
  clear e1 e2 ha hb hps hres
  obtain ⟨sa, hsa⟩ : ∃ s, nstr a = s := ⟨_, rfl⟩
  obtain ⟨sb, hsb⟩ : ∃ s, nstr b = s := ⟨_, rfl⟩
  have hia := nstr_size (n := a)
  have hib := nstr_size (n := b)
  have HNA := Lib.hid (fun W h => hsa ▸ rnat_calls (.slice Q1 Q2 Q3) a W h)
  have HNB := Lib.hid (fun W h => hsb ▸ rnat_calls (.slice S1 S2 S3) b W h)
  rw [hsa] at hia HR
  rw [hsb] at hib HR
  obtain ⟨ka, hka⟩ : ∃ k, sa.size = k := ⟨_, rfl⟩
  obtain ⟨kb, hkb⟩ : ∃ k, sb.size = k := ⟨_, rfl⟩
  rw [hka] at hia
  rw [hkb] at hib
  have HK := Lib.hid (And.intro hia hib)
  clear hsa hsb hia hib
  go_wp2_with fail
  refine (HNA.out w3 H3.out.1).mono ?_
  rintro e w4 ⟨rfl, hb⟩
  have H4 := Lib.hid (And.intro (H3.out.2.1.below hb) (And.intro (H3.out.2.2.1.trans (hb.mono H3.out.2.2.1.size)) (H3.out.2.2.2.below hb)))
  clear hb
  go_wp2_with fail
  refine (HNB.out w4 H4.out.1).mono ?_
  rintro e w5 ⟨rfl, hb⟩
  have hB5 := H4.out.2.1.trans (hb.mono H4.out.2.1.size)
  have hP5 := H4.out.2.2.below hb
  have H5 := Lib.hid (And.intro (hB5.alloc hB5.size (.cells #[.string sa, .string sb] 24)) (hP5.alloc (.cells #[.string sa, .string sb] 24)))
  clear hb hB5 hP5
  obtain ⟨f1, f2, f3, f4⟩ := H5.out.2.cell
  by_cases c1 : (600 : Int) < (ka : Int)
  · have HE := Lib.hid (show mkR ((n : Rat) / (d : Rat)) = no 4 by rw [HR.out, if_neg (fun h => by have := HK.out.1.2 h.1; omega)])
    go_wp2_with fail
    refine bodyPost_ret (results_pb rfl _ rfl (H5.out.2.set _ _)) rfl ⟨by rw [HE.out]; rfl, ?_⟩
    exact (H5.out.1.setCell (p := ⟨N, 0, none⟩) (by simp; omega) _).setCell (p := ⟨N, 1, none⟩) (by simp; omega) _
  by_cases c2 : (600 : Int) < (kb : Int)
  · have HE := Lib.hid (show mkR ((n : Rat) / (d : Rat)) = no 4 by rw [HR.out, if_neg (fun h => by have := HK.out.2.2 h.2; omega)])
    go_wp2_with fail
    refine bodyPost_ret (results_pb rfl _ rfl (H5.out.2.set _ _)) rfl ⟨by rw [HE.out]; rfl, ?_⟩
    exact (H5.out.1.setCell (p := ⟨N, 0, none⟩) (by simp; omega) _).setCell (p := ⟨N, 1, none⟩) (by simp; omega) _
  have HE := Lib.hid (show mkR ((n : Rat) / (d : Rat)) = ((sa, sb), 0) by rw [HR.out, if_pos ⟨HK.out.1.1 (by omega), HK.out.2.1 (by omega)⟩])
  go_wp2_with fail
  refine bodyPost_ret (results_pb rfl _ rfl (H5.out.2.set _ _)) rfl ⟨by rw [HE.out]; rfl, ?_⟩
  exact (H5.out.1.setCell (p := ⟨N, 0, none⟩) (by simp; omega) _).setCell (p := ⟨N, 1, none⟩) (by simp; omega) _
end Go.Proofs.CW
namespace Go.Proofs.CW
open Go.RowKit Go.Shelf Go.Sort Go.Lib Go.Proofs.YtjfclkbdkafkcaaGreatDoorW.PrintWords Go.Proofs.YtjfclkbdkafkcaaGreatDoor.PF
attribute [local go_sem] Oper.semAt_some

/-- The error of two. -/
def bothR (a b : PS) : Int := max (checkR a) (checkR b)
theorem bothR_ok {a b : PS} (ha : okP a = true) (hb : okP b = true) : bothR a b = 0 := by unfold bothR; rw [checkR_ok ha, checkR_ok hb]; rfl
theorem bothR_no {a b : PS} (h : ¬ (okP a = true ∧ okP b = true)) : bothR a b = 2 := by
  unfold bothR
  by_cases ha : okP a = true
  · rw [checkR_ok ha, checkR_no (fun hb => h ⟨ha, hb⟩)]; rfl
  · rw [checkR_no ha]
    unfold checkR
    by_cases hb : okP b = true
    · rw [if_pos hb]; rfl
    · rw [if_neg hb]; rfl
theorem box3_set {w W : World} {N : Nat} {u v : Value} (h : Below w.heap.size w W) (hn : w.heap.size = N) : Below w.heap.size w ((W.setCell ⟨N + 1 + 1, 0, none⟩ u).setCell ⟨N + 1 + 1, 1, none⟩ v) :=
  (h.setCell (p := ⟨N + 1 + 1, 0, none⟩) (by show _ ≤ N + 1 + 1; omega) _).setCell (p := ⟨N + 1 + 1, 1, none⟩) (by show _ ≤ N + 1 + 1; omega) _
theorem box3_setN {w W : World} {N : Nat} {u v : Value} (h : Below w.heap.size w W) (hn : w.heap.size = N) : Below N w ((W.setCell ⟨N + 1 + 1, 0, none⟩ u).setCell ⟨N + 1 + 1, 1, none⟩ v) := by
  subst hn; exact box3_set h rfl
theorem rv_eq2 (s t : ByteArray) (x : Int) : rv ((s, t), x) = .tuple #[.agg #[.string s, .string t], .int .i64 x] := rfl
set_option maxRecDepth 100000 in
set_option maxHeartbeats 1000000 in
theorem both_calls (a b : PS) (sa : Sz a) (sb : Sz b) (w : World) :
    Calls Tryz.prog 66 #[pv a, pv b] w fun e W => e = .returned (.int .i64 (bothR a b)) ∧ Below w.heap.size w W := by
  obtain ⟨an, ad⟩ := a
  obtain ⟨bn, bd⟩ := b
  have HT := Lib.hid (And.intro sa sb)
  have h0 := Box2.new w (an, ad) (bn, bd)
  obtain ⟨N, hN⟩ : ∃ N, w.heap.size = N := ⟨_, rfl⟩
  simp only [hN] at h0
  clear sa sb
  go_enter Tryz.func66, Tryz.ntmps66
  go_wp2_with fail
  obtain ⟨W0, hW0⟩ : ∃ W0, ((w.alloc (.cells #[.string an, .string ad] 24)).alloc (.cells #[.string bn, .string bd] 24)) = W0 := ⟨_, rfl⟩
  rw [hW0] at h0 ⊢
  have HX : Hid (Box2 w W0.drew N (an, ad) (bn, bd)) := Lib.hid ⟨below_drew1 h0.bel, h0.nw, h0.bx, h0.by_⟩
  clear h0 hW0
  refine region_tail (m := 5) (BoxPS N (an, ad) (bn, bd)) 5 1 (by kernel_rfl) rfl ?_
  obtain ⟨W1, hW1⟩ : ∃ V, W0.drew = V := ⟨_, rfl⟩
  rw [hW1] at HX ⊢
  have hS := HX.out.s
  clear hW1
  refine T_take 0 _ _ rfl rfl (by kernel_rfl) (by kernel_rfl) (by kernel_rfl) (fun _ _ d _ _ h => by cases d <;> exact h) (by kernel_rfl) tail_only hS (by kernel_rfl) (fun W hW => by obtain ⟨zs1, zs2, zs3, zs4⟩ := hW; go_simp; try exact rfl) ?_
  try simp only [List.setIfInBounds_toArray, List.set_cons_zero, List.set_cons_succ]
  refine T_take 2 _ _ rfl rfl (by kernel_rfl) (by kernel_rfl) (by kernel_rfl) (fun _ _ d _ _ h => by cases d <;> exact h) (by kernel_rfl) tail_only hS (by kernel_rfl) (fun W hW => by obtain ⟨zs1, zs2, zs3, zs4⟩ := hW; go_simp; try exact rfl) ?_
  try simp only [List.setIfInBounds_toArray, List.set_cons_zero, List.set_cons_succ]
  refine T_only 1 (by kernel_rfl) rfl (by kernel_rfl) ?_
  unfold Oper.wp
  go_simp
  refine (rcheck_calls (an, ad) HT.out.1 W1).mono ?_
  rintro e W2 ⟨rfl, hb⟩
  have HY := Lib.hid (HX.out.below hb)
  clear hb
  refine ⟨HY.out.s, ?_⟩
  try simp only [List.setIfInBounds_toArray, List.set_cons_zero, List.set_cons_succ]
  refine T_only 3 (by kernel_rfl) rfl (by kernel_rfl) ?_
  unfold Oper.wp
  go_simp
  refine (rcheck_calls (bn, bd) HT.out.2 W2).mono ?_
  rintro e W3 ⟨rfl, hb⟩
  have HZ := Lib.hid (HY.out.below hb)
  clear hb
  refine ⟨HZ.out.s, ?_⟩
  try simp only [List.setIfInBounds_toArray, List.set_cons_zero, List.set_cons_succ]
  obtain ⟨x, hx⟩ : ∃ x, checkR (an, ad) = x := ⟨_, rfl⟩
  obtain ⟨y, hy⟩ : ∃ y, checkR (bn, bd) = y := ⟨_, rfl⟩
  have HE := Lib.hid (show bothR (an, ad) (bn, bd) = max x y by unfold bothR; rw [hx, hy])
  rw [hx, hy]
  clear hx hy
  refine T_only 4 (by kernel_rfl) rfl (by kernel_rfl) ?_
  unfold Oper.wp
  go_simp
  refine ⟨HZ.out.s, by kernel_rfl, ?_⟩
  try simp only [List.setIfInBounds_toArray, List.set_cons_zero, List.set_cons_succ]
  refine any_only 5 (by kernel_rfl) rfl (by kernel_rfl) ?_
  unfold Oper.wp
  go_simp
  refine any_done (by kernel_rfl) ?_
  clear hS
  go_wp2_with fail
  go_ret
  exact ⟨by rw [HE.out]; rfl, HZ.out.bel⟩
end Go.Proofs.CW
