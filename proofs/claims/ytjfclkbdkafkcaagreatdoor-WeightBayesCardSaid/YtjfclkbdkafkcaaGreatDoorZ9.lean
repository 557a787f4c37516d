/-
  Part 9 of the proof: LawD, K51.
-/
import Derived.Test.YtjfclkbdkafkcaaGreatDoorZ7
set_option linter.unusedVariables false
set_option linter.unusedSimpArgs false
namespace Go.Proofs.CW
open Go.Proofs.YtjfclkbdkafkcaaGreatDoorW.PrintWords

theorem mulR_okE {p q x : PS} (h : toE (mulR p q) = .ok x) : okP p = true ∧ okP q = true ∧ x = ps (rat p * rat q) := by
  unfold toE at h
  by_cases h0 : (mulR p q).2 = 0
  · rw [if_pos h0] at h
    injection h with h
    subst h
    unfold mulR at h0 ⊢
    by_cases hk : (okP p && okP q) = true
    · rw [if_pos hk] at h0 ⊢
      simp only [Bool.and_eq_true] at hk
      refine ⟨hk.1, hk.2, ?_⟩
      unfold mkR at h0 ⊢
      by_cases hf : fits (rat p * rat q) = true
      · rw [if_pos hf]
      · rw [if_neg hf] at h0; cases h0
    · rw [if_neg hk] at h0; cases h0
  · rw [if_neg h0] at h; cases h
theorem prodE_okE : ∀ (a b l : List PS), a.length = b.length → prodE a b = .ok l → a.all okP = true ∧ b.all okP = true ∧ l = (List.zipWith (· * ·) (a.map rat) (b.map rat)).map ps
  | [], [], l, _, h => by injection h with h; subst h; exact ⟨rfl, rfl, rfl⟩
  | p :: a, q :: b, l, hl, h => by
    rw [prodE] at h
    cases h1 : toE (mulR p q) with
    | error e => rw [h1] at h; cases h
    | ok x =>
      rw [h1] at h
      cases h2 : prodE a b with
      | error e => rw [h2] at h; cases h
      | ok r =>
        rw [h2] at h
        injection h with h
        subst h
        obtain ⟨k1, k2, k3⟩ := mulR_okE h1
        obtain ⟨k4, k5, k6⟩ := prodE_okE a b r (by simpa using hl) h2
        refine ⟨by simp [k1, k4], by simp [k2, k5], ?_⟩
        rw [k3, k6]; rfl
  | [], _ :: _, _, h, _ => by simp at h
  | _ :: _, [], _, h, _ => by simp at h
theorem sumR_valid {l : List PS} {r : PS} (h : sumR l = (r, 0)) : l.all okP = true := by
  unfold sumR at h
  by_cases h0 : listR l = 0
  · unfold listR at h0
    by_cases h1 : 512 < l.length
    · rw [if_pos h1] at h0; cases h0
    · rw [if_neg h1] at h0
      by_cases h2 : l.all okP = true
      · exact h2
      · rw [if_neg h2] at h0; cases h0
  · rw [if_neg h0] at h
    exact absurd (congrArg Prod.snd h) h0
theorem shortL_of {k : Nat} {l : List PS} (h : shortB (k : Int) l = true) : shortL k l := by
  unfold shortB at h
  rw [List.all_eq_true] at h
  intro p hp
  have := h p hp
  simp only [Bool.and_eq_true, decide_eq_true_eq] at this
  exact ⟨by omega, by omega⟩
theorem smalls_shareE {l s : List PS} {q : PS} (h : shareE l q = .ok s) : Smalls s := by
  unfold shareE at h
  by_cases h3 : q.1 = s0
  · rw [if_pos h3] at h; cases h
  · rw [if_neg h3] at h
    exact smalls_mapM (fun x y hxy => small_div hxy) h
theorem smalls_updR {a b l : List PS} {x : PS} {e : Int} (h : updR a b = (l, x, e)) : Smalls l ∧ Small x := by
  have hn : Smalls [] := fun p hp => by cases hp
  have hz : Small (⟨#[]⟩, ⟨#[]⟩) := ⟨by decide, by decide⟩
  unfold updR at h
  by_cases h0 : listsR a b = 0
  · rw [if_pos h0] at h
    unfold updE at h
    cases h1 : prodE a b with
    | error y => rw [h1] at h; simp only [bind, Except.bind] at h; injection h with h2 h3; injection h3 with h3 h4; subst h2 h3; exact ⟨hn, hz⟩
    | ok r =>
      rw [h1] at h
      simp only [bind, Except.bind] at h
      cases h2 : sumE r with
      | error y => rw [h2] at h; injection h with h2 h3; injection h3 with h3 h4; subst h2 h3; exact ⟨hn, hz⟩
      | ok q =>
        rw [h2] at h
        simp only [] at h
        cases h3 : shareE r q with
        | error y => rw [h3] at h; injection h with h2 h3; injection h3 with h3 h4; subst h2 h3; exact ⟨hn, hz⟩
        | ok s =>
          rw [h3] at h
          injection h with h4 h5
          injection h5 with h5 h6
          subst h4 h5
          exact ⟨smalls_shareE h3, small_sum h2⟩
  · rw [if_neg h0] at h
    injection h with h2 h3
    injection h3 with h3 h4
    subst h2 h3
    exact ⟨hn, hz⟩
theorem shareE_len {l s : List PS} {q : PS} (h : shareE l q = .ok s) : s.length = l.length := by
  unfold shareE at h
  by_cases h3 : q.1 = s0
  · rw [if_pos h3] at h; cases h
  · rw [if_neg h3] at h
    exact mapM_length l h
/-- How long what comes out is. -/
theorem updR_len {a b l : List PS} {x : PS} {e : Int} (h : updR a b = (l, x, e)) (hl : a.length = b.length) : l.length ≤ a.length := by
  unfold updR at h
  by_cases h0 : listsR a b = 0
  · rw [if_pos h0] at h
    unfold updE at h
    cases h1 : prodE a b with
    | error y => rw [h1] at h; simp only [bind, Except.bind] at h; injection h with h2 h3; subst h2; exact Nat.zero_le _
    | ok r =>
      rw [h1] at h
      simp only [bind, Except.bind] at h
      cases h2 : sumE r with
      | error y => rw [h2] at h; injection h with h2 h3; subst h2; exact Nat.zero_le _
      | ok q =>
        rw [h2] at h
        simp only [] at h
        cases h3 : shareE r q with
        | error y => rw [h3] at h; injection h with h2 h3; subst h2; exact Nat.zero_le _
        | ok s =>
          rw [h3] at h
          injection h with h4 h5
          subst h4
          rw [shareE_len h3, prodE_length a b hl h1]
          exact Nat.le_refl _
  · rw [if_neg h0] at h
    injection h with h2 h3
    subst h2
    exact Nat.zero_le _
theorem bayes_lawS {prior one two both : List PS} {r : PS} (h1 : one.length = prior.length) (h2 : two.length = prior.length) (hl : prior.length ≤ 6) (hs : sumR prior = (r, 0)) (hp : prodE one two = .ok both)
    (sp : shortB 12 prior = true) (so : shortB 12 one = true) (st : shortB 12 two = true) : BayesL prior one two both := by
  obtain ⟨k1, k2, k3⟩ := prodE_okE one two both (by omega) hp
  exact bayes_law h1 h2 hl (sumR_valid hs) k1 k2 (shortL_of (k := 12) sp) (shortL_of (k := 12) so) (shortL_of (k := 12) st) k3
theorem bytes_inj2 {a b : ByteArray} (h : a.toList = b.toList) : a = b := by
  rw [ByteArray.toList_eq, ByteArray.toList_eq] at h
  exact ByteArray.ext (Array.toList_inj.1 h)
/-- A part that is not 1. -/
theorem not_one {s t : ByteArray} (h : ¬ ((s, t) : PS) = p1) : ¬ s.toList = s1.toList ∨ (s = s1 ∧ ¬ t.toList = s1.toList) := by
  by_cases k1 : s.toList = s1.toList
  · have e1 : s = s1 := bytes_inj2 k1
    refine .inr ⟨e1, fun k2 => h ?_⟩
    have e2 : t = s1 := bytes_inj2 k2
    rw [e1, e2]; rfl
  · exact .inl k1
theorem r11b : (ratioR 1 1).1 = p1 := by decide +kernel
end Go.Proofs.CW
namespace Go.Proofs.CW
open Go.RowKit Go.Shelf Go.Sort Go.Lib Go.Proofs.YtjfclkbdkafkcaaGreatDoorW.PrintWords Go.Proofs.YtjfclkbdkafkcaaGreatDoor.PF
attribute [local go_sem] Oper.semAt_some

abbrev BoxQ (N : Nat) (s t : ByteArray) (W : World) : Prop := W.cell? ⟨N, 0, none⟩ = some (.string s) ∧ W.cell? ⟨N, 1, none⟩ = some (.string t)
theorem BoxQ.below {N : Nat} {s t : ByteArray} {W W' : World} (h : BoxQ N s t W) (hb : Below W.heap.size W W') : BoxQ N s t W' := ⟨(hb.cell (cell_lt h.1)).trans h.1, (hb.cell (cell_lt h.2)).trans h.2⟩
section
variable {P : Program} {md : Region.Mode} {ops : Array Oper} {Q : Exit → Act → World → Prop} {S : World → Prop} {T : Array Bool → Act → World → Prop}
/-- The one operation that may come up is guarded off. -/
theorem T_skip {fuel : Nat} (i : Nat) {o : Oper} {listed : Array Bool} {a : Act} {w : World} (hr : Region.ready md ops listed = [i]) (hi : ops[i]? = some o)
    (hw : Region.wanted o (yielded ops a.tmps) = false) (hS : S w) (h : wpAnyT P md ops Q S T fuel (listed.setIfInBounds i true) (a.put o.dst undef) w) : wpAnyT P md ops Q S T (fuel + 1) listed a w := by
  refine ⟨by rw [hr]; simp, fun j hj => ?_⟩
  rw [hr, List.mem_singleton] at hj
  rw [hj]
  unfold wpOp
  simp only [hi, hw]
  exact ⟨hS, h⟩
/-- .. two of them. -/
theorem T_skip2 {fuel : Nat} (i j : Nat) {o u : Oper} {listed : Array Bool} {a : Act} {w : World} (hr : Region.ready md ops listed = [i, j]) (hi : ops[i]? = some o) (hj : ops[j]? = some u)
    (hw : Region.wanted o (yielded ops a.tmps) = false) (hv : Region.wanted u (yielded ops a.tmps) = false) (hS : S w) (h : wpAnyT P md ops Q S T fuel (listed.setIfInBounds i true) (a.put o.dst undef) w) (h2 : wpAnyT P md ops Q S T fuel (listed.setIfInBounds j true) (a.put u.dst undef) w) : wpAnyT P md ops Q S T (fuel + 1) listed a w := by
  refine ⟨by rw [hr]; simp, fun k hk => ?_⟩
  rw [hr] at hk
  rcases List.mem_cons.1 hk with rfl | hk
  · unfold wpOp
    simp only [hi, hw]
    exact ⟨hS, h⟩
  · rw [List.mem_singleton] at hk
    subst hk
    unfold wpOp
    simp only [hj, hv]
    exact ⟨hS, h2⟩
end
set_option maxRecDepth 100000 in
set_option maxHeartbeats 16000000 in
theorem bayes_walk (A B C : Option Addr) (ca cb cc : Nat) (prior one two : List PS) (sa : Smalls prior) (sb : Smalls one) (sc : Smalls two) (la : prior.length ≤ 9223372036854775807) (lb : one.length ≤ 9223372036854775807) (lc : two.length ≤ 9223372036854775807)
    (w : World) (ht : Tab w) (hca : Kd.C kP w A prior.length prior) (hcb : Kd.C kP w B one.length one) (hcc : Kd.C kP w C two.length two) :
    Calls Tryz.prog 5 #[.slice A prior.length ca, .slice B one.length cb, .slice C two.length cc] w fun e W => e = .returned (.bool true) ∧ Below w.heap.size w W := by
  have HT := Lib.hid ht
  have HC := Lib.hid (And.intro hca (And.intro hcb hcc))
  have HSM := Lib.hid (And.intro sa (And.intro sb sc))
  have HL := Lib.hid (And.intro la (And.intro lb lc))
  have HA := Lib.hid (alive_calls w ht)
  obtain ⟨n, hn⟩ : ∃ n, prior.length = n := ⟨_, rfl⟩
  obtain ⟨n1, hn1⟩ : ∃ n, one.length = n := ⟨_, rfl⟩
  obtain ⟨n2, hn2⟩ : ∃ n, two.length = n := ⟨_, rfl⟩
  rw [hn, hn1, hn2]
  have HN0 := Lib.hid (And.intro hn (And.intro hn1 hn2))
  clear hn hn1 hn2 ht hca hcb hcc sa sb sc la lb lc
  go_enter Tryz.func5, Tryz.ntmps5
  go_wp2_with fail
  refine HA.out.mono ?_
  rintro e W1 ⟨rfl, hb⟩
  have B1 := Lib.hid hb
  clear hb
  by_cases h6 : (6 : Int) < (n : Int)
  · go_wp2_with fail
    go_ret
    exact ⟨rfl, B1.out⟩
  by_cases e1 : n1 = n
  case neg =>
    have e1i : ¬ (n1 : Int) = (n : Int) := by omega
    go_wp2_with fail
    go_ret
    exact ⟨rfl, B1.out⟩
  have e1' := e1.symm
  subst e1'
  by_cases e2 : n2 = n
  case neg =>
    have e1i : ¬ (n2 : Int) = (n : Int) := by omega
    go_wp2_with fail
    go_ret
    exact ⟨rfl, B1.out⟩
  have e2' := e2.symm
  subst e2'
  have k6 : decide ((6 : Int) < (n : Int)) = false := decide_eq_false h6
  have H6 := Lib.hid (show n ≤ 6 by omega)
  have HN := Lib.hid (show prior.length = n ∧ one.length = n ∧ two.length = n from HN0.out)
  clear HN0
  have HS0 := Lib.hid (short_list 12 A ca prior HL.out.1 HSM.out.1 W1 (Kd.C_below HC.out.1 B1.out))
  rw [HN.out.1] at HS0
  go_wp2_with fail
  refine HS0.out.mono ?_
  rintro e W2 ⟨rfl, hb⟩
  have B2 := Lib.hid (B1.out.trans (hb.mono B1.out.size))
  clear hb
  by_cases hsh : shortB 12 prior = true
  case neg =>
    have hsf : shortB 12 prior = false := by simpa using hsh
    rw [hsf]
    clear hsh hsf
    go_wp2_with fail
    go_ret
    exact ⟨rfl, B2.out⟩
  rw [hsh]
  have HSS0 := Lib.hid hsh
  clear hsh HS0
  have HS1 := Lib.hid (short_list 12 B cb one HL.out.2.1 HSM.out.2.1 W2 (Kd.C_below HC.out.2.1 B2.out))
  rw [HN.out.2.1] at HS1
  go_wp2_with fail
  refine HS1.out.mono ?_
  rintro e W3 ⟨rfl, hb⟩
  have B3 := Lib.hid (B2.out.trans (hb.mono B2.out.size))
  clear hb
  by_cases hsh : shortB 12 one = true
  case neg =>
    have hsf : shortB 12 one = false := by simpa using hsh
    rw [hsf]
    clear hsh hsf
    go_wp2_with fail
    go_ret
    exact ⟨rfl, B3.out⟩
  rw [hsh]
  have HSS1 := Lib.hid hsh
  clear hsh HS1
  have HS2 := Lib.hid (short_list 12 C cc two HL.out.2.2 HSM.out.2.2 W3 (Kd.C_below HC.out.2.2 B3.out))
  rw [HN.out.2.2] at HS2
  go_wp2_with fail
  refine HS2.out.mono ?_
  rintro e W4 ⟨rfl, hb⟩
  have B4 := Lib.hid (B3.out.trans (hb.mono B3.out.size))
  clear hb
  by_cases hsh : shortB 12 two = true
  case neg =>
    have hsf : shortB 12 two = false := by simpa using hsh
    rw [hsf]
    clear hsh hsf
    go_wp2_with fail
    go_ret
    exact ⟨rfl, B4.out⟩
  rw [hsh]
  have HSS2 := Lib.hid hsh
  clear hsh HS2
  have HSU := Lib.hid (sum_api A ca prior HSM.out.1 (by have := HN.out.1; have := H6.out; omega) W4 (HT.out.below B4.out) (Kd.C_below HC.out.1 B4.out))
  rw [HN.out.1] at HSU
  go_wp2_with fail
  refine HSU.out.mono ?_
  rintro e W5 ⟨rfl, hb⟩
  obtain ⟨su, sv, sx, hsum⟩ : ∃ s t x, sumR prior = ((s, t), x) := ⟨_, _, _, rfl⟩
  rw [hsum]
  have B5 := Lib.hid (B4.out.trans (hb.mono B4.out.size))
  clear hb HSU
  obtain ⟨b5, p5, b6⟩ := box_step B5.out su sv
  have B6 := Lib.hid b5
  have P6 := Lib.hid p5
  have HSUM := Lib.hid hsum
  clear hsum b5 p5 b6
  simp only [rv_eq]
  go_wp2_with fail
  obtain ⟨V0, hV0⟩ : ∃ V, W5.alloc (.cells #[.string su, .string sv] 24) = V := ⟨_, rfl⟩
  rw [hV0] at B6 P6 ⊢
  obtain ⟨N0, hN0⟩ : ∃ N, W5.heap.size = N := ⟨_, rfl⟩
  rw [hN0] at P6 ⊢
  clear hV0 hN0 h6 k6
  by_cases hx : sx = 0
  case neg =>
    have hx2 : (sx != 0) = true := by simpa using hx
    refine region_tail (m := 6) (fun _ => True) 6 1 (by kernel_rfl) rfl ?_
    refine T_only 0 (by kernel_rfl) rfl (by kernel_rfl) ?_
    unfold Oper.wp
    go_simp
    try refine ⟨trivial, ?_⟩
    try simp only [List.setIfInBounds_toArray, List.set_cons_zero, List.set_cons_succ]
    refine T_only 1 (by kernel_rfl) rfl (by kernel_rfl) ?_
    unfold Oper.wp
    go_simp
    try simp only [hx2]
    try refine ⟨trivial, ?_⟩
    try simp only [List.setIfInBounds_toArray, List.set_cons_zero, List.set_cons_succ]
    refine T_only 2 (by kernel_rfl) rfl (by kernel_rfl) ?_
    unfold Oper.wp
    go_simp
    try refine ⟨trivial, ?_⟩
    try simp only [List.setIfInBounds_toArray, List.set_cons_zero, List.set_cons_succ]
    refine T_skip2 3 4 (by kernel_rfl) rfl rfl (by kernel_rfl) (by kernel_rfl) trivial ?_ ?_
    all_goals simp only [Act.put, List.setIfInBounds_toArray, List.set_cons_zero, List.set_cons_succ]
    · refine T_skip 4 (by kernel_rfl) rfl (by kernel_rfl) trivial ?_
      simp only [Act.put, List.setIfInBounds_toArray, List.set_cons_zero, List.set_cons_succ]
      refine T_skip 5 (by kernel_rfl) rfl (by kernel_rfl) trivial ?_
      simp only [Act.put, List.setIfInBounds_toArray, List.set_cons_zero, List.set_cons_succ]
      refine ⟨by kernel_rfl, ?_⟩
      refine any_only 6 (by kernel_rfl) rfl (by kernel_rfl) ?_
      unfold Oper.wp
      go_simp
      refine any_done (by kernel_rfl) ?_
      go_wp2_with fail
      go_ret
      exact ⟨rfl, below_drew1 B6.out⟩
    · refine T_skip 3 (by kernel_rfl) rfl (by kernel_rfl) trivial ?_
      simp only [Act.put, List.setIfInBounds_toArray, List.set_cons_zero, List.set_cons_succ]
      refine T_skip 5 (by kernel_rfl) rfl (by kernel_rfl) trivial ?_
      simp only [Act.put, List.setIfInBounds_toArray, List.set_cons_zero, List.set_cons_succ]
      refine ⟨by kernel_rfl, ?_⟩
      refine any_only 6 (by kernel_rfl) rfl (by kernel_rfl) ?_
      unfold Oper.wp
      go_simp
      refine any_done (by kernel_rfl) ?_
      go_wp2_with fail
      go_ret
      exact ⟨rfl, below_drew1 B6.out⟩
  subst hx
  have hS0 : BoxQ N0 su sv V0.drew := ⟨P6.out.cell.1, P6.out.cell.2.1⟩
  have B7 := Lib.hid (below_drew1 B6.out)
  have H11 := Lib.hid (fun W (hb : Below w.heap.size w W) => r11b ▸ lawof_calls 1 1 (by omega) (by omega) (by omega) (by omega) W (HT.out.below hb))
  refine region_tail (m := 5) (BoxQ N0 su sv) 5 2 (by kernel_rfl) rfl ?_
  obtain ⟨V1, hV1⟩ : ∃ V, V0.drew = V := ⟨_, rfl⟩
  rw [hV1] at hS0 B7 ⊢
  clear hV1
  refine T_only 0 (by kernel_rfl) rfl (by kernel_rfl) ?_
  unfold Oper.wp
  go_simp
  refine ⟨hS0, ?_⟩
  try simp only [List.setIfInBounds_toArray, List.set_cons_zero, List.set_cons_succ]
  refine T_only 1 (by kernel_rfl) rfl (by kernel_rfl) ?_
  unfold Oper.wp
  go_simp
  refine ⟨hS0, ?_⟩
  try simp only [List.setIfInBounds_toArray, List.set_cons_zero, List.set_cons_succ]
  refine T_only 2 (by kernel_rfl) rfl (by kernel_rfl) ?_
  unfold Oper.wp
  go_simp
  refine ⟨hS0, ?_⟩
  try simp only [List.setIfInBounds_toArray, List.set_cons_zero, List.set_cons_succ]
  refine T_take 3 _ _ rfl rfl (by kernel_rfl) (by kernel_rfl) (by kernel_rfl) (fun _ _ d _ _ h => by cases d <;> exact h) (by kernel_rfl) tail_only hS0 (by kernel_rfl) (fun W hW => by obtain ⟨zs1, zs2⟩ := hW; go_simp; try exact rfl) ?_
  try simp only [List.setIfInBounds_toArray, List.set_cons_zero, List.set_cons_succ]
  refine T_only 4 (by kernel_rfl) rfl (by kernel_rfl) ?_
  unfold Oper.wp
  go_simp
  refine (H11.out V1 B7.out).mono ?_
  rintro e V2 ⟨rfl, hb⟩
  have hS1 := hS0.below hb
  have B8 := Lib.hid (B7.out.trans (hb.mono B7.out.size))
  clear hb hS0
  unfold pv p1
  refine ⟨hS1, by kernel_rfl, ?_⟩
  try simp only [List.setIfInBounds_toArray, List.set_cons_zero, List.set_cons_succ]
  by_cases hone : ((su, sv) : PS) = p1
  case neg =>
    rcases not_one hone with k | ⟨k1, k2⟩
    · skip
      refine any_only 5 (by kernel_rfl) rfl (by kernel_rfl) ?_
      unfold Oper.wp
      go_simp
      refine any_only 6 (by kernel_rfl) rfl (by kernel_rfl) ?_
      unfold Oper.wp
      go_simp
      refine any_done (by kernel_rfl) ?_
      go_wp2_with fail
      go_ret
      exact ⟨rfl, B8.out⟩
    · subst k1
      refine any_only 5 (by kernel_rfl) rfl (by kernel_rfl) ?_
      unfold Oper.wp
      go_simp
      refine any_only 6 (by kernel_rfl) rfl (by kernel_rfl) ?_
      unfold Oper.wp
      go_simp
      refine any_done (by kernel_rfl) ?_
      go_wp2_with fail
      go_ret
      exact ⟨rfl, B8.out⟩
  injection hone with h1 h2
  subst h1 h2
  refine any_only 5 (by kernel_rfl) rfl (by kernel_rfl) ?_
  unfold Oper.wp
  go_simp
  refine any_only 6 (by kernel_rfl) rfl (by kernel_rfl) ?_
  unfold Oper.wp
  go_simp
  refine any_done (by kernel_rfl) ?_
  clear hS1 P6 B6 B7
  have HSV := Lib.hid (show sumR prior = ((s1, s1), 0) from HSUM.out)
  clear HSUM
  go_wp2_with fail
  obtain ⟨i0, hi0, hz0, hz1, hz2⟩ := info_parts info_part
  go_loopg [10, 86] n (fun k s10 s86 wr => ∃ (i : Nat) (r : List PS), s86 = .int .i64 i ∧ i ≤ n ∧ Hid (i + k = n ∧ prodE (one.take i) (two.take i) = .ok r ∧ OwnP wr w.heap.size s10 r ∧ Below w.heap.size w wr))
  case atStart => exact ⟨0, [], rfl, Nat.zero_le _, Lib.hid ⟨by simp, rfl, ownP_nil _ _, B8.out⟩⟩
  case round =>
    obtain ⟨i, r, rfl, hi, HI⟩ := hrel
    by_cases hlt : i < n
    case neg =>
      obtain rfl : n = i := by omega
      have HE := Lib.hid (show prodE one two = .ok r by
        have := HI.out.2.1
        rwa [List.take_of_length_le (by have := HN.out.2.1; omega), List.take_of_length_le (by have := HN.out.2.2; omega)] at this)
      have HO := Lib.hid (And.intro HI.out.2.2.1 HI.out.2.2.2)
      obtain ⟨l1, xn, xd, xe, hu1⟩ : ∃ l s t x, updR prior one = (l, (s, t), x) := ⟨_, _, _, _, rfl⟩
      obtain ⟨l2, zn, zd, ze, hu2⟩ : ∃ l s t x, updR prior r = (l, (s, t), x) := ⟨_, _, _, _, rfl⟩
      have HLAW := Lib.hid (bayes_lawS (by have := HN.out; omega) (by have := HN.out; omega) (by have := HN.out; have := H6.out; omega) HSV.out HE.out HSS0.out HSS1.out HSS2.out).ex
      have HU12 := Lib.hid (And.intro hu1 hu2)
      clear hu1 hu2
      have hrl := prodE_length one two (by have := HN.out; omega) HE.out
      have HNr := Lib.hid (show r.length = n by have := HN.out; omega)
      have HSr := Lib.hid (smalls_prod HE.out)
      obtain ⟨Ar, cr, e10, hcr, _, _⟩ := ownP_C HO.out.1
      subst e10
      rw [HNr.out]
      have HK0 := Lib.hid hcr
      have HB := Lib.hid HO.out.2
      have HP := Lib.hid (PBs.nil wr)
      obtain ⟨m1, hm1⟩ : ∃ m, l1.length = m := ⟨_, rfl⟩
      obtain ⟨m2, hm2⟩ : ∃ m, l2.length = m := ⟨_, rfl⟩
      have HN1 := Lib.hid hm1
      have HN2 := Lib.hid hm2
      have HS1 := Lib.hid (smalls_updR HU12.out.1)
      have HS2 := Lib.hid (smalls_updR HU12.out.2)
      clear hi HI hrl hcr HO hm1 hm2
      go_wp2_with fail
      have HU := Lib.hid (update_calls A B ca cb prior one HSM.out.1 HSM.out.2.1 (by have := HN.out.1; have := H6.out; have := HN.out; omega) (by have := HN.out.2.1; have := H6.out; have := HN.out; omega) wr (HT.out.below HB.out) (Kd.C_below HC.out.1 HB.out) (Kd.C_below HC.out.2.1 HB.out))
      rw [HN.out.1, HN.out.2.1] at HU
      refine HU.out.mono ?_
      rintro e U1 ⟨hv, hb⟩
      rw [HU12.out.1] at hv
      obtain ⟨v, rfl, ho⟩ := hv
      obtain ⟨A1, c1, rfl, hc1, _, _⟩ := ownP_C ho
      clear ho HU
      rw [HN1.out]
      have HP2 := (HP.out.below hb).box xn xd
      have HB2 := (HB.out.trans (hb.mono HB.out.size)).alloc (HB.out.trans (hb.mono HB.out.size)).size (.cells #[.string xn, .string xd] 24)
      have hk0 := Kd.C_below (Kd.C_below HK0.out hb) (alloc_below U1 (.cells #[.string xn, .string xd] 24))
      have hk1 := Kd.C_below hc1 (alloc_below U1 (.cells #[.string xn, .string xd] 24))
      clear hc1
      try clear f0a f0b
      try clear f1a f1b
      try clear f2a f2b
      try clear f3a f3b
      try clear f4a f4b
      try clear f5a f5b
      clear HP HB hb HK0
      have HP := Lib.hid HP2
      have HB := Lib.hid HB2
      clear HP2 HB2
      have HK0 := Lib.hid hk0
      clear hk0
      have HK1 := Lib.hid hk1
      clear hk1
      simp only [pv_eq]
      go_wp2_with fail
      obtain ⟨M1, hM1⟩ : ∃ N, U1.heap.size = N := ⟨_, rfl⟩
      obtain ⟨X1, hV⟩ : ∃ V, U1.alloc (.cells #[.string xn, .string xd] 24) = V := ⟨_, rfl⟩
      rw [hV, hM1] at HP
      rw [hV] at HB HK0 HK1 ⊢
      try rw [hM1]
      clear hV hM1
      have HU := Lib.hid (update_calls A Ar ca cr prior r HSM.out.1 HSr.out (by have := HN.out.1; have := H6.out; have := HN.out; omega) (by have := HNr.out; have := H6.out; have := HN.out; omega) X1 (HT.out.below HB.out) (Kd.C_below HC.out.1 HB.out) HK0.out)
      rw [HN.out.1, HNr.out] at HU
      refine HU.out.mono ?_
      rintro e U2 ⟨hv, hb⟩
      rw [HU12.out.2] at hv
      obtain ⟨v, rfl, ho⟩ := hv
      obtain ⟨A2, c2, rfl, hc2, _, _⟩ := ownP_C ho
      clear ho HU
      rw [HN2.out]
      have HP2 := (HP.out.below hb).box zn zd
      have HB2 := (HB.out.trans (hb.mono HB.out.size)).alloc (HB.out.trans (hb.mono HB.out.size)).size (.cells #[.string zn, .string zd] 24)
      have hk0 := Kd.C_below (Kd.C_below HK0.out hb) (alloc_below U2 (.cells #[.string zn, .string zd] 24))
      have hk1 := Kd.C_below (Kd.C_below HK1.out hb) (alloc_below U2 (.cells #[.string zn, .string zd] 24))
      have hk2 := Kd.C_below hc2 (alloc_below U2 (.cells #[.string zn, .string zd] 24))
      clear hc2
      try clear f0a f0b
      try clear f1a f1b
      try clear f2a f2b
      try clear f3a f3b
      try clear f4a f4b
      try clear f5a f5b
      clear HP HB hb HK0 HK1
      have HP := Lib.hid HP2
      have HB := Lib.hid HB2
      clear HP2 HB2
      have HK0 := Lib.hid hk0
      clear hk0
      have HK1 := Lib.hid hk1
      clear hk1
      have HK2 := Lib.hid hk2
      clear hk2
      simp only [pv_eq]
      rcases HLAW.out with ⟨e1, e2, q1, q2, q3, q4⟩ | ⟨a, x, c, z, b, y, d, ww, ii, v, xy, wv, q1, hq⟩
      · have hxe : xe = 7 := by rw [HU12.out.1] at q1; rw [← q1] at q3; exact q3
        have hze : ze = 7 := by rw [HU12.out.2] at q2; rw [← q2] at q4; exact q4
        clear q1 q2 q3 q4
        subst hxe hze
        go_wp2_with fail
        go_ret
        exact ⟨rfl, HB.out⟩
      rw [HU12.out.1] at q1
      injection q1 with q1 q5
      injection q5 with q5 q6
      subst q1 q5 q6
      obtain ⟨l3, yn, yd, ye, hu3⟩ : ∃ l s t x, updR l1 two = (l, (s, t), x) := ⟨_, _, _, _, rfl⟩
      obtain ⟨m3, hm3⟩ : ∃ m, l3.length = m := ⟨_, rfl⟩
      have HU3 := Lib.hid hu3
      have HN3 := Lib.hid hm3
      have HS3 := Lib.hid (smalls_updR hu3)
      have HL1 := Lib.hid (updR_len HU12.out.1 (by have := HN.out; omega))
      clear hu3 hm3
      go_wp2_with fail
      obtain ⟨M2, hM2⟩ : ∃ N, U2.heap.size = N := ⟨_, rfl⟩
      obtain ⟨X2, hV⟩ : ∃ V, U2.alloc (.cells #[.string zn, .string zd] 24) = V := ⟨_, rfl⟩
      rw [hV, hM2] at HP
      rw [hV] at HB HK0 HK1 HK2 ⊢
      try rw [hM2]
      clear hV hM2
      have HU := Lib.hid (update_calls A1 C c1 cc l1 two HS1.out.1 HSM.out.2.2 (by have := HN1.out; have := H6.out; have := HN.out; have := HL1.out; omega) (by have := HN.out.2.2; have := H6.out; have := HN.out; omega) X2 (HT.out.below HB.out) HK1.out (Kd.C_below HC.out.2.2 HB.out))
      rw [HN1.out, HN.out.2.2] at HU
      refine HU.out.mono ?_
      rintro e U3 ⟨hv, hb⟩
      rw [HU3.out] at hv
      obtain ⟨v, rfl, ho⟩ := hv
      obtain ⟨A3, c3, rfl, hc3, _, _⟩ := ownP_C ho
      clear ho HU
      rw [HN3.out]
      have HP2 := (HP.out.below hb).box yn yd
      have HB2 := (HB.out.trans (hb.mono HB.out.size)).alloc (HB.out.trans (hb.mono HB.out.size)).size (.cells #[.string yn, .string yd] 24)
      have hk0 := Kd.C_below (Kd.C_below HK0.out hb) (alloc_below U3 (.cells #[.string yn, .string yd] 24))
      have hk1 := Kd.C_below (Kd.C_below HK1.out hb) (alloc_below U3 (.cells #[.string yn, .string yd] 24))
      have hk2 := Kd.C_below (Kd.C_below HK2.out hb) (alloc_below U3 (.cells #[.string yn, .string yd] 24))
      have hk3 := Kd.C_below hc3 (alloc_below U3 (.cells #[.string yn, .string yd] 24))
      clear hc3
      try clear f0a f0b
      try clear f1a f1b
      try clear f2a f2b
      try clear f3a f3b
      try clear f4a f4b
      try clear f5a f5b
      clear HP HB hb HK0 HK1 HK2
      have HP := Lib.hid HP2
      have HB := Lib.hid HB2
      clear HP2 HB2
      have HK0 := Lib.hid hk0
      clear hk0
      have HK1 := Lib.hid hk1
      clear hk1
      have HK2 := Lib.hid hk2
      clear hk2
      have HK3 := Lib.hid hk3
      clear hk3
      simp only [pv_eq]
      rcases hq with ⟨q2, q3⟩ | ⟨q2, q3, q4, q5, q6, q7, q8, q9, q10, q11⟩
      · rw [HU12.out.2] at q2
        rw [HU3.out] at q3
        injection q2 with q21 q22
        injection q22 with q22 q23
        injection q3 with q31 q32
        injection q32 with q32 q33
        clear q21 q22 q31 q32
        subst q23 q33
        go_wp2_with fail
        go_ret
        exact ⟨rfl, HB.out⟩
      rw [HU12.out.2] at q2
      rw [HU3.out] at q3
      injection q2 with q21 q22
      injection q22 with q22 q23
      injection q3 with q31 q32
      injection q32 with q32 q33
      subst q21 q22 q23 q31 q32 q33
      subst q8 q9 q10 q11
      obtain ⟨wn, wd⟩ := ww
      obtain ⟨vn, vd⟩ := v
      have e23 : m2 = m3 := HN2.out.symm.trans HN3.out
      subst e23
      obtain ⟨m4, hm4⟩ : ∃ m, d.length = m := ⟨_, rfl⟩
      have HN4 := Lib.hid hm4
      have HS4 := Lib.hid (smalls_updR q4)
      have HS5 := Lib.hid (smalls_updR q5)
      have HL4 := Lib.hid (updR_len q4 (by have := HN.out; omega))
      have HQ := Lib.hid (And.intro q4 (And.intro q5 (And.intro q6 q7)))
      clear hm4 q4 q5 q6 q7
      go_wp2_with fail
      obtain ⟨M3, hM3⟩ : ∃ N, U3.heap.size = N := ⟨_, rfl⟩
      obtain ⟨X3, hV⟩ : ∃ V, U3.alloc (.cells #[.string yn, .string yd] 24) = V := ⟨_, rfl⟩
      rw [hV, hM3] at HP
      rw [hV] at HB HK0 HK1 HK2 HK3 ⊢
      try rw [hM3]
      clear hV hM3
      have HU := Lib.hid (update_calls A C ca cc prior two HSM.out.1 HSM.out.2.2 (by have := HN.out.1; have := H6.out; have := HN.out; omega) (by have := HN.out.2.2; have := H6.out; have := HN.out; omega) X3 (HT.out.below HB.out) (Kd.C_below HC.out.1 HB.out) (Kd.C_below HC.out.2.2 HB.out))
      rw [HN.out.1, HN.out.2.2] at HU
      refine HU.out.mono ?_
      rintro e U4 ⟨hv, hb⟩
      rw [HQ.out.1] at hv
      obtain ⟨v, rfl, ho⟩ := hv
      obtain ⟨A4, c4, rfl, hc4, _, _⟩ := ownP_C ho
      clear ho HU
      rw [HN4.out]
      have HP2 := (HP.out.below hb).box wn wd
      have HB2 := (HB.out.trans (hb.mono HB.out.size)).alloc (HB.out.trans (hb.mono HB.out.size)).size (.cells #[.string wn, .string wd] 24)
      have hk0 := Kd.C_below (Kd.C_below HK0.out hb) (alloc_below U4 (.cells #[.string wn, .string wd] 24))
      have hk1 := Kd.C_below (Kd.C_below HK1.out hb) (alloc_below U4 (.cells #[.string wn, .string wd] 24))
      have hk2 := Kd.C_below (Kd.C_below HK2.out hb) (alloc_below U4 (.cells #[.string wn, .string wd] 24))
      have hk3 := Kd.C_below (Kd.C_below HK3.out hb) (alloc_below U4 (.cells #[.string wn, .string wd] 24))
      have hk4 := Kd.C_below hc4 (alloc_below U4 (.cells #[.string wn, .string wd] 24))
      clear hc4
      try clear f0a f0b
      try clear f1a f1b
      try clear f2a f2b
      try clear f3a f3b
      try clear f4a f4b
      try clear f5a f5b
      clear HP HB hb HK0 HK1 HK2 HK3
      have HP := Lib.hid HP2
      have HB := Lib.hid HB2
      clear HP2 HB2
      have HK0 := Lib.hid hk0
      clear hk0
      have HK1 := Lib.hid hk1
      clear hk1
      have HK2 := Lib.hid hk2
      clear hk2
      have HK3 := Lib.hid hk3
      clear hk3
      have HK4 := Lib.hid hk4
      clear hk4
      simp only [pv_eq]
      go_wp2_with fail
      obtain ⟨M4, hM4⟩ : ∃ N, U4.heap.size = N := ⟨_, rfl⟩
      obtain ⟨X4, hV⟩ : ∃ V, U4.alloc (.cells #[.string wn, .string wd] 24) = V := ⟨_, rfl⟩
      rw [hV, hM4] at HP
      rw [hV] at HB HK0 HK1 HK2 HK3 HK4 ⊢
      try rw [hM4]
      clear hV hM4
      have HU := Lib.hid (update_calls A4 B c4 cb d one HS4.out.1 HSM.out.2.1 (by have := HN4.out; have := H6.out; have := HN.out; have := HL4.out; omega) (by have := HN.out.2.1; have := H6.out; have := HN.out; omega) X4 (HT.out.below HB.out) HK4.out (Kd.C_below HC.out.2.1 HB.out))
      rw [HN4.out, HN.out.2.1] at HU
      refine HU.out.mono ?_
      rintro e U5 ⟨hv, hb⟩
      rw [HQ.out.2.1] at hv
      obtain ⟨v, rfl, ho⟩ := hv
      obtain ⟨A5, c5, rfl, hc5, _, _⟩ := ownP_C ho
      clear ho HU
      rw [HN2.out]
      have HP2 := (HP.out.below hb).box vn vd
      have HB2 := (HB.out.trans (hb.mono HB.out.size)).alloc (HB.out.trans (hb.mono HB.out.size)).size (.cells #[.string vn, .string vd] 24)
      have hk0 := Kd.C_below (Kd.C_below HK0.out hb) (alloc_below U5 (.cells #[.string vn, .string vd] 24))
      have hk1 := Kd.C_below (Kd.C_below HK1.out hb) (alloc_below U5 (.cells #[.string vn, .string vd] 24))
      have hk2 := Kd.C_below (Kd.C_below HK2.out hb) (alloc_below U5 (.cells #[.string vn, .string vd] 24))
      have hk3 := Kd.C_below (Kd.C_below HK3.out hb) (alloc_below U5 (.cells #[.string vn, .string vd] 24))
      have hk4 := Kd.C_below (Kd.C_below HK4.out hb) (alloc_below U5 (.cells #[.string vn, .string vd] 24))
      have hk5 := Kd.C_below hc5 (alloc_below U5 (.cells #[.string vn, .string vd] 24))
      clear hc5
      try clear f0a f0b
      try clear f1a f1b
      try clear f2a f2b
      try clear f3a f3b
      try clear f4a f4b
      try clear f5a f5b
      clear HP HB hb HK0 HK1 HK2 HK3 HK4
      have HP := Lib.hid HP2
      have HB := Lib.hid HB2
      clear HP2 HB2
      have HK0 := Lib.hid hk0
      clear hk0
      have HK1 := Lib.hid hk1
      clear hk1
      have HK2 := Lib.hid hk2
      clear hk2
      have HK3 := Lib.hid hk3
      clear hk3
      have HK4 := Lib.hid hk4
      clear hk4
      have HK5 := Lib.hid hk5
      clear hk5
      have f0a := (HP.out.at (i := 0) (N := M1) (p := (xn, xd)) rfl).cell.1
      have f0b := (HP.out.at (i := 0) (N := M1) (p := (xn, xd)) rfl).cell.2.1
      have f1a := (HP.out.at (i := 2) (N := M3) (p := (yn, yd)) rfl).cell.1
      have f1b := (HP.out.at (i := 2) (N := M3) (p := (yn, yd)) rfl).cell.2.1
      simp only [pv_eq]
      go_wp2_with fail
      obtain ⟨M5, hM5⟩ : ∃ N, U5.heap.size = N := ⟨_, rfl⟩
      obtain ⟨X5, hV⟩ : ∃ V, U5.alloc (.cells #[.string vn, .string vd] 24) = V := ⟨_, rfl⟩
      rw [hV, hM5] at HP
      rw [hV] at HB HK0 HK1 HK2 HK3 HK4 HK5 ⊢
      try rw [hM5]
      clear hV hM5
      refine (mul_calls (xn, xd) (yn, yd) HS1.out.2 HS3.out.2 X5 (HT.out.below HB.out)).mono ?_
      rintro e U6 ⟨rfl, hb⟩
      rw [HQ.out.2.2.1]
      have HP2 := (HP.out.below hb).box zn zd
      have HB2 := (HB.out.trans (hb.mono HB.out.size)).alloc (HB.out.trans (hb.mono HB.out.size)).size (.cells #[.string zn, .string zd] 24)
      have hk0 := Kd.C_below (Kd.C_below HK0.out hb) (alloc_below U6 (.cells #[.string zn, .string zd] 24))
      have hk1 := Kd.C_below (Kd.C_below HK1.out hb) (alloc_below U6 (.cells #[.string zn, .string zd] 24))
      have hk2 := Kd.C_below (Kd.C_below HK2.out hb) (alloc_below U6 (.cells #[.string zn, .string zd] 24))
      have hk3 := Kd.C_below (Kd.C_below HK3.out hb) (alloc_below U6 (.cells #[.string zn, .string zd] 24))
      have hk4 := Kd.C_below (Kd.C_below HK4.out hb) (alloc_below U6 (.cells #[.string zn, .string zd] 24))
      have hk5 := Kd.C_below (Kd.C_below HK5.out hb) (alloc_below U6 (.cells #[.string zn, .string zd] 24))
      try clear f0a f0b
      try clear f1a f1b
      try clear f2a f2b
      try clear f3a f3b
      try clear f4a f4b
      try clear f5a f5b
      clear HP HB hb HK0 HK1 HK2 HK3 HK4 HK5
      have HP := Lib.hid HP2
      have HB := Lib.hid HB2
      clear HP2 HB2
      have HK0 := Lib.hid hk0
      clear hk0
      have HK1 := Lib.hid hk1
      clear hk1
      have HK2 := Lib.hid hk2
      clear hk2
      have HK3 := Lib.hid hk3
      clear hk3
      have HK4 := Lib.hid hk4
      clear hk4
      have HK5 := Lib.hid hk5
      clear hk5
      have f0a := (HP.out.at (i := 3) (N := M4) (p := (wn, wd)) rfl).cell.1
      have f0b := (HP.out.at (i := 3) (N := M4) (p := (wn, wd)) rfl).cell.2.1
      have f1a := (HP.out.at (i := 4) (N := M5) (p := (vn, vd)) rfl).cell.1
      have f1b := (HP.out.at (i := 4) (N := M5) (p := (vn, vd)) rfl).cell.2.1
      simp only [rv_eq]
      go_wp2_with fail
      obtain ⟨M6, hM6⟩ : ∃ N, U6.heap.size = N := ⟨_, rfl⟩
      obtain ⟨X6, hV⟩ : ∃ V, U6.alloc (.cells #[.string zn, .string zd] 24) = V := ⟨_, rfl⟩
      rw [hV, hM6] at HP
      rw [hV] at HB HK0 HK1 HK2 HK3 HK4 HK5 ⊢
      try rw [hM6]
      clear hV hM6
      refine (mul_calls (wn, wd) (vn, vd) HS4.out.2 HS5.out.2 X6 (HT.out.below HB.out)).mono ?_
      rintro e U7 ⟨rfl, hb⟩
      rw [HQ.out.2.2.2]
      have HP2 := (HP.out.below hb).box zn zd
      have HB2 := (HB.out.trans (hb.mono HB.out.size)).alloc (HB.out.trans (hb.mono HB.out.size)).size (.cells #[.string zn, .string zd] 24)
      have hk0 := Kd.C_below (Kd.C_below HK0.out hb) (alloc_below U7 (.cells #[.string zn, .string zd] 24))
      have hk1 := Kd.C_below (Kd.C_below HK1.out hb) (alloc_below U7 (.cells #[.string zn, .string zd] 24))
      have hk2 := Kd.C_below (Kd.C_below HK2.out hb) (alloc_below U7 (.cells #[.string zn, .string zd] 24))
      have hk3 := Kd.C_below (Kd.C_below HK3.out hb) (alloc_below U7 (.cells #[.string zn, .string zd] 24))
      have hk4 := Kd.C_below (Kd.C_below HK4.out hb) (alloc_below U7 (.cells #[.string zn, .string zd] 24))
      have hk5 := Kd.C_below (Kd.C_below HK5.out hb) (alloc_below U7 (.cells #[.string zn, .string zd] 24))
      try clear f0a f0b
      try clear f1a f1b
      try clear f2a f2b
      try clear f3a f3b
      try clear f4a f4b
      try clear f5a f5b
      clear HP HB hb HK0 HK1 HK2 HK3 HK4 HK5
      have HP := Lib.hid HP2
      have HB := Lib.hid HB2
      clear HP2 HB2
      have HK0 := Lib.hid hk0
      clear hk0
      have HK1 := Lib.hid hk1
      clear hk1
      have HK2 := Lib.hid hk2
      clear hk2
      have HK3 := Lib.hid hk3
      clear hk3
      have HK4 := Lib.hid hk4
      clear hk4
      have HK5 := Lib.hid hk5
      clear hk5
      simp only [rv_eq]
      go_wp2_with fail
      obtain ⟨M7, hM7⟩ : ∃ N, U7.heap.size = N := ⟨_, rfl⟩
      obtain ⟨X7, hV⟩ : ∃ V, U7.alloc (.cells #[.string zn, .string zd] 24) = V := ⟨_, rfl⟩
      rw [hV, hM7] at HP
      rw [hV] at HB HK0 HK1 HK2 HK3 HK4 HK5 ⊢
      try rw [hM7]
      clear hV hM7
      have HFIN := Lib.hid (And.intro HP.out (And.intro HB.out (And.intro HK2.out (And.intro HK3.out HK5.out))))
      have HM2 := Lib.hid HN2.out
      have hm6 : m2 ≤ 6 := by have := updR_len HU12.out.2 (by have := HN.out; have := HNr.out; omega); have := HM2.out; have := HN.out; have := H6.out; omega
      clear HP HB HK0 HK1 HK2 HK3 HK4 HK5
      go_loopg [212] m2 (fun k s212 wr2 => ∃ i : Nat, s212 = .int .i64 i ∧ i ≤ m2 ∧ Hid (i + k = m2 ∧ Below X7.heap.size X7 wr2))
      case atStart => exact ⟨0, rfl, Nat.zero_le _, Lib.hid ⟨by simp, Below.refl _ _⟩⟩
      case round =>
        obtain ⟨i, rfl, hi, HI⟩ := hrel
        by_cases hlt : i < m2
        case neg =>
          obtain rfl : m2 = i := by omega
          have HP := Lib.hid (HFIN.out.1.below HI.out.2)
          have HB := Lib.hid (HFIN.out.2.1.trans (HI.out.2.mono HFIN.out.2.1.size))
          have f0a := (HP.out.at (i := 1) (N := M2) (p := (zn, zd)) rfl).cell.1
          have f0b := (HP.out.at (i := 1) (N := M2) (p := (zn, zd)) rfl).cell.2.1
          have f1a := (HP.out.at (i := 5) (N := M6) (p := (zn, zd)) rfl).cell.1
          have f1b := (HP.out.at (i := 5) (N := M6) (p := (zn, zd)) rfl).cell.2.1
          have f2a := (HP.out.at (i := 6) (N := M7) (p := (zn, zd)) rfl).cell.1
          have f2b := (HP.out.at (i := 6) (N := M7) (p := (zn, zd)) rfl).cell.2.1
          go_wp2_with fail
          go_ret
          exact ⟨rfl, HB.out⟩
        have i1 : (i : Int) < (m2 : Int) := by omega
        have i00 : (0 : Int) ≤ (i : Int) := by omega
        have hii : i < ii.length := by have := HM2.out; omega
        obtain ⟨g2, e, d1, d2⟩ := at_P (Kd.C_below HFIN.out.2.2.1 HI.out.2) i hii hii
        subst e
        obtain ⟨g3, e, d3, d4⟩ := at_P (Kd.C_below HFIN.out.2.2.2.1 HI.out.2) i hii hii
        subst e
        obtain ⟨g5, e, d5, d6⟩ := at_P (Kd.C_below HFIN.out.2.2.2.2 HI.out.2) i hii hii
        subst e
        obtain ⟨p, hp⟩ : ∃ p, ii[i] = p := ⟨_, rfl⟩
        rw [hp] at d1 d2 d3 d4 d5 d6
        obtain ⟨pn, pd⟩ := p
        clear hp hii
        go_wp2_with fail
        have hS : wr.drew.cell? (g2.add (i * 2)) = some (.string pn) ∧ wr.drew.cell? ⟨(g2.add (i * 2)).block, (g2.add (i * 2)).off + 1, none⟩ = some (.string pd) ∧ wr.drew.cell? (g3.add (i * 2)) = some (.string pn) ∧ wr.drew.cell? ⟨(g3.add (i * 2)).block, (g3.add (i * 2)).off + 1, none⟩ = some (.string pd) ∧ wr.drew.cell? (g5.add (i * 2)) = some (.string pn) ∧ wr.drew.cell? ⟨(g5.add (i * 2)).block, (g5.add (i * 2)).off + 1, none⟩ = some (.string pd) := ⟨d1, d2, d3, d4, d5, d6⟩
        go_region_held3 (fun W : World => W.cell? (g2.add (i * 2)) = some (.string pn) ∧ W.cell? ⟨(g2.add (i * 2)).block, (g2.add (i * 2)).off + 1, none⟩ = some (.string pd) ∧ W.cell? (g3.add (i * 2)) = some (.string pn) ∧ W.cell? ⟨(g3.add (i * 2)).block, (g3.add (i * 2)).off + 1, none⟩ = some (.string pd) ∧ W.cell? (g5.add (i * 2)) = some (.string pn) ∧ W.cell? ⟨(g5.add (i * 2)).block, (g5.add (i * 2)).off + 1, none⟩ = some (.string pd)) (first | exact hS) (first | fail)
        go_wp2_with fail
        go_roundg (gk - 1)
        case measure => have := HI.out.1; omega
        case rel => exact ⟨i + 1, by go_num, by omega, Lib.hid ⟨by have := HI.out.1; omega, below_drew1 HI.out.2⟩⟩
    have hlb : i < one.length := by have := HN.out.2.1; omega
    have hlc : i < two.length := by have := HN.out.2.2; omega
    have i1 : (i : Int) < (n : Int) := by omega
    have i00 : (0 : Int) ≤ (i : Int) := by omega
    obtain ⟨ad, e, d1, d2⟩ := at_P (Kd.C_below HC.out.2.1 HI.out.2.2.2) i hlb hlb
    subst e
    obtain ⟨bd, e, d3, d4⟩ := at_P (Kd.C_below HC.out.2.2 HI.out.2.2.2) i hlc hlc
    subst e
    obtain ⟨p, hp⟩ : ∃ p, one[i] = p := ⟨_, rfl⟩
    obtain ⟨q, hq⟩ : ∃ q, two[i] = q := ⟨_, rfl⟩
    have hsp := HSM.out.2.1 one[i] (List.getElem_mem hlb)
    have hsq := HSM.out.2.2 two[i] (List.getElem_mem hlc)
    have hst := prodE_take one two i hlb hlc
    have hrl := prodE_length _ _ (by simp only [List.length_take]; have := HN.out.2; omega) HI.out.2.1
    rw [List.length_take] at hrl
    rw [HI.out.2.1, hp, hq] at hst
    rw [hp] at d1 d2 hsp
    rw [hq] at d3 d4 hsq
    obtain ⟨pn, pd⟩ := p
    obtain ⟨qn, qd⟩ := q
    obtain ⟨mn, md, mx, hR⟩ : ∃ s t x, mulR (pn, pd) (qn, qd) = ((s, t), x) := ⟨_, _, _, rfl⟩
    have HP := Lib.hid (And.intro hst (And.intro hsp (And.intro hsq (And.intro hrl hR))))
    have hS4 : WhS ad bd i i (pn, pd) (qn, qd) (pn, pd) (qn, qd) wr := ⟨d1, d2, d3, d4, d1, d2, d3, d4⟩
    clear hp hq hst hsp hsq hrl hR d1 d2 d3 d4 hlb hlc
    go_wp2_with fail
    have hS : WhS ad bd i i (pn, pd) (qn, qd) (pn, pd) (qn, qd) wr.drew := hS4
    refine region_tail (m := 14) (WhS ad bd i i (pn, pd) (qn, qd) (pn, pd) (qn, qd)) 14 1 (by kernel_rfl) rfl ?_
    refine T_take 0 _ _ rfl rfl (by kernel_rfl) (by kernel_rfl) (by kernel_rfl) (fun _ _ d _ _ h => by cases d <;> exact h) (by kernel_rfl) tail_only hS (by kernel_rfl) (fun W hW => by obtain ⟨zs1, zs2, zs3, zs4, zs5, zs6, zs7, zs8⟩ := hW; go_simp; try exact rfl) ?_
    try simp only [List.setIfInBounds_toArray, List.set_cons_zero, List.set_cons_succ]
    refine T_take 1 _ _ rfl rfl (by kernel_rfl) (by kernel_rfl) (by kernel_rfl) (fun _ _ d _ _ h => by cases d <;> exact h) (by kernel_rfl) tail_only hS (by kernel_rfl) (fun W hW => by obtain ⟨zs1, zs2, zs3, zs4, zs5, zs6, zs7, zs8⟩ := hW; go_simp; try exact rfl) ?_
    try simp only [List.setIfInBounds_toArray, List.set_cons_zero, List.set_cons_succ]
    refine T_take 2 _ _ rfl rfl (by kernel_rfl) (by kernel_rfl) (by kernel_rfl) (fun _ _ d _ _ h => by cases d <;> exact h) (by kernel_rfl) tail_only hS (by kernel_rfl) (fun W hW => by obtain ⟨zs1, zs2, zs3, zs4, zs5, zs6, zs7, zs8⟩ := hW; go_simp; try exact rfl) ?_
    try simp only [List.setIfInBounds_toArray, List.set_cons_zero, List.set_cons_succ]
    refine T_take 3 _ _ rfl rfl (by kernel_rfl) (by kernel_rfl) (by kernel_rfl) (fun _ _ d _ _ h => by cases d <;> exact h) (by kernel_rfl) tail_only hS (by kernel_rfl) (fun W hW => by obtain ⟨zs1, zs2, zs3, zs4, zs5, zs6, zs7, zs8⟩ := hW; go_simp; try exact rfl) ?_
    try simp only [List.setIfInBounds_toArray, List.set_cons_zero, List.set_cons_succ]
    refine T_take 4 _ _ rfl rfl (by kernel_rfl) (by kernel_rfl) (by kernel_rfl) (fun _ _ d _ _ h => by cases d <;> exact h) (by kernel_rfl) tail_only hS (by kernel_rfl) (fun W hW => by obtain ⟨zs1, zs2, zs3, zs4, zs5, zs6, zs7, zs8⟩ := hW; go_simp; try exact rfl) ?_
    try simp only [List.setIfInBounds_toArray, List.set_cons_zero, List.set_cons_succ]
    refine T_take 5 _ _ rfl rfl (by kernel_rfl) (by kernel_rfl) (by kernel_rfl) (fun _ _ d _ _ h => by cases d <;> exact h) (by kernel_rfl) tail_only hS (by kernel_rfl) (fun W hW => by obtain ⟨zs1, zs2, zs3, zs4, zs5, zs6, zs7, zs8⟩ := hW; go_simp; try exact rfl) ?_
    try simp only [List.setIfInBounds_toArray, List.set_cons_zero, List.set_cons_succ]
    refine T_take 6 _ _ rfl rfl (by kernel_rfl) (by kernel_rfl) (by kernel_rfl) (fun _ _ d _ _ h => by cases d <;> exact h) (by kernel_rfl) tail_only hS (by kernel_rfl) (fun W hW => by obtain ⟨zs1, zs2, zs3, zs4, zs5, zs6, zs7, zs8⟩ := hW; go_simp; try exact rfl) ?_
    try simp only [List.setIfInBounds_toArray, List.set_cons_zero, List.set_cons_succ]
    refine T_take 7 _ _ rfl rfl (by kernel_rfl) (by kernel_rfl) (by kernel_rfl) (fun _ _ d _ _ h => by cases d <;> exact h) (by kernel_rfl) tail_only hS (by kernel_rfl) (fun W hW => by obtain ⟨zs1, zs2, zs3, zs4, zs5, zs6, zs7, zs8⟩ := hW; go_simp; try exact rfl) ?_
    try simp only [List.setIfInBounds_toArray, List.set_cons_zero, List.set_cons_succ]
    have hD : Hid (Below wr.heap.size wr wr.drew) := Lib.hid (below_drew1 (Below.refl _ wr))
    obtain ⟨V3, hV3⟩ : ∃ V, wr.drew = V := ⟨_, rfl⟩
    rw [hV3] at hS hD ⊢
    clear hV3
    apply join2 (fun (N : Nat) (V : World) => Hid (PB V N (mn, md)) ∧ Hid (Below wr.heap.size wr V))
    · intro key
      refine T_two 8 12 (by kernel_rfl) rfl rfl (by kernel_rfl) (by kernel_rfl) ?_ ?_
      · unfold Oper.wp
        go_simp
        refine (mul_calls (pn, pd) (qn, qd) HP.out.2.1 HP.out.2.2.1 V3 (HT.out.below (HI.out.2.2.2.trans (hD.out.mono HI.out.2.2.2.size)))).mono ?_
        rintro e U ⟨rfl, hb⟩
        rw [HP.out.2.2.2.2]
        have hS1 := hS.below hb
        have hK := hD.out.trans (hb.mono hD.out.size)
        clear hb
        simp only [rv_eq]
        refine ⟨hS1, ?_⟩
        try simp only [List.setIfInBounds_toArray, List.set_cons_zero, List.set_cons_succ]
        refine T_take 9 _ _ rfl rfl (by kernel_rfl) (by kernel_rfl) (by kernel_rfl) (fun _ _ d _ _ h => by cases d <;> exact h) (by kernel_rfl) tail_only hS1 (by kernel_rfl) (fun W hW => by obtain ⟨zs1, zs2, zs3, zs4, zs5, zs6, zs7, zs8⟩ := hW; go_simp; try exact rfl) ?_
        try simp only [List.setIfInBounds_toArray, List.set_cons_zero, List.set_cons_succ]
        refine T_take 10 _ _ rfl rfl (by kernel_rfl) (by kernel_rfl) (by kernel_rfl) (fun _ _ d _ _ h => by cases d <;> exact h) (by kernel_rfl) tail_only hS1 (by kernel_rfl) (fun W hW => by obtain ⟨zs1, zs2, zs3, zs4, zs5, zs6, zs7, zs8⟩ := hW; go_simp; try exact rfl) ?_
        try simp only [List.setIfInBounds_toArray, List.set_cons_zero, List.set_cons_succ]
        refine T_take 11 _ _ rfl rfl (by kernel_rfl) (by kernel_rfl) (by kernel_rfl) (fun _ _ d _ _ h => by cases d <;> exact h) (by kernel_rfl) tail_only hS1 (by kernel_rfl) (fun W hW => by obtain ⟨zs1, zs2, zs3, zs4, zs5, zs6, zs7, zs8⟩ := hW; go_simp; try exact rfl) ?_
        try simp only [List.setIfInBounds_toArray, List.set_cons_zero, List.set_cons_succ]
        refine T_only 12 (by kernel_rfl) rfl (by kernel_rfl) ?_
        unfold Oper.wp
        go_simp
        refine ⟨hS1.below (alloc_below U (.cells #[.string ⟨#[]⟩, .string ⟨#[]⟩] 24)), ?_⟩
        try simp only [List.setIfInBounds_toArray, List.set_cons_zero, List.set_cons_succ]
        obtain ⟨f1a, f1b, f1c, f1d⟩ := (PB.new U ⟨#[]⟩ ⟨#[]⟩).cell
        refine T_only 13 (by kernel_rfl) rfl (by kernel_rfl) ?_
        unfold Oper.wp
        go_simp
        refine ⟨hS1.below (alloc_below U (.cells #[.string mn, .string md] 24)), by kernel_rfl, ?_⟩
        refine any_only 14 (by kernel_rfl) rfl (by kernel_rfl) ?_
        unfold Oper.wp
        go_simp
        refine any_done (by kernel_rfl) ?_
        have gN := PB.new U mn md
        have gb := hK.alloc hK.size (.cells #[.string mn, .string md] 24)
        obtain ⟨V, hV⟩ : ∃ z, U.alloc (.cells #[.string mn, .string md] 24) = z := ⟨_, rfl⟩
        rw [hV] at gN gb ⊢
        obtain ⟨M, hM⟩ : ∃ z, U.heap.size = z := ⟨_, rfl⟩
        rw [hM] at gN ⊢
        exact key M V ⟨Lib.hid gN, Lib.hid gb⟩
      · unfold Oper.wp
        go_simp
        have hS1 := hS.below (alloc_below V3 (.cells #[.string ⟨#[]⟩, .string ⟨#[]⟩] 24))
        have hQ := PB.new V3 ⟨#[]⟩ ⟨#[]⟩
        have hB := hD.out.alloc hD.out.size (.cells #[.string ⟨#[]⟩, .string ⟨#[]⟩] 24)
        refine ⟨hS1, ?_⟩
        try simp only [List.setIfInBounds_toArray, List.set_cons_zero, List.set_cons_succ]
        refine T_only 8 (by kernel_rfl) rfl (by kernel_rfl) ?_
        unfold Oper.wp
        go_simp
        refine (mul_calls (pn, pd) (qn, qd) HP.out.2.1 HP.out.2.2.1 (V3.alloc (.cells #[.string ⟨#[]⟩, .string ⟨#[]⟩] 24)) (HT.out.below (HI.out.2.2.2.trans (hB.mono HI.out.2.2.2.size)))).mono ?_
        rintro e U ⟨rfl, hb⟩
        rw [HP.out.2.2.2.2]
        have hS2 := hS1.below hb
        have hN := hQ.below hb
        have hK := hB.trans (hb.mono hB.size)
        have hz := hD.out.size
        clear hb hQ hB
        simp only [rv_eq]
        refine ⟨hS2, ?_⟩
        try simp only [List.setIfInBounds_toArray, List.set_cons_zero, List.set_cons_succ]
        refine T_take 9 _ _ rfl rfl (by kernel_rfl) (by kernel_rfl) (by kernel_rfl) (fun _ _ d _ _ h => by cases d <;> exact h) (by kernel_rfl) tail_only hS2 (by kernel_rfl) (fun W hW => by obtain ⟨zs1, zs2, zs3, zs4, zs5, zs6, zs7, zs8⟩ := hW; go_simp; try exact rfl) ?_
        try simp only [List.setIfInBounds_toArray, List.set_cons_zero, List.set_cons_succ]
        refine T_take 10 _ _ rfl rfl (by kernel_rfl) (by kernel_rfl) (by kernel_rfl) (fun _ _ d _ _ h => by cases d <;> exact h) (by kernel_rfl) tail_only hS2 (by kernel_rfl) (fun W hW => by obtain ⟨zs1, zs2, zs3, zs4, zs5, zs6, zs7, zs8⟩ := hW; go_simp; try exact rfl) ?_
        try simp only [List.setIfInBounds_toArray, List.set_cons_zero, List.set_cons_succ]
        refine T_take 11 _ _ rfl rfl (by kernel_rfl) (by kernel_rfl) (by kernel_rfl) (fun _ _ d _ _ h => by cases d <;> exact h) (by kernel_rfl) tail_only hS2 (by kernel_rfl) (fun W hW => by obtain ⟨zs1, zs2, zs3, zs4, zs5, zs6, zs7, zs8⟩ := hW; go_simp; try exact rfl) ?_
        try simp only [List.setIfInBounds_toArray, List.set_cons_zero, List.set_cons_succ]
        obtain ⟨f1a, f1b, f1c, f1d⟩ := hN.cell
        refine T_only 13 (by kernel_rfl) rfl (by kernel_rfl) ?_
        unfold Oper.wp
        go_simp
        have gN := hN.set mn md
        have gb := (hK.setCell (p := ⟨V3.heap.size, 0, none⟩) hz (.string mn)).setCell (p := ⟨V3.heap.size, 1, none⟩) hz (.string md)
        refine ⟨hS4.below gb, by kernel_rfl, ?_⟩
        refine any_only 14 (by kernel_rfl) rfl (by kernel_rfl) ?_
        unfold Oper.wp
        go_simp
        refine any_done (by kernel_rfl) ?_
        obtain ⟨V, hV⟩ : ∃ z, ((U.setCell ⟨V3.heap.size, 0, none⟩ (.string mn)).setCell ⟨V3.heap.size, 1, none⟩ (.string md)) = z := ⟨_, rfl⟩
        rw [hV] at gN gb ⊢
        obtain ⟨M, hM⟩ : ∃ z, V3.heap.size = z := ⟨_, rfl⟩
        rw [hM] at gN ⊢
        exact key M V ⟨Lib.hid gN, Lib.hid gb⟩
    intro M V hR
    obtain ⟨HM, HV⟩ := hR
    by_cases hmx : mx = 0
    case neg =>
      have hmx2 : (mx != 0) = true := by simpa using hmx
      go_wp2_with fail
      go_ret
      exact ⟨rfl, HI.out.2.2.2.trans (HV.out.mono HI.out.2.2.2.size)⟩
    subst hmx
    have HX := Lib.hid (show toE (mulR (pn, pd) (qn, qd)) = .ok (mn, md) from toE_ok HP.out.2.2.2.2)
    have ho := ownP_move HI.out.2.2.1 HV.out
    have hwz : w.heap.size ≤ V.heap.size := Nat.le_trans HI.out.2.2.2.size HV.out.size
    have hrl := HP.out.2.2.2.1
    have hn6 := H6.out
    obtain ⟨f1a, f1b, f1c, f1d⟩ := HM.out.cell
    have HNW : Hid (∀ (j : Nat) (u : Value), [Value.string mn, Value.string md][j]? = some u → (V.alloc (.cells #[.string mn, .string md] 24)).cell? ((⟨V.heap.size, 0, none⟩ : Addr).add j) = some u) := Lib.hid (by
      intro j u hj
      have h := heap_alloc_new V (.cells #[.string mn, .string md] 24)
      match j, hj with
      | 0, hj => simp at hj; subst hj; exact blk_cell h 0
      | 1, hj => simp at hj; subst hj; exact blk_cell h 1)
    go_wp2_with (at_builtin; refine wpList_append_own _ rfl _ _ 34 rfl w.heap.size 24 i0 (.agg #[.string ⟨#[]⟩, .string ⟨#[]⟩]) 2 32 Tryz.underlying34 hi0 hz0 hz1 hz2 rfl (by decide) _ _ _ rfl (ownP_move ho ((Below.refl _ V).alloc (Nat.le_refl _) _)) ⟨V.heap.size, 0, none⟩ 1 1 [.string mn, .string md] rfl rfl HNW.out (by simp [Value.oneCell']) (by unfold maxLen; omega) (by omega) (by simp; omega) ?_; intro v' w3 hown' hgrow _)
    have HF := Lib.hid (show OwnP w3 w.heap.size v' (r ++ [(mn, md)]) by
      unfold OwnP; rw [flat_snoc, List.length_append]; exact hown')
    have HBF := Lib.hid (show Below w.heap.size w w3 from ((HI.out.2.2.2.trans (HV.out.mono HI.out.2.2.2.size)).alloc hwz _).grown hgrow (by simp; omega) (fun j hj => own_base2 ho j hj))
    clear hown' hgrow ho f1a f1b f1c f1d
    go_wp2_with fail
    go_roundg (gk - 1)
    case measure => have := HI.out.1; omega
    case rel => exact ⟨i + 1, r ++ [(mn, md)], by go_num, by omega, Lib.hid ⟨by have := HI.out.1; omega, by rw [HP.out.1, HX.out]; rfl, HF.out, HBF.out⟩⟩

end Go.Proofs.CW
