/-
  Part 7 of the proof: K45, K46, K47, RG2, K49.
-/
import Derived.Test.YtjfclkbdkafkcaaGreatDoorZ6
set_option linter.unusedVariables false
set_option linter.unusedSimpArgs false
namespace Go.Proofs.CW
open Go.RowKit Go.Shelf Go.Sort Go.Lib Go.Proofs.YtjfclkbdkafkcaaGreatDoorW.PrintWords Go.Proofs.YtjfclkbdkafkcaaGreatDoor.PF
attribute [local go_sem] Oper.semAt_some

/-- What a closure that stores a part comes to. -/
def PartO (w W : World) (M : Nat) (r : Except Int PS) (e : Ending) : Prop :=
  (∃ x W0, r = .ok x ∧ e = .returned (.tuple #[]) ∧ PB W M x ∧ Below w.heap.size w W0 ∧ Others M W0 W) ∨ (∃ x, r = .error x ∧ e = thrown x ∧ Below w.heap.size w W)
theorem below_othersLe {w W W' : World} {g b : Nat} (h : Below b w W) (ho : Others g W W') (hg : b ≤ g) (hb : b ≤ W.heap.size) : Below b w W' :=
  ⟨ho.os.trans h.os, ho.tape.trans h.tape, ho.output.trans h.output, Nat.le_trans h.size ho.size, fun k hk => (ho.heap k (by omega) (by omega)).trans (h.block k hk)⟩
theorem tried_part (f : FuncId) (caps : Array Value) (w W1 : World) (M : Nat) (r : Except Int PS) (q0 : PS) (he : ∀ args w, (callFunc f args).run Tryz.prog w = .ok (.enter f args) w) (hb1 : Below w.heap.size w W1) (hM : w.heap.size ≤ M) (hpb : PB W1 M q0)
    (HC : ∀ W, Below W1.heap.size W1 W → Calls Tryz.prog f caps W fun e W' => PartO W W' M r e) :
    Calls Tryz.prog 73 #[.func (.func f) #[] caps] W1 fun e W => ∃ y q, e = .returned (.int .i64 y) ∧ PB W M q ∧ Below w.heap.size w W ∧ ((y = 0 ∧ r = .ok q) ∨ (r = .error y ∧ q = q0)) := by
  have hbb : Below W1.heap.size W1 (W1.alloc (.cells #[.int .i64 0] 27)) := (Below.refl _ _).alloc (Nat.le_refl _) _
  have hz := hpb.lt
  have hlt : W1.heap.size < (W1.alloc (.cells #[.int .i64 0] 27)).heap.size := by rw [World.size_alloc]; omega
  have hw := hb1.size
  have herr := heap_alloc_new W1 (.cells #[.int .i64 0] 27)
  have hbw : Below w.heap.size w (W1.alloc (.cells #[.int .i64 0] 27)) := hb1.alloc hb1.size _
  refine (tried_calls f caps W1 he (fun W => ∃ q, r = .ok q ∧ PB W M q ∧ Below w.heap.size w W) (fun y W => r = .error y ∧ PB W M q0 ∧ Below w.heap.size w W) ?_).mono ?_
  · refine (HC _ hbb).mono ?_
    rintro e W' (⟨x, W0, h1, rfl, hp, hb, ho⟩ | ⟨x, h1, rfl, hb⟩)
    · have hs := hb.size
      exact ⟨(ho.heap _ (by omega) (by omega)).trans ((hb.block _ hlt).trans herr), .inl ⟨rfl, x, h1, hp, hbw.trans (below_othersLe (hb.mono hbw.size) ho hM (by have := hbw.size; omega))⟩⟩
    · exact ⟨(hb.block _ hlt).trans herr, .inr ⟨x, rfl, h1, (hpb.below hbb).below hb, hbw.trans (hb.mono hbw.size)⟩⟩
  · rintro e W ⟨W', y, rfl, ho, ⟨rfl, q, h1, h2, h3⟩ | ⟨h1, h2, h3⟩⟩
    · exact ⟨0, q, rfl, h2.others ho (by omega), below_othersLe h3 ho hw h3.size, .inl ⟨rfl, h1⟩⟩
    · exact ⟨y, q0, rfl, h2.others ho (by omega), below_othersLe h3 ho hw h3.size, .inr ⟨h1, rfl⟩⟩
set_option maxRecDepth 100000 in
set_option maxHeartbeats 1000000 in
theorem sumf_calls (K M : Nat) (A : Option Addr) (c : Nat) (l : List PS) (hsm : Smalls l) (hl : l.length ≤ 1000000) (w : World) (ht : Tab w) (hc : Kd.C kP w A l.length l) (hK : w.cell? ⟨K, 0, none⟩ = some (.slice A l.length c)) (q0 : PS) (hM : PB w M q0) :
    Calls Tryz.prog 81 #[.pointer (some ⟨K, 0, none⟩), .pointer (some ⟨M, 0, none⟩)] w fun e W => PartO w W M (sumE l) e := by
  have HS := Lib.hid (sum_calls A c l hsm hl w ht hc)
  have HM := Lib.hid hM
  clear ht hc hsm hM hl
  go_enter Tryz.func81, Tryz.ntmps81
  go_wp2_with fail
  refine HS.out.mono ?_
  rintro e W1 ⟨he, hb⟩
  have H1 := Lib.hid (And.intro hb (HM.out.below hb))
  obtain ⟨q1, q2, q3, q4⟩ := H1.out.2.cell
  clear hb
  cases hE : sumE l with
  | error x =>
    have he2 : e = thrown x := by rw [he, hE]; rfl
    subst he2
    have HE := Lib.hid hE
    clear he hE
    go_wp2_with fail
    exact ⟨rfl, .inr ⟨x, HE.out, rfl, H1.out.1⟩⟩
  | ok p =>
    obtain ⟨s, t⟩ := p
    have he2 : e = .returned (.agg #[.string s, .string t]) := by rw [he, hE]; rfl
    subst he2
    have HE := Lib.hid hE
    clear he hE
    go_wp2_with fail
    refine bodyPost_end (results_none rfl _ _ _) rfl (.inl ⟨(s, t), W1, HE.out, rfl, H1.out.2.set s t, H1.out.1, ((Others.refl M W1).set 0 _).set 1 _⟩)
set_option maxRecDepth 100000 in
set_option maxHeartbeats 1000000 in
theorem meanf_calls (K L M : Nat) (A B : Option Addr) (c d : Nat) (a b : List PS) (hab : a.length = b.length) (hsa : Smalls a) (hsb : Smalls b) (hl : a.length ≤ 100000) (w : World) (ht : Tab w) (hca : Kd.C kP w A a.length a) (hcb : Kd.C kP w B b.length b)
    (hK : w.cell? ⟨K, 0, none⟩ = some (.slice A a.length c)) (hL : w.cell? ⟨L, 0, none⟩ = some (.slice B b.length d)) (q0 : PS) (hM : PB w M q0) :
    Calls Tryz.prog 79 #[.pointer (some ⟨K, 0, none⟩), .pointer (some ⟨L, 0, none⟩), .pointer (some ⟨M, 0, none⟩)] w fun e W => PartO w W M (do let l ← prodE a b; sumE l) e := by
  have HP := Lib.hid (products_calls A B c d a b hab hsa hsb hl w ht hca hcb)
  have HS := Lib.hid (fun A c l hsm hl W (hb : Below w.heap.size w W) hc => sum_calls A c l hsm hl W (ht.below hb) hc)
  have HM := Lib.hid (And.intro hM (And.intro hab hl))
  clear ht hca hcb hsa hsb hM hab hl
  go_enter Tryz.func79, Tryz.ntmps79
  go_wp2_with fail
  refine HP.out.mono ?_
  rintro e W1 ⟨ho, hb⟩
  cases hE : prodE a b with
  | error x =>
    rw [hE] at ho
    have he2 : e = thrown x := ho
    subst he2
    have HE := Lib.hid hE
    clear ho hE
    go_wp2_with fail
    exact ⟨rfl, .inr ⟨x, by rw [HE.out]; rfl, rfl, hb⟩⟩
  | ok l =>
    rw [hE] at ho
    obtain ⟨v, rfl, ho⟩ := ho
    obtain ⟨A2, c2, rfl, hc2, _, _⟩ := ownP_C ho
    have hll := prodE_length _ _ HM.out.2.1 hE
    have H1 := Lib.hid (And.intro hb (And.intro hc2 (And.intro hll (And.intro (smalls_prod hE) (And.intro (HM.out.1.below hb) hE)))))
    clear hb hE ho hc2 hll
    go_wp2_with fail
    refine (HS.out A2 c2 l H1.out.2.2.2.1 (by have := H1.out.2.2.1; have := HM.out.2.2; omega) W1 H1.out.1 H1.out.2.1).mono ?_
    rintro e W2 ⟨he, hb⟩
    have H2 := Lib.hid (And.intro (H1.out.1.trans (hb.mono H1.out.1.size)) (H1.out.2.2.2.2.1.below hb))
    obtain ⟨q1, q2, q3, q4⟩ := H2.out.2.cell
    clear hb
    cases hE : sumE l with
    | error x =>
      have he2 : e = thrown x := by rw [he, hE]; rfl
      subst he2
      have HE := Lib.hid hE
      clear he hE
      go_wp2_with fail
      exact ⟨rfl, .inr ⟨x, by rw [H1.out.2.2.2.2.2]; exact HE.out, rfl, H2.out.1⟩⟩
    | ok p =>
      obtain ⟨s, t⟩ := p
      have he2 : e = .returned (.agg #[.string s, .string t]) := by rw [he, hE]; rfl
      subst he2
      have HE := Lib.hid hE
      clear he hE
      go_wp2_with fail
      refine bodyPost_end (results_none rfl _ _ _) rfl (.inl ⟨(s, t), W2, by rw [H1.out.2.2.2.2.2]; exact HE.out, rfl, H2.out.2.set s t, H2.out.1, ((Others.refl M W2).set 0 _).set 1 _⟩)
end Go.Proofs.CW
namespace Go.Proofs.CW
open Go.RowKit Go.Shelf Go.Sort Go.Lib Go.Proofs.YtjfclkbdkafkcaaGreatDoorW.PrintWords Go.Proofs.YtjfclkbdkafkcaaGreatDoor.PF
attribute [local go_sem] Oper.semAt_some

theorem checkedR_one (l : List PS) : checkedR [l] = listR l := by
  unfold checkedR listR
  simp only [List.any_cons, List.any_nil, Bool.or_false, List.all_cons, List.all_nil, Bool.and_true, decide_eq_true_eq]
theorem listR_zero {l : List PS} (h : listR l = 0) : l.length ≤ 512 := by
  unfold listR at h
  by_cases h1 : 512 < l.length
  · rw [if_pos h1] at h; cases h
  · omega
/-- A box with a list, a box with a part. -/
structure BoxLP (w W : World) (N : Nat) (v : Value) (q : PS) : Prop where
  bel : Below w.heap.size w W
  nw : w.heap.size = N
  sa : SB W N v
  sq : PB W (N + 1) q
theorem BoxLP.below {w W W' : World} {N : Nat} {v : Value} {q : PS} (h : BoxLP w W N v q) (hb : Below W.heap.size W W') : BoxLP w W' N v q :=
  ⟨h.bel.trans (hb.mono h.bel.size), h.nw, h.sa.below hb, h.sq.below hb⟩
theorem BoxLP.new (w : World) (v : Value) (s t : ByteArray) : BoxLP w ((w.alloc (.cells #[v] 34)).alloc (.cells #[.string s, .string t] 24)) w.heap.size v (s, t) := by
  have b1 : Below w.heap.size w (w.alloc (.cells #[v] 34)) := (Below.refl _ w).alloc (Nat.le_refl _) _
  have k (W : World) (o : Obj) : Below W.heap.size W (W.alloc o) := (Below.refl _ W).alloc (Nat.le_refl _) _
  have s1 := (SB.new w v).below (k _ (.cells #[.string s, .string t] 24))
  have s4 := PB.new (w.alloc (.cells #[v] 34)) s t
  simp only [World.size_alloc] at s4
  exact ⟨b1.alloc (by simp) _, rfl, s1, s4⟩
set_option maxRecDepth 100000 in
set_option maxHeartbeats 2000000 in
theorem sum_api (A : Option Addr) (c : Nat) (l : List PS) (hsm : Smalls l) (hl : l.length ≤ 1000000) (w : World) (ht : Tab w) (hc : Kd.C kP w A l.length l) :
    Calls Tryz.prog 29 #[.slice A l.length c] w fun e W => e = .returned (rv (sumR l)) ∧ Below w.heap.size w W := by
  have HC := Lib.hid (fun (W : World) (hb : Below w.heap.size w W) t => checked_calls W.heap.size [l] (by intro x hx; simp at hx; subst hx; exact hsm) (by simp) (by intro x hx; simp at hx; subst hx; omega)
    (W.alloc (.cells #[.slice A l.length c] t)) (by rw [World.size_alloc]; omega) (rowL_one (Kd.C_below hc hb)))
  have HT := Lib.hid (fun W1 N (h : BoxLP w W1 N (.slice A l.length c) (⟨#[]⟩, ⟨#[]⟩)) => tried_part 81 #[.pointer (some ⟨N, 0, none⟩), .pointer (some ⟨N + 1, 0, none⟩)] w W1 (N + 1) (sumE l) (⟨#[]⟩, ⟨#[]⟩) (enters_of Tryz.func81 (by kernel_rfl) rfl) h.bel (by have := h.nw; omega) h.sq
    (fun W hb => sumf_calls N (N + 1) A c l hsm hl W ((ht.below h.bel).below hb) (Kd.C_below (Kd.C_below hc h.bel) hb) (h.sa.below hb).cell.1 _ (h.sq.below hb)))
  have h4 := BoxLP.new w (.slice A l.length c) ⟨#[]⟩ ⟨#[]⟩
  obtain ⟨N, hN⟩ : ∃ N, w.heap.size = N := ⟨_, rfl⟩
  simp only [hN] at h4
  clear hc hsm ht hl
  go_enter Tryz.func29, Tryz.ntmps29
  go_wp2_with fail
  obtain ⟨W0, hW0⟩ : ∃ W0, (w.alloc (.cells #[.slice A l.length c] 34)).alloc (.cells #[.string ⟨#[]⟩, .string ⟨#[]⟩] 24) = W0 := ⟨_, rfl⟩
  have hz0 : W0.heap.size = N + 1 + 1 := by rw [← hW0, World.size_alloc, World.size_alloc, hN]
  rw [hW0] at h4 ⊢
  have hk := HC.out W0 h4.bel 34
  rw [hz0] at hk
  refine hk.mono ?_
  rintro e W1 ⟨rfl, hb⟩
  have hbb : Below W0.heap.size W0 (W0.alloc (.cells #[.slice A l.length c] 34)) := (Below.refl _ _).alloc (Nat.le_refl _) _
  have H4 := Lib.hid ((h4.below hbb).below hb)
  clear h4 hW0 hb hbb hk hz0
  obtain ⟨x, hx⟩ : ∃ x, listR l = x := ⟨_, rfl⟩
  rw [checkedR_one, hx]
  have HX := Lib.hid hx
  clear hx
  obtain ⟨k3, k4, k5, k6⟩ := H4.out.sq.cell
  by_cases h0 : x = 0
  · subst h0
    go_wp2_with fail
    refine (HT.out W1 N H4.out).mono ?_
    rintro e W2 ⟨y, q, rfl, hq, hb2, hd⟩
    obtain ⟨s, t⟩ := q
    have hu : sumR l = ((s, t), y) := by
      unfold sumR
      rw [if_pos HX.out]
      rcases hd with ⟨rfl, h1⟩ | ⟨h1, h2⟩
      · rw [h1]; rfl
      · rw [h1, h2]; rfl
    have HU := Lib.hid (And.intro hq (And.intro hb2 hu))
    obtain ⟨r1, r2, r3, r4⟩ := hq.cell
    clear hd hu hq hb2 k3 k4 k5 k6
    go_wp2_with fail
    refine bodyPost_ret (results_pb rfl _ rfl (HU.out.1.set s t)) rfl ⟨by rw [HU.out.2.2]; rfl, ?_⟩
    exact (HU.out.2.1.setCell (p := ⟨N + 1, 0, none⟩) (by simp; omega) _).setCell (p := ⟨N + 1, 1, none⟩) (by simp; omega) _
  · go_wp2_with fail
    refine bodyPost_ret (results_pb rfl _ rfl (H4.out.sq.set ⟨#[]⟩ ⟨#[]⟩)) rfl ⟨?_, ?_⟩
    · unfold sumR; rw [HX.out, if_neg h0]; rfl
    · exact (H4.out.bel.setCell (p := ⟨N + 1, 0, none⟩) (by simp; omega) _).setCell (p := ⟨N + 1, 1, none⟩) (by simp; omega) _
end Go.Proofs.CW
namespace Go.Proofs.CW
open Go.RowKit Go.Shelf Go.Sort Go.Lib Go.Proofs.YtjfclkbdkafkcaaGreatDoorW.PrintWords Go.Proofs.YtjfclkbdkafkcaaGreatDoor.PF
attribute [local go_sem] Oper.semAt_some

/-- What a closure that stores a list comes to. -/
def ListO (w W : World) (M : Nat) (r : Except Int (List PS)) (e : Ending) : Prop :=
  (∃ l v W0, r = .ok l ∧ e = .returned (.tuple #[]) ∧ OwnP W w.heap.size v l ∧ SB W M v ∧ Below w.heap.size w W0 ∧ Others M W0 W) ∨ (∃ x, r = .error x ∧ e = thrown x ∧ Below w.heap.size w W)
set_option maxRecDepth 100000 in
set_option maxHeartbeats 1000000 in
theorem sharef_calls (K M : Nat) (A : Option Addr) (c : Nat) (l : List PS) (hsm : Smalls l) (hl : l.length ≤ 100000) (w : World) (ht : Tab w) (hc : Kd.C kP w A l.length l) (hK : w.cell? ⟨K, 0, none⟩ = some (.slice A l.length c)) (v0 : Value) (hM : SB w M v0) :
    Calls Tryz.prog 84 #[.pointer (some ⟨K, 0, none⟩), .pointer (some ⟨M, 0, none⟩)] w fun e W => ListO w W M (do let s ← sumE l; shareE l s) e := by
  have HS := Lib.hid (sum_calls A c l hsm (by omega) w.drew (ht.below (below_drew1 (Below.refl _ w))) (Kd.C_drew hc))
  have HH := Lib.hid (fun all sa W (hb : Below w.heap.size w W) => share_calls A c l all sa hsm hl W (ht.below hb) (Kd.C_below hc hb))
  have hS : w.drew.cell? ⟨K, 0, none⟩ = some (.slice A l.length c) := hK
  have HM := Lib.hid hM
  clear ht hc hsm hM hl
  go_enter Tryz.func84, Tryz.ntmps84
  go_wp2_with fail
  refine region_tail (m := 4) (fun W => W.cell? ⟨K, 0, none⟩ = some (.slice A l.length c)) 4 1 (by kernel_rfl) rfl ?_
  refine T_take 0 2 (.slice A l.length c) rfl rfl (by kernel_rfl) (by kernel_rfl) (by kernel_rfl) (fun _ _ d _ _ h => by cases d <;> exact h) (by kernel_rfl) tail_only hS (by kernel_rfl) (fun W hW => by go_simp) ?_
  try simp only [List.setIfInBounds_toArray, List.set_cons_zero, List.set_cons_succ]
  refine T_take 1 3 (.slice A l.length c) rfl rfl (by kernel_rfl) (by kernel_rfl) (by kernel_rfl) (fun _ _ d _ _ h => by cases d <;> exact h) (by kernel_rfl) tail_only hS (by kernel_rfl) (fun W hW => by go_simp) ?_
  try simp only [List.setIfInBounds_toArray, List.set_cons_zero, List.set_cons_succ]
  refine T_only 2 (by kernel_rfl) rfl (by kernel_rfl) ?_
  unfold Oper.wp
  go_simp
  refine HS.out.mono ?_
  rintro e W1 ⟨he, hb⟩
  have b1 : Below w.heap.size w W1 := (below_drew1 (Below.refl _ w)).trans hb
  have hS1 : W1.cell? ⟨K, 0, none⟩ = some (.slice A l.length c) := (hb.cell (p := ⟨K, 0, none⟩) (cell_lt hS)).trans hS
  have H1 := Lib.hid b1
  clear hb b1
  cases hE : sumE l with
  | error x =>
    have he2 : e = thrown x := by rw [he, hE]; rfl
    subst he2
    have HE := Lib.hid hE
    clear he hE
    exact ⟨rfl, .inr ⟨x, by rw [HE.out]; rfl, rfl, H1.out⟩⟩
  | ok p =>
    obtain ⟨s, t⟩ := p
    have he2 : e = .returned (.agg #[.string s, .string t]) := by rw [he, hE]; rfl
    subst he2
    have HE := Lib.hid (And.intro hE (small_sum hE))
    clear he hE
    refine ⟨hS1, ?_⟩
    try simp only [List.setIfInBounds_toArray, List.set_cons_zero, List.set_cons_succ]
    refine T_only 3 (by kernel_rfl) rfl (by kernel_rfl) ?_
    unfold Oper.wp
    go_simp
    refine (HH.out (s, t) HE.out.2 W1 H1.out).mono ?_
    rintro e W2 ⟨ho, hb⟩
    have b2 := H1.out.trans (hb.mono H1.out.size)
    have hS2 : W2.cell? ⟨K, 0, none⟩ = some (.slice A l.length c) := (hb.cell (p := ⟨K, 0, none⟩) (cell_lt hS1)).trans hS1
    have hM2 := HM.out.below b2
    cases hF : shareE l (s, t) with
    | error x =>
      rw [hF] at ho
      have he2 : e = thrown x := ho
      subst he2
      exact ⟨rfl, .inr ⟨x, by rw [HE.out.1]; exact hF, rfl, b2⟩⟩
    | ok r =>
      rw [hF] at ho
      obtain ⟨v, rfl, ho⟩ := ho
      obtain ⟨A3, c3, rfl, _, _, _⟩ := ownP_C ho
      have H2 := Lib.hid (And.intro hF (And.intro ho (And.intro b2 hM2)))
      obtain ⟨m1, m2⟩ := hM2.cell
      clear hF ho b2 hM2 hb
      refine ⟨hS2, by kernel_rfl, ?_⟩
      try simp only [List.setIfInBounds_toArray, List.set_cons_zero, List.set_cons_succ]
      refine any_only 4 (by kernel_rfl) rfl (by kernel_rfl) ?_
      unfold Oper.wp
      go_simp
      refine any_done (by kernel_rfl) ?_
      go_wp2_with fail
      have hlM : M < W1.heap.size := Nat.lt_of_lt_of_le HM.out.lt H1.out.size
      exact bodyPost_end (results_none rfl _ _ _) rfl (.inl ⟨r, _, W2, by rw [HE.out.1]; exact H2.out.1, rfl, ownP_base (ownP_set (p := ⟨M, 0, none⟩) H2.out.2.1 hlM _) H1.out.size, H2.out.2.2.2.set _, H2.out.2.2.1, (Others.refl M W2).set 0 _⟩)
theorem tried_list (f : FuncId) (caps : Array Value) (w W1 : World) (M : Nat) (r : Except Int (List PS)) (he : ∀ args w, (callFunc f args).run Tryz.prog w = .ok (.enter f args) w) (hb1 : Below w.heap.size w W1) (hM : w.heap.size ≤ M) (hpb : SB W1 M (.slice none 0 0))
    (HC : ∀ W, Below W1.heap.size W1 W → Calls Tryz.prog f caps W fun e W' => ListO W W' M r e) :
    Calls Tryz.prog 73 #[.func (.func f) #[] caps] W1 fun e W => ∃ y A l c, e = .returned (.int .i64 y) ∧ SB W M (.slice A (List.length l) c) ∧ (M + 2 ≤ W1.heap.size + 1 ∧ OwnP W (W1.heap.size + 1) (.slice A l.length c) l) ∧ Below w.heap.size w W ∧ ((y = 0 ∧ r = .ok l) ∨ (r = .error y ∧ l = [])) := by
  have hbb : Below W1.heap.size W1 (W1.alloc (.cells #[.int .i64 0] 27)) := (Below.refl _ _).alloc (Nat.le_refl _) _
  have hz := hpb.lt
  have hlt : W1.heap.size < (W1.alloc (.cells #[.int .i64 0] 27)).heap.size := by rw [World.size_alloc]; omega
  have hw := hb1.size
  have herr := heap_alloc_new W1 (.cells #[.int .i64 0] 27)
  have hbw : Below w.heap.size w (W1.alloc (.cells #[.int .i64 0] 27)) := hb1.alloc hb1.size _
  refine (tried_calls f caps W1 he (fun W => ∃ l v, r = .ok l ∧ SB W M v ∧ OwnP W (W1.heap.size + 1) v l ∧ Below w.heap.size w W) (fun y W => r = .error y ∧ SB W M (.slice none 0 0) ∧ Below w.heap.size w W) ?_).mono ?_
  · refine (HC _ hbb).mono ?_
    rintro e W' (⟨l, v, W0, h1, rfl, hown, hp, hb, ho⟩ | ⟨x, h1, rfl, hb⟩)
    · have hs := hb.size
      rw [World.size_alloc] at hown
      exact ⟨(ho.heap _ (by omega) (by omega)).trans ((hb.block _ hlt).trans herr), .inl ⟨rfl, l, v, h1, hp, hown, hbw.trans (below_othersLe (hb.mono hbw.size) ho hM (by have := hbw.size; omega))⟩⟩
    · exact ⟨(hb.block _ hlt).trans herr, .inr ⟨x, rfl, h1, (hpb.below hbb).below hb, hbw.trans (hb.mono hbw.size)⟩⟩
  · rintro e W ⟨W', y, rfl, ho, ⟨rfl, l, v, h1, h2, hown, h3⟩ | ⟨h1, h2, h3⟩⟩
    · obtain ⟨A3, c3, rfl, _, _, _⟩ := ownP_C hown
      exact ⟨0, A3, l, c3, rfl, h2.others ho (by omega), ⟨by omega, ownP_others hown ho (by omega)⟩, below_othersLe h3 ho hw h3.size, .inl ⟨rfl, h1⟩⟩
    · exact ⟨y, none, [], 0, rfl, h2.others ho (by omega), ⟨by omega, ownP_nil _ _⟩, below_othersLe h3 ho hw h3.size, .inr ⟨h1, rfl⟩⟩
/-- A box with a list, a box with the result. -/
structure BoxLL (w W : World) (N : Nat) (v u : Value) : Prop where
  bel : Below w.heap.size w W
  nw : w.heap.size = N
  sa : SB W N v
  sv : SB W (N + 1) u
theorem BoxLL.below {w W W' : World} {N : Nat} {v u : Value} (h : BoxLL w W N v u) (hb : Below W.heap.size W W') : BoxLL w W' N v u :=
  ⟨h.bel.trans (hb.mono h.bel.size), h.nw, h.sa.below hb, h.sv.below hb⟩
theorem BoxLL.new (w : World) (v u : Value) : BoxLL w ((w.alloc (.cells #[v] 34)).alloc (.cells #[u] 34)) w.heap.size v u := by
  have b1 : Below w.heap.size w (w.alloc (.cells #[v] 34)) := (Below.refl _ w).alloc (Nat.le_refl _) _
  have k (W : World) (o : Obj) : Below W.heap.size W (W.alloc o) := (Below.refl _ W).alloc (Nat.le_refl _) _
  have s1 := (SB.new w v).below (k _ (.cells #[u] 34))
  have s4 := SB.new (w.alloc (.cells #[v] 34)) u
  simp only [World.size_alloc] at s4
  exact ⟨b1.alloc (by simp) _, rfl, s1, s4⟩
theorem results_list {fn : Func} {t u : Tmp} (hr : fn.results = #[.cell t 34, .tmp u]) (tmps : Array Value) {W : World} {g : Nat} {A : Option Addr} {n c : Nat} (ht : tmps.getD t undef = .pointer (some ⟨g, 0, none⟩)) (h : SB W g (.slice A n c)) :
    (results fn tmps).run Tryz.prog W = .ok (.tuple #[.slice A n c, tmps.getD u undef]) W := by
  have h4 := h.cell.1
  have ht' : tmps[t]?.getD undef = .pointer (some ⟨g, 0, none⟩) := by simpa using ht
  simp [results, hr, go_sem, ht', h4]
/-- How shares come back. -/
def ListV (base : Nat) (r : List PS × Int) (e : Ending) (W : World) : Prop := ∃ v, e = .returned (.tuple #[v, .int .i64 r.2]) ∧ OwnP W base v r.1
set_option maxRecDepth 100000 in
set_option maxHeartbeats 2000000 in
theorem share_api (A : Option Addr) (c : Nat) (l : List PS) (hsm : Smalls l) (hl : l.length ≤ 100000) (w : World) (ht : Tab w) (hc : Kd.C kP w A l.length l) :
    Calls Tryz.prog 32 #[.slice A l.length c] w fun e W => ListV w.heap.size (shareR l) e W ∧ Below w.heap.size w W := by
  have HC := Lib.hid (fun (W : World) (hb : Below w.heap.size w W) t => checked_calls W.heap.size [l] (by intro x hx; simp at hx; subst hx; exact hsm) (by simp) (by intro x hx; simp at hx; subst hx; omega)
    (W.alloc (.cells #[.slice A l.length c] t)) (by rw [World.size_alloc]; omega) (rowL_one (Kd.C_below hc hb)))
  have HT := Lib.hid (fun W1 N (h : BoxLL w W1 N (.slice A l.length c) (.slice none 0 0)) => tried_list 84 #[.pointer (some ⟨N, 0, none⟩), .pointer (some ⟨N + 1, 0, none⟩)] w W1 (N + 1) (do let s ← sumE l; shareE l s) (enters_of Tryz.func84 (by kernel_rfl) rfl) h.bel (by have := h.nw; omega) h.sv
    (fun W hb => sharef_calls N (N + 1) A c l hsm hl W ((ht.below h.bel).below hb) (Kd.C_below (Kd.C_below hc h.bel) hb) (h.sa.below hb).cell.1 _ (h.sv.below hb)))
  have h4 := BoxLL.new w (.slice A l.length c) (.slice none 0 0)
  obtain ⟨N, hN⟩ : ∃ N, w.heap.size = N := ⟨_, rfl⟩
  simp only [hN] at h4
  clear hc hsm ht hl
  go_enter Tryz.func32, Tryz.ntmps32
  go_wp2_with fail
  obtain ⟨W0, hW0⟩ : ∃ W0, (w.alloc (.cells #[.slice A l.length c] 34)).alloc (.cells #[.slice none 0 0] 34) = W0 := ⟨_, rfl⟩
  have hz0 : W0.heap.size = N + 1 + 1 := by rw [← hW0, World.size_alloc, World.size_alloc, hN]
  rw [hW0] at h4 ⊢
  have hk := HC.out W0 h4.bel 34
  rw [hz0] at hk
  refine hk.mono ?_
  rintro e W1 ⟨rfl, hb⟩
  have hbb : Below W0.heap.size W0 (W0.alloc (.cells #[.slice A l.length c] 34)) := (Below.refl _ _).alloc (Nat.le_refl _) _
  have H4 := Lib.hid ((h4.below hbb).below hb)
  clear h4 hW0 hb hbb hk hz0
  obtain ⟨x, hx⟩ : ∃ x, listR l = x := ⟨_, rfl⟩
  rw [checkedR_one, hx]
  have HX := Lib.hid hx
  clear hx
  obtain ⟨k3, k4⟩ := H4.out.sv.cell
  by_cases h0 : x = 0
  · subst h0
    go_wp2_with fail
    refine (HT.out W1 N H4.out).mono ?_
    rintro e W2 ⟨y, A3, r, c3, rfl, hq, ⟨hbase, ho⟩, hb2, hd⟩
    have hu : shareR l = (r, y) := by
      unfold shareR
      rw [if_pos HX.out]
      rcases hd with ⟨rfl, h1⟩ | ⟨h1, h2⟩
      · rw [h1]; rfl
      · rw [h1, h2]; rfl
    have HU := Lib.hid (And.intro hq (And.intro hb2 (And.intro hu (And.intro hbase ho))))
    obtain ⟨r1, r2⟩ := hq.cell
    have hw1 := H4.out.bel.size
    clear hd hu hq hb2 k3 k4 ho
    go_wp2_with fail
    have hb3 := HU.out.2.2.2.1
    refine bodyPost_ret (results_list rfl _ rfl (HU.out.1.set _)) rfl ⟨?_, HU.out.2.1.setCell (p := ⟨N + 1, 0, none⟩) (by simp; omega) _⟩
    rw [HU.out.2.2.1]
    exact ⟨_, rfl, ownP_base (ownP_set (p := ⟨N + 1, 0, none⟩) HU.out.2.2.2.2 (by simp; omega) _) (by omega)⟩
  · go_wp2_with fail
    have hu : shareR l = ([], x) := by unfold shareR; rw [HX.out, if_neg h0]
    refine bodyPost_ret (results_list rfl _ rfl (H4.out.sv.set (.slice none 0 0))) rfl ⟨?_, H4.out.bel.setCell (p := ⟨N + 1, 0, none⟩) (by simp; omega) _⟩
    rw [hu]
    exact ⟨_, rfl, ownP_nil _ _⟩
end Go.Proofs.CW
namespace Go.Proofs.CW
open Go.RowKit Go.Shelf Go.Sort Go.Lib Go.Proofs.YtjfclkbdkafkcaaGreatDoorW.PrintWords Go.Proofs.YtjfclkbdkafkcaaGreatDoor.PF
attribute [local go_sem] Oper.semAt_some

section
variable {P : Program} {md : Region.Mode} {ops : Array Oper} {Q : Exit → Act → World → Prop} {S : World → Prop} {T : Array Bool → Act → World → Prop}
/-- Two operations may come up: each, walked. -/
theorem T_two {fuel : Nat} (i j : Nat) {o u : Oper} {listed : Array Bool} {a : Act} {w : World} (hr : Region.ready md ops listed = [i, j]) (hi : ops[i]? = some o) (hj : ops[j]? = some u)
    (hw : Region.wanted o (yielded ops a.tmps) = true) (hv : Region.wanted u (yielded ops a.tmps) = true) (h : o.wp P a w (fun a' w' => S w' ∧ wpAnyT P md ops Q S T fuel (listed.setIfInBounds i true) a' w') Q)
    (h2 : u.wp P a w (fun a' w' => S w' ∧ wpAnyT P md ops Q S T fuel (listed.setIfInBounds j true) a' w') Q) : wpAnyT P md ops Q S T (fuel + 1) listed a w := by
  refine ⟨by rw [hr]; simp, fun k hk => ?_⟩
  rw [hr] at hk
  rcases List.mem_cons.1 hk with rfl | hk
  · unfold wpOp
    simp only [hi, hw, if_true]
    exact .inl h
  · rw [List.mem_singleton] at hk
    subst hk
    unfold wpOp
    simp only [hj, hv, if_true]
    exact .inl h2
/-- Three operations may come up: each, walked. -/
theorem T_three {fuel : Nat} (i j m : Nat) {o u v : Oper} {listed : Array Bool} {a : Act} {w : World} (hr : Region.ready md ops listed = [i, j, m]) (hi : ops[i]? = some o) (hj : ops[j]? = some u) (hm : ops[m]? = some v)
    (hw : Region.wanted o (yielded ops a.tmps) = true) (hv : Region.wanted u (yielded ops a.tmps) = true) (hx : Region.wanted v (yielded ops a.tmps) = true) (h : o.wp P a w (fun a' w' => S w' ∧ wpAnyT P md ops Q S T fuel (listed.setIfInBounds i true) a' w') Q)
    (h2 : u.wp P a w (fun a' w' => S w' ∧ wpAnyT P md ops Q S T fuel (listed.setIfInBounds j true) a' w') Q) (h3 : v.wp P a w (fun a' w' => S w' ∧ wpAnyT P md ops Q S T fuel (listed.setIfInBounds m true) a' w') Q) : wpAnyT P md ops Q S T (fuel + 1) listed a w := by
  refine ⟨by rw [hr]; simp, fun k hk => ?_⟩
  rw [hr] at hk
  rcases List.mem_cons.1 hk with rfl | hk
  · unfold wpOp
    simp only [hi, hw, if_true]
    exact .inl h
  · rcases List.mem_cons.1 hk with rfl | hk
    · unfold wpOp
      simp only [hj, hv, if_true]
      exact .inl h2
    · rw [List.mem_singleton] at hk
      subst hk
      unfold wpOp
      simp only [hm, hx, if_true]
      exact .inl h3
end
end Go.Proofs.CW
namespace Go.Proofs.CW
open Go.RowKit Go.Shelf Go.Sort Go.Lib Go.Proofs.YtjfclkbdkafkcaaGreatDoorW.PrintWords Go.Proofs.YtjfclkbdkafkcaaGreatDoor.PF
attribute [local go_sem] Oper.semAt_some

theorem whole_lawS {l : List PS} (hl : l.length ≤ 12) (h : shortB 20 l = true) : WholeL l := by
  refine whole_law hl ?_
  unfold shortB at h
  rw [List.all_eq_true] at h
  intro p hp
  have := h p hp
  simp only [Bool.and_eq_true, decide_eq_true_eq] at this
  exact ⟨by omega, by omega⟩
theorem smalls_mapM {f : PS → Except Int PS} (hf : ∀ x y, f x = .ok y → Small y) : ∀ {l s : List PS}, l.mapM f = .ok s → Smalls s
  | [], s, h => by cases h; exact fun p hp => by cases hp
  | x :: l, s, h => by
    rw [List.mapM_cons] at h
    cases h1 : f x with
    | error e => rw [h1] at h; cases h
    | ok z =>
      rw [h1] at h
      cases h2 : l.mapM f with
      | error e => rw [h2] at h; cases h
      | ok r =>
        rw [h2] at h
        injection h with h
        subst h
        intro y hy
        rcases List.mem_cons.1 hy with rfl | hy
        · exact hf _ _ h1
        · exact smalls_mapM hf h2 y hy
theorem smalls_shareR {l s : List PS} {e : Int} (h : shareR l = (s, e)) : Smalls s := by
  unfold shareR at h
  have hnil : Smalls [] := fun p hp => by cases hp
  by_cases h0 : listR l = 0
  · rw [if_pos h0] at h
    cases h1 : sumE l with
    | error x => rw [h1] at h; have := congrArg Prod.fst h; simp only [] at this; subst this; exact hnil
    | ok q =>
      rw [h1] at h
      cases h2 : shareE l q with
      | error x => replace h : unL (shareE l q) = (s, e) := h; rw [h2] at h; have := congrArg Prod.fst h; simp only [] at this; subst this; exact hnil
      | ok r =>
        replace h : unL (shareE l q) = (s, e) := h
        rw [h2] at h
        have := congrArg Prod.fst h
        simp only [] at this
        subst this
        unfold shareE at h2
        by_cases h3 : q.1 = s0
        · rw [if_pos h3] at h2; cases h2
        · rw [if_neg h3] at h2
          exact smalls_mapM (fun x y hxy => small_div hxy) h2
  · rw [if_neg h0] at h
    have := congrArg Prod.fst h; simp only [] at this; subst this; exact hnil
/-- What the products of the law read. -/
abbrev WhS (a b : Addr) (x y : Nat) (p q r t : PS) (W : World) : Prop := W.cell? (a.add (x * 2)) = some (.string p.1) ∧ W.cell? ⟨(a.add (x * 2)).block, (a.add (x * 2)).off + 1, none⟩ = some (.string p.2) ∧ W.cell? (b.add (y * 2)) = some (.string q.1) ∧ W.cell? ⟨(b.add (y * 2)).block, (b.add (y * 2)).off + 1, none⟩ = some (.string q.2) ∧
  W.cell? (a.add (y * 2)) = some (.string r.1) ∧ W.cell? ⟨(a.add (y * 2)).block, (a.add (y * 2)).off + 1, none⟩ = some (.string r.2) ∧ W.cell? (b.add (x * 2)) = some (.string t.1) ∧ W.cell? ⟨(b.add (x * 2)).block, (b.add (x * 2)).off + 1, none⟩ = some (.string t.2)
theorem WhS.below {a b : Addr} {x y : Nat} {p q r t : PS} {W W' : World} (h : WhS a b x y p q r t W) (hb : Below W.heap.size W W') : WhS a b x y p q r t W' := by
  obtain ⟨h1, h2, h3, h4, h5, h6, h7, h8⟩ := h
  exact ⟨(hb.cell (cell_lt h1)).trans h1, (hb.cell (cell_lt h2)).trans h2, (hb.cell (cell_lt h3)).trans h3, (hb.cell (cell_lt h4)).trans h4, (hb.cell (cell_lt h5)).trans h5, (hb.cell (cell_lt h6)).trans h6, (hb.cell (cell_lt h7)).trans h7, (hb.cell (cell_lt h8)).trans h8⟩
/-- What the last look reads. -/
abbrev WhT (N0 N1 N2 : Nat) (m : PS) (W : World) : Prop := W.cell? ⟨N0, 0, none⟩ = some (.string s1) ∧ W.cell? ⟨N0, 1, none⟩ = some (.string s1) ∧ W.cell? ⟨N1, 0, none⟩ = some (.string m.1) ∧ W.cell? ⟨N1, 1, none⟩ = some (.string m.2) ∧ W.cell? ⟨N2, 0, none⟩ = some (.string m.1) ∧ W.cell? ⟨N2, 1, none⟩ = some (.string m.2)
theorem WhT.below {N0 N1 N2 : Nat} {m : PS} {W W' : World} (h : WhT N0 N1 N2 m W) (hb : Below W.heap.size W W') : WhT N0 N1 N2 m W' := by
  obtain ⟨h1, h2, h3, h4, h5, h6⟩ := h
  exact ⟨(hb.cell (cell_lt h1)).trans h1, (hb.cell (cell_lt h2)).trans h2, (hb.cell (cell_lt h3)).trans h3, (hb.cell (cell_lt h4)).trans h4, (hb.cell (cell_lt h5)).trans h5, (hb.cell (cell_lt h6)).trans h6⟩
theorem r11 : (ratioR 1 1).1 = p1 := by decide +kernel
theorem join2 {G : Nat → World → Prop} {goal : Prop} (R : Nat → World → Prop) (h : (∀ N V, R N V → G N V) → goal) (k : ∀ N V, R N V → G N V) : goal := h k
set_option maxRecDepth 100000 in
set_option maxHeartbeats 16000000 in
theorem whole_walk (A : Option Addr) (c : Nat) (l : List PS) (i k : Nat) (hi : i < 256) (hk : k < 256) (hsm : Smalls l) (hl : l.length ≤ 9223372036854775807) (w : World) (ht : Tab w) (hc : Kd.C kP w A l.length l) :
    Calls Tryz.prog 7 #[.slice A l.length c, .int .u8 i, .int .u8 k] w fun e W => e = .returned (.bool true) ∧ Below w.heap.size w W := by
  have HT := Lib.hid (And.intro ht (And.intro hc (And.intro hsm hl)))
  have HA := Lib.hid (alive_calls w ht)
  obtain ⟨n, hn⟩ : ∃ n, l.length = n := ⟨_, rfl⟩
  rw [hn]
  have HN := Lib.hid hn
  clear hn ht hc hsm hl
  go_enter Tryz.func7, Tryz.ntmps7
  go_wp2_with fail
  refine HA.out.mono ?_
  rintro e W1 ⟨rfl, hb⟩
  have B1 := Lib.hid hb
  clear hb
  by_cases h12 : (12 : Int) < (n : Int)
  · go_wp2_with fail
    go_ret
    exact ⟨rfl, B1.out⟩
  have HSH := Lib.hid (short_list 20 A c l HT.out.2.2.2 HT.out.2.2.1 W1 (Kd.C_below HT.out.2.1 B1.out))
  rw [HN.out] at HSH
  go_wp2_with fail
  refine HSH.out.mono ?_
  rintro e W2 ⟨rfl, hb⟩
  have B2 := Lib.hid (B1.out.trans (hb.mono B1.out.size))
  clear hb
  have k12 : decide ((12 : Int) < (n : Int)) = false := decide_eq_false (by omega)
  by_cases hsh : shortB 20 l = true
  case neg =>
    have hsf : shortB 20 l = false := by simpa using hsh
    rw [hsf]
    clear hsh hsf
    go_wp2_with fail
    go_ret
    exact ⟨rfl, B2.out⟩
  rw [hsh]
  have HSS := Lib.hid hsh
  clear hsh
  by_cases hn0 : n = 0
  · subst hn0
    go_wp2_with fail
    go_ret
    exact ⟨rfl, B2.out⟩
  have n1 : ¬ (n : Int) = 0 := by omega
  have k0 : decide ((n : Int) = 0) = false := decide_eq_false n1
  have HSA := Lib.hid (share_api A c l HT.out.2.2.1 (by have := HN.out; omega) W2 (HT.out.1.below B2.out) (Kd.C_below HT.out.2.1 B2.out))
  rw [HN.out] at HSA
  go_wp2_with fail
  refine HSA.out.mono ?_
  rintro e W3 ⟨hv, hb⟩
  have B3 := Lib.hid (B2.out.trans (hb.mono B2.out.size))
  clear hb
  have hwl := (whole_lawS (show l.length ≤ 12 by have := HN.out; omega) HSS.out).ex
  rcases hwl with ⟨x, h1, h2⟩ | ⟨s, h1, h2, h3, h4⟩
  · rw [h1] at hv
    obtain ⟨v, rfl, ho⟩ := hv
    obtain ⟨A3, c3, rfl, _, _, _⟩ := ownP_C ho
    clear h1 ho
    rcases h2 with rfl | rfl
    · go_wp2_with fail
      go_ret
      exact ⟨rfl, B3.out⟩
    · go_wp2_with fail
      go_ret
      exact ⟨rfl, B3.out⟩
  · rw [h1] at hv
    obtain ⟨v, rfl, ho⟩ := hv
    obtain ⟨A3, c3, rfl, hc3, _, _⟩ := ownP_C ho
    have HL := Lib.hid (And.intro h2 (And.intro h3 (And.intro h4 (And.intro hc3 h1))))
    rw [h2, HN.out]
    have HQ := Lib.hid (smalls_shareR h1)
    have HSU := Lib.hid (sum_api A3 c3 s HQ.out (by have := HN.out; omega) W3 (HT.out.1.below B3.out) hc3)
    rw [h3, h2, HN.out] at HSU
    clear h1 h2 h3 h4 ho hc3
    go_wp2_with fail
    refine HSU.out.mono ?_
    rintro e W4 ⟨rfl, hb⟩
    have B4 := Lib.hid (B3.out.trans (hb.mono B3.out.size))
    have HC4 := Lib.hid (And.intro (Kd.C_below HL.out.2.2.2.1 hb) (Kd.C_below HT.out.2.1 B4.out))
    obtain ⟨b5, p5, b6⟩ := box_step B4.out s1 s1
    have B5 := Lib.hid b5
    have P5 := Lib.hid (And.intro p5 b6)
    clear hb b5 p5 b6
    simp only [p1, rv_eq]
    go_wp2_with fail
    obtain ⟨x, hx⟩ : ∃ x : Nat, i % n = x := ⟨_, rfl⟩
    obtain ⟨y, hy⟩ : ∃ y : Nat, k % n = y := ⟨_, rfl⟩
    have hr1 : Int.tmod (i : Int) (n : Int) = (x : Int) := by rw [Int.tmod_eq_emod_of_nonneg (by omega), ← hx]; rfl
    have hr2 : Int.tmod (k : Int) (n : Int) = (y : Int) := by rw [Int.tmod_eq_emod_of_nonneg (by omega), ← hy]; rfl
    have hxn : x < n := by rw [← hx]; exact Nat.mod_lt _ (by omega)
    have hyn : y < n := by rw [← hy]; exact Nat.mod_lt _ (by omega)
    have hr3 : (i : Int) % (n : Int) = (x : Int) := by rw [← hx]; rfl
    have hr4 : (k : Int) % (n : Int) = (y : Int) := by rw [← hy]; rfl
    have HXY := Lib.hid (And.intro hxn hyn)
    clear hx hy hxn hyn
    refine region_tail (m := 11) (fun _ => True) 11 1 (by kernel_rfl) rfl ?_
    refine T_take 0 63 (.int .u8 i) rfl rfl (by kernel_rfl) (by kernel_rfl) (by kernel_rfl) (fun _ _ d _ _ h => by cases d <;> exact h) (by kernel_rfl) tail_only trivial (by kernel_rfl) (fun W hW => by go_simp) ?_
    try simp only [List.setIfInBounds_toArray, List.set_cons_zero, List.set_cons_succ]
    refine T_take 1 64 (.int .i64 i) rfl rfl (by kernel_rfl) (by kernel_rfl) (by kernel_rfl) (fun _ _ d _ _ h => by cases d <;> exact h) (by kernel_rfl) tail_only trivial (by kernel_rfl) (fun W hW => by go_simp; exact IntWalk.i64_in _ ⟨by omega, by omega⟩) ?_
    try simp only [List.setIfInBounds_toArray, List.set_cons_zero, List.set_cons_succ]
    refine T_take 2 65 (.slice A n c) rfl rfl (by kernel_rfl) (by kernel_rfl) (by kernel_rfl) (fun _ _ d _ _ h => by cases d <;> exact h) (by kernel_rfl) tail_only trivial (by kernel_rfl) (fun W hW => by go_simp) ?_
    try simp only [List.setIfInBounds_toArray, List.set_cons_zero, List.set_cons_succ]
    refine T_take 3 66 (.int .i64 n) rfl rfl (by kernel_rfl) (by kernel_rfl) (by kernel_rfl) (fun _ _ d _ _ h => by cases d <;> exact h) (by kernel_rfl) tail_only trivial (by kernel_rfl) (fun W hW => by go_simp) ?_
    try simp only [List.setIfInBounds_toArray, List.set_cons_zero, List.set_cons_succ]
    refine T_take 4 67 (.int .i64 x) rfl rfl (by kernel_rfl) (by kernel_rfl) (by kernel_rfl) (fun _ _ d _ _ h => by cases d <;> exact h) (by kernel_rfl) tail_only trivial (by kernel_rfl) (fun W hW => by go_simp) ?_
    try simp only [List.setIfInBounds_toArray, List.set_cons_zero, List.set_cons_succ]
    refine T_take 5 68 (.int .u8 k) rfl rfl (by kernel_rfl) (by kernel_rfl) (by kernel_rfl) (fun _ _ d _ _ h => by cases d <;> exact h) (by kernel_rfl) tail_only trivial (by kernel_rfl) (fun W hW => by go_simp) ?_
    try simp only [List.setIfInBounds_toArray, List.set_cons_zero, List.set_cons_succ]
    refine T_take 6 69 (.int .i64 k) rfl rfl (by kernel_rfl) (by kernel_rfl) (by kernel_rfl) (fun _ _ d _ _ h => by cases d <;> exact h) (by kernel_rfl) tail_only trivial (by kernel_rfl) (fun W hW => by go_simp; exact IntWalk.i64_in _ ⟨by omega, by omega⟩) ?_
    try simp only [List.setIfInBounds_toArray, List.set_cons_zero, List.set_cons_succ]
    refine T_take 7 70 (.slice A n c) rfl rfl (by kernel_rfl) (by kernel_rfl) (by kernel_rfl) (fun _ _ d _ _ h => by cases d <;> exact h) (by kernel_rfl) tail_only trivial (by kernel_rfl) (fun W hW => by go_simp) ?_
    try simp only [List.setIfInBounds_toArray, List.set_cons_zero, List.set_cons_succ]
    refine T_take 8 71 (.int .i64 n) rfl rfl (by kernel_rfl) (by kernel_rfl) (by kernel_rfl) (fun _ _ d _ _ h => by cases d <;> exact h) (by kernel_rfl) tail_only trivial (by kernel_rfl) (fun W hW => by go_simp) ?_
    try simp only [List.setIfInBounds_toArray, List.set_cons_zero, List.set_cons_succ]
    refine T_take 9 72 (.int .i64 y) rfl rfl (by kernel_rfl) (by kernel_rfl) (by kernel_rfl) (fun _ _ d _ _ h => by cases d <;> exact h) (by kernel_rfl) tail_only trivial (by kernel_rfl) (fun W hW => by go_simp) ?_
    try simp only [List.setIfInBounds_toArray, List.set_cons_zero, List.set_cons_succ]
    refine T_only 10 (by kernel_rfl) rfl (by kernel_rfl) ?_
    unfold Oper.wp
    go_simp
    refine ⟨by kernel_rfl, ?_⟩
    refine any_only 11 (by kernel_rfl) rfl (by kernel_rfl) ?_
    unfold Oper.wp
    go_simp
    refine any_done (by kernel_rfl) ?_
    clear hr1 hr2 hr3 hr4
    have hx1 : x < s.length := by rw [HL.out.1, HN.out]; exact HXY.out.1
    have hy1 : y < s.length := by rw [HL.out.1, HN.out]; exact HXY.out.2
    have hx2 : x < l.length := by rw [HN.out]; exact HXY.out.1
    have hy2 : y < l.length := by rw [HN.out]; exact HXY.out.2
    obtain ⟨a3, e3, d1, d2⟩ := at_P HC4.out.1 x hx1 hx1
    obtain ⟨_, e4, d5, d6⟩ := at_P HC4.out.1 y hy1 hy1
    obtain ⟨b3, e5, d3, d4⟩ := at_P HC4.out.2 y hy2 hy2
    obtain ⟨_, e6, d7, d8⟩ := at_P HC4.out.2 x hx2 hx2
    subst e3 e5
    injection e4 with e4
    injection e6 with e6
    subst e4 e6
    have hS4 : WhS a3 b3 x y _ _ _ _ W4 := ⟨d1, d2, d3, d4, d5, d6, d7, d8⟩
    clear d1 d2 d3 d4 d5 d6 d7 d8
    obtain ⟨m, hm1, hm2⟩ := HL.out.2.2.1 x y hx2 hy2 hx1 hy1
    have sp := HQ.out _ (List.getElem_mem hx1)
    have sr := HQ.out _ (List.getElem_mem hy1)
    have st := HT.out.2.2.1 _ (List.getElem_mem hx2)
    have sq := HT.out.2.2.1 _ (List.getElem_mem hy2)
    generalize s[x]'hx1 = p at hS4 hm1 hm2 sp
    generalize s[y]'hy1 = r at hS4 hm1 hm2 sr
    generalize l[x]'hx2 = t at hS4 hm1 hm2 st
    generalize l[y]'hy2 = q at hS4 hm1 hm2 sq
    clear hx1 hy1 hx2 hy2
    obtain ⟨pn, pd⟩ := p
    obtain ⟨rn, rd⟩ := r
    obtain ⟨tn, td⟩ := t
    obtain ⟨qn, qd⟩ := q
    obtain ⟨mn, md⟩ := m
    have HMU := Lib.hid (And.intro hm1 (And.intro hm2 (And.intro (And.intro sp sq) (And.intro sr st))))
    clear hm1 hm2 sp sq sr st
    go_wp2_with fail
    have hx0 : (0 : Int) ≤ (x : Int) := by omega
    have hy0 : (0 : Int) ≤ (y : Int) := by omega
    have hxi : (x : Int) < (n : Int) := by have := HXY.out.1; omega
    have hyi : (y : Int) < (n : Int) := by have := HXY.out.2; omega
    obtain ⟨V5, hV5⟩ : ∃ V, (W4.alloc (.cells #[.string s1, .string s1] 24)) = V := ⟨_, rfl⟩
    have hS5 : WhS a3 b3 x y (pn, pd) (qn, qd) (rn, rd) (tn, td) V5.drew.drew := by
      have := hS4.below P5.out.2
      rw [hV5] at this
      exact this
    rw [hV5]
    refine region_tail (m := 14) (WhS a3 b3 x y (pn, pd) (qn, qd) (rn, rd) (tn, td)) 14 1 (by kernel_rfl) rfl ?_
    refine T_take 0 74 (.slice (some a3) n c3) rfl rfl (by kernel_rfl) (by kernel_rfl) (by kernel_rfl) (fun _ _ d _ _ h => by cases d <;> exact h) (by kernel_rfl) tail_only hS5 (by kernel_rfl) (fun W hW => by obtain ⟨s1, s2, s3, s4, s5, s6, s7, s8⟩ := hW; go_simp) ?_
    try simp only [List.setIfInBounds_toArray, List.set_cons_zero, List.set_cons_succ]
    refine T_take 1 75 (.int .i64 x) rfl rfl (by kernel_rfl) (by kernel_rfl) (by kernel_rfl) (fun _ _ d _ _ h => by cases d <;> exact h) (by kernel_rfl) tail_only hS5 (by kernel_rfl) (fun W hW => by obtain ⟨s1, s2, s3, s4, s5, s6, s7, s8⟩ := hW; go_simp) ?_
    try simp only [List.setIfInBounds_toArray, List.set_cons_zero, List.set_cons_succ]
    refine T_take 2 76 (.pointer (some (a3.add (x * 2)))) rfl rfl (by kernel_rfl) (by kernel_rfl) (by kernel_rfl) (fun _ _ d _ _ h => by cases d <;> exact h) (by kernel_rfl) tail_only hS5 (by kernel_rfl) (fun W hW => by obtain ⟨s1, s2, s3, s4, s5, s6, s7, s8⟩ := hW; go_simp) ?_
    try simp only [List.setIfInBounds_toArray, List.set_cons_zero, List.set_cons_succ]
    refine T_take 3 77 (.agg #[.string pn, .string pd]) rfl rfl (by kernel_rfl) (by kernel_rfl) (by kernel_rfl) (fun _ _ d _ _ h => by cases d <;> exact h) (by kernel_rfl) tail_only hS5 (by kernel_rfl) (fun W hW => by obtain ⟨s1, s2, s3, s4, s5, s6, s7, s8⟩ := hW; go_simp) ?_
    try simp only [List.setIfInBounds_toArray, List.set_cons_zero, List.set_cons_succ]
    refine T_take 4 78 (.slice (some b3) n c) rfl rfl (by kernel_rfl) (by kernel_rfl) (by kernel_rfl) (fun _ _ d _ _ h => by cases d <;> exact h) (by kernel_rfl) tail_only hS5 (by kernel_rfl) (fun W hW => by obtain ⟨s1, s2, s3, s4, s5, s6, s7, s8⟩ := hW; go_simp) ?_
    try simp only [List.setIfInBounds_toArray, List.set_cons_zero, List.set_cons_succ]
    refine T_take 5 79 (.int .i64 y) rfl rfl (by kernel_rfl) (by kernel_rfl) (by kernel_rfl) (fun _ _ d _ _ h => by cases d <;> exact h) (by kernel_rfl) tail_only hS5 (by kernel_rfl) (fun W hW => by obtain ⟨s1, s2, s3, s4, s5, s6, s7, s8⟩ := hW; go_simp) ?_
    try simp only [List.setIfInBounds_toArray, List.set_cons_zero, List.set_cons_succ]
    refine T_take 6 80 (.pointer (some (b3.add (y * 2)))) rfl rfl (by kernel_rfl) (by kernel_rfl) (by kernel_rfl) (fun _ _ d _ _ h => by cases d <;> exact h) (by kernel_rfl) tail_only hS5 (by kernel_rfl) (fun W hW => by obtain ⟨s1, s2, s3, s4, s5, s6, s7, s8⟩ := hW; go_simp) ?_
    try simp only [List.setIfInBounds_toArray, List.set_cons_zero, List.set_cons_succ]
    refine T_take 7 81 (.agg #[.string qn, .string qd]) rfl rfl (by kernel_rfl) (by kernel_rfl) (by kernel_rfl) (fun _ _ d _ _ h => by cases d <;> exact h) (by kernel_rfl) tail_only hS5 (by kernel_rfl) (fun W hW => by obtain ⟨s1, s2, s3, s4, s5, s6, s7, s8⟩ := hW; go_simp) ?_
    try simp only [List.setIfInBounds_toArray, List.set_cons_zero, List.set_cons_succ]
    have HPB0 : Hid (PBs V5.drew.drew [(W4.heap.size, (s1, s1))]) := Lib.hid (by have h : PBs V5 [(W4.heap.size, (s1, s1))] := (fun z hz => by simp at hz; subst hz; have := P5.out.1; rw [hV5] at this; exact this); exact h)
    have HB0 : Hid (Below w.heap.size w V5.drew.drew) := Lib.hid (below_drew1 (below_drew1 (by have := B5.out; rw [hV5] at this; exact this)))
    have HC0 : Hid (Below W4.heap.size W4 V5.drew.drew) := Lib.hid (below_drew1 (below_drew1 (by have := P5.out.2; rw [hV5] at this; exact this)))
    obtain ⟨V6, hV6⟩ : ∃ V, V5.drew.drew = V := ⟨_, rfl⟩
    rw [hV6] at HPB0 HB0 HC0 hS5 ⊢
    apply join2 (fun (N : Nat) (V : World) => Hid (PBs V [(W4.heap.size, (s1, s1)), (N, (mn, md))]) ∧ Hid (Below w.heap.size w V) ∧ Hid (Below W4.heap.size W4 V))
    · intro key
      refine T_two 8 12 (by kernel_rfl) rfl rfl (by kernel_rfl) (by kernel_rfl) ?_ ?_
      · unfold Oper.wp
        go_simp
        refine (mul_calls (pn, pd) (qn, qd) HMU.out.2.2.1.1 HMU.out.2.2.1.2 V6 (HT.out.1.below HB0.out)).mono ?_
        rintro e U1a ⟨rfl, hb⟩
        rw [HMU.out.1]
        have hS := hS5.below hb
        have hB := Lib.hid (HB0.out.trans (hb.mono HB0.out.size))
        have hC := Lib.hid (HC0.out.trans (hb.mono HC0.out.size))
        have hP := Lib.hid (HPB0.out.below hb)
        clear hb
        simp only [rv_eq]
        refine ⟨hS, ?_⟩
        try simp only [List.setIfInBounds_toArray, List.set_cons_zero, List.set_cons_succ]
        refine T_take 9 _ _ rfl rfl (by kernel_rfl) (by kernel_rfl) (by kernel_rfl) (fun _ _ d _ _ h => by cases d <;> exact h) (by kernel_rfl) tail_only hS (by kernel_rfl) (fun W hW => by obtain ⟨zs1, zs2, zs3, zs4, zs5, zs6, zs7, zs8⟩ := hW; go_simp; try exact rfl) ?_
        try simp only [List.setIfInBounds_toArray, List.set_cons_zero, List.set_cons_succ]
        refine T_take 10 _ _ rfl rfl (by kernel_rfl) (by kernel_rfl) (by kernel_rfl) (fun _ _ d _ _ h => by cases d <;> exact h) (by kernel_rfl) tail_only hS (by kernel_rfl) (fun W hW => by obtain ⟨zs1, zs2, zs3, zs4, zs5, zs6, zs7, zs8⟩ := hW; go_simp; try exact rfl) ?_
        try simp only [List.setIfInBounds_toArray, List.set_cons_zero, List.set_cons_succ]
        refine T_take 11 _ _ rfl rfl (by kernel_rfl) (by kernel_rfl) (by kernel_rfl) (fun _ _ d _ _ h => by cases d <;> exact h) (by kernel_rfl) tail_only hS (by kernel_rfl) (fun W hW => by obtain ⟨zs1, zs2, zs3, zs4, zs5, zs6, zs7, zs8⟩ := hW; go_simp; try exact rfl) ?_
        try simp only [List.setIfInBounds_toArray, List.set_cons_zero, List.set_cons_succ]
        refine T_only 12 (by kernel_rfl) rfl (by kernel_rfl) ?_
        unfold Oper.wp
        go_simp
        refine ⟨hS.below (alloc_below U1a (.cells #[.string ⟨#[]⟩, .string ⟨#[]⟩] 24)), ?_⟩
        try simp only [List.setIfInBounds_toArray, List.set_cons_zero, List.set_cons_succ]
        have f1 := (hP.out.box ⟨#[]⟩ ⟨#[]⟩).at (i := 1) (N := U1a.heap.size) (p := (⟨#[]⟩, ⟨#[]⟩)) rfl
        obtain ⟨f1a, f1b, f1c, f1d⟩ := f1.cell
        refine T_only 13 (by kernel_rfl) rfl (by kernel_rfl) ?_
        unfold Oper.wp
        go_simp
        refine ⟨hS4.below (hC.out.alloc hC.out.size (.cells #[.string mn, .string md] 24)), by kernel_rfl, ?_⟩
        refine any_only 14 (by kernel_rfl) rfl (by kernel_rfl) ?_
        unfold Oper.wp
        go_simp
        refine any_done (by kernel_rfl) ?_
        have gN := hP.out.box mn md
        have gb := hB.out.alloc hB.out.size (.cells #[.string mn, .string md] 24)
        have gc := hC.out.alloc hC.out.size (.cells #[.string mn, .string md] 24)
        obtain ⟨V, hV⟩ : ∃ z, U1a.alloc (.cells #[.string mn, .string md] 24) = z := ⟨_, rfl⟩
        rw [hV] at gN gb gc ⊢
        obtain ⟨M, hM⟩ : ∃ z, U1a.heap.size = z := ⟨_, rfl⟩
        rw [hM] at gN ⊢
        exact key M V ⟨Lib.hid gN, Lib.hid gb, Lib.hid gc⟩
      · unfold Oper.wp
        go_simp
        have hS := hS5.below (alloc_below V6 (.cells #[.string ⟨#[]⟩, .string ⟨#[]⟩] 24))
        have hQ := Lib.hid (HPB0.out.box ⟨#[]⟩ ⟨#[]⟩)
        have hB := Lib.hid (HB0.out.alloc HB0.out.size (.cells #[.string ⟨#[]⟩, .string ⟨#[]⟩] 24))
        have hC := Lib.hid (HC0.out.alloc HC0.out.size (.cells #[.string ⟨#[]⟩, .string ⟨#[]⟩] 24))
        refine ⟨hS, ?_⟩
        try simp only [List.setIfInBounds_toArray, List.set_cons_zero, List.set_cons_succ]
        refine T_only 8 (by kernel_rfl) rfl (by kernel_rfl) ?_
        unfold Oper.wp
        go_simp
        refine (mul_calls (pn, pd) (qn, qd) HMU.out.2.2.1.1 HMU.out.2.2.1.2 (V6.alloc (.cells #[.string ⟨#[]⟩, .string ⟨#[]⟩] 24)) (HT.out.1.below hB.out)).mono ?_
        rintro e U1b ⟨rfl, hb⟩
        rw [HMU.out.1]
        have hS2 := hS.below hb
        have hN := hQ.out.below hb
        have hK := Lib.hid (hB.out.trans (hb.mono hB.out.size))
        have hL := Lib.hid (hC.out.trans (hb.mono hC.out.size))
        clear hb
        simp only [rv_eq]
        refine ⟨hS2, ?_⟩
        try simp only [List.setIfInBounds_toArray, List.set_cons_zero, List.set_cons_succ]
        refine T_take 9 _ _ rfl rfl (by kernel_rfl) (by kernel_rfl) (by kernel_rfl) (fun _ _ d _ _ h => by cases d <;> exact h) (by kernel_rfl) tail_only hS2 (by kernel_rfl) (fun W hW => by obtain ⟨zs1, zs2, zs3, zs4, zs5, zs6, zs7, zs8⟩ := hW; go_simp; try exact rfl) ?_
        try simp only [List.setIfInBounds_toArray, List.set_cons_zero, List.set_cons_succ]
        refine T_take 10 _ _ rfl rfl (by kernel_rfl) (by kernel_rfl) (by kernel_rfl) (fun _ _ d _ _ h => by cases d <;> exact h) (by kernel_rfl) tail_only hS2 (by kernel_rfl) (fun W hW => by obtain ⟨zs1, zs2, zs3, zs4, zs5, zs6, zs7, zs8⟩ := hW; go_simp; try exact rfl) ?_
        try simp only [List.setIfInBounds_toArray, List.set_cons_zero, List.set_cons_succ]
        refine T_take 11 _ _ rfl rfl (by kernel_rfl) (by kernel_rfl) (by kernel_rfl) (fun _ _ d _ _ h => by cases d <;> exact h) (by kernel_rfl) tail_only hS2 (by kernel_rfl) (fun W hW => by obtain ⟨zs1, zs2, zs3, zs4, zs5, zs6, zs7, zs8⟩ := hW; go_simp; try exact rfl) ?_
        try simp only [List.setIfInBounds_toArray, List.set_cons_zero, List.set_cons_succ]
        have f1 := (hN.at (i := 1) (N := V6.heap.size) (p := (⟨#[]⟩, ⟨#[]⟩)) rfl).cell
        obtain ⟨f1a, f1b, f1c, f1d⟩ := f1
        refine T_only 13 (by kernel_rfl) rfl (by kernel_rfl) ?_
        unfold Oper.wp
        go_simp
        have l0 : W4.heap.size < V6.heap.size := (HPB0.out.at (i := 0) (N := W4.heap.size) (p := (s1, s1)) rfl).lt
        have g0 := ((hN.at (i := 0) (N := W4.heap.size) (p := (s1, s1)) rfl).keep (p := ⟨V6.heap.size, 0, none⟩) (by show V6.heap.size ≠ W4.heap.size; omega) (.string mn)).keep (p := ⟨V6.heap.size, 1, none⟩) (by show V6.heap.size ≠ W4.heap.size; omega) (.string md)
        have g1 := (hN.at (i := 1) (N := V6.heap.size) (p := (⟨#[]⟩, ⟨#[]⟩)) rfl).set mn md
        have hwN : w.heap.size ≤ V6.heap.size ∧ W4.heap.size ≤ V6.heap.size := by have := B4.out.size; have := l0; omega
        have gb := (hK.out.setCell (p := ⟨V6.heap.size, 0, none⟩) hwN.1 (.string mn)).setCell (p := ⟨V6.heap.size, 1, none⟩) hwN.1 (.string md)
        have gc := (hL.out.setCell (p := ⟨V6.heap.size, 0, none⟩) hwN.2 (.string mn)).setCell (p := ⟨V6.heap.size, 1, none⟩) hwN.2 (.string md)
        refine ⟨hS4.below gc, by kernel_rfl, ?_⟩
        refine any_only 14 (by kernel_rfl) rfl (by kernel_rfl) ?_
        unfold Oper.wp
        go_simp
        refine any_done (by kernel_rfl) ?_
        obtain ⟨V, hV⟩ : ∃ z, ((U1b.setCell ⟨V6.heap.size, 0, none⟩ (.string mn)).setCell ⟨V6.heap.size, 1, none⟩ (.string md)) = z := ⟨_, rfl⟩
        rw [hV] at g0 g1 gb gc ⊢
        obtain ⟨M, hM⟩ : ∃ z, V6.heap.size = z := ⟨_, rfl⟩
        rw [hM] at g1 ⊢
        exact key M V ⟨Lib.hid (fun z hz => by simp at hz; rcases hz with rfl | rfl; exact g0; exact g1), Lib.hid gb, Lib.hid gc⟩
    intro N1 V1 hR
    obtain ⟨HP1, HB1, HC1⟩ := hR
    go_wp2_with fail
    have hS9 : WhS a3 b3 x y (pn, pd) (qn, qd) (rn, rd) (tn, td) V1.drew := hS4.below (below_drew1 HC1.out)
    refine region_tail (m := 14) (WhS a3 b3 x y (pn, pd) (qn, qd) (rn, rd) (tn, td)) 14 1 (by kernel_rfl) rfl ?_
    refine T_take 0 _ _ rfl rfl (by kernel_rfl) (by kernel_rfl) (by kernel_rfl) (fun _ _ d _ _ h => by cases d <;> exact h) (by kernel_rfl) tail_only hS9 (by kernel_rfl) (fun W hW => by obtain ⟨zs1, zs2, zs3, zs4, zs5, zs6, zs7, zs8⟩ := hW; go_simp; try exact rfl) ?_
    try simp only [List.setIfInBounds_toArray, List.set_cons_zero, List.set_cons_succ]
    refine T_take 1 _ _ rfl rfl (by kernel_rfl) (by kernel_rfl) (by kernel_rfl) (fun _ _ d _ _ h => by cases d <;> exact h) (by kernel_rfl) tail_only hS9 (by kernel_rfl) (fun W hW => by obtain ⟨zs1, zs2, zs3, zs4, zs5, zs6, zs7, zs8⟩ := hW; go_simp; try exact rfl) ?_
    try simp only [List.setIfInBounds_toArray, List.set_cons_zero, List.set_cons_succ]
    refine T_take 2 _ _ rfl rfl (by kernel_rfl) (by kernel_rfl) (by kernel_rfl) (fun _ _ d _ _ h => by cases d <;> exact h) (by kernel_rfl) tail_only hS9 (by kernel_rfl) (fun W hW => by obtain ⟨zs1, zs2, zs3, zs4, zs5, zs6, zs7, zs8⟩ := hW; go_simp; try exact rfl) ?_
    try simp only [List.setIfInBounds_toArray, List.set_cons_zero, List.set_cons_succ]
    refine T_take 3 _ _ rfl rfl (by kernel_rfl) (by kernel_rfl) (by kernel_rfl) (fun _ _ d _ _ h => by cases d <;> exact h) (by kernel_rfl) tail_only hS9 (by kernel_rfl) (fun W hW => by obtain ⟨zs1, zs2, zs3, zs4, zs5, zs6, zs7, zs8⟩ := hW; go_simp; try exact rfl) ?_
    try simp only [List.setIfInBounds_toArray, List.set_cons_zero, List.set_cons_succ]
    refine T_take 4 _ _ rfl rfl (by kernel_rfl) (by kernel_rfl) (by kernel_rfl) (fun _ _ d _ _ h => by cases d <;> exact h) (by kernel_rfl) tail_only hS9 (by kernel_rfl) (fun W hW => by obtain ⟨zs1, zs2, zs3, zs4, zs5, zs6, zs7, zs8⟩ := hW; go_simp; try exact rfl) ?_
    try simp only [List.setIfInBounds_toArray, List.set_cons_zero, List.set_cons_succ]
    refine T_take 5 _ _ rfl rfl (by kernel_rfl) (by kernel_rfl) (by kernel_rfl) (fun _ _ d _ _ h => by cases d <;> exact h) (by kernel_rfl) tail_only hS9 (by kernel_rfl) (fun W hW => by obtain ⟨zs1, zs2, zs3, zs4, zs5, zs6, zs7, zs8⟩ := hW; go_simp; try exact rfl) ?_
    try simp only [List.setIfInBounds_toArray, List.set_cons_zero, List.set_cons_succ]
    refine T_take 6 _ _ rfl rfl (by kernel_rfl) (by kernel_rfl) (by kernel_rfl) (fun _ _ d _ _ h => by cases d <;> exact h) (by kernel_rfl) tail_only hS9 (by kernel_rfl) (fun W hW => by obtain ⟨zs1, zs2, zs3, zs4, zs5, zs6, zs7, zs8⟩ := hW; go_simp; try exact rfl) ?_
    try simp only [List.setIfInBounds_toArray, List.set_cons_zero, List.set_cons_succ]
    refine T_take 7 _ _ rfl rfl (by kernel_rfl) (by kernel_rfl) (by kernel_rfl) (fun _ _ d _ _ h => by cases d <;> exact h) (by kernel_rfl) tail_only hS9 (by kernel_rfl) (fun W hW => by obtain ⟨zs1, zs2, zs3, zs4, zs5, zs6, zs7, zs8⟩ := hW; go_simp; try exact rfl) ?_
    try simp only [List.setIfInBounds_toArray, List.set_cons_zero, List.set_cons_succ]
    have HP19 : Hid (PBs V1.drew [(W4.heap.size, (s1, s1)), (N1, (mn, md))]) := HP1
    have HB19 := Lib.hid (below_drew1 HB1.out)
    have HC19 := Lib.hid (below_drew1 HC1.out)
    obtain ⟨V7, hV7⟩ : ∃ V, V1.drew = V := ⟨_, rfl⟩
    rw [hV7] at HP19 HB19 HC19 hS9 ⊢
    apply join2 (fun (N : Nat) (V : World) => Hid (PBs V [(W4.heap.size, (s1, s1)), (N1, (mn, md)), (N, (mn, md))]) ∧ Hid (Below w.heap.size w V) ∧ Hid (Below W4.heap.size W4 V))
    · intro key
      refine T_two 8 12 (by kernel_rfl) rfl rfl (by kernel_rfl) (by kernel_rfl) ?_ ?_
      · unfold Oper.wp
        go_simp
        refine (mul_calls (rn, rd) (tn, td) HMU.out.2.2.2.1 HMU.out.2.2.2.2 V7 (HT.out.1.below HB19.out)).mono ?_
        rintro e U2a ⟨rfl, hb⟩
        rw [HMU.out.2.1]
        have hS := hS9.below hb
        have hB := Lib.hid (HB19.out.trans (hb.mono HB19.out.size))
        have hC := Lib.hid (HC19.out.trans (hb.mono HC19.out.size))
        have hP := Lib.hid (HP19.out.below hb)
        clear hb
        simp only [rv_eq]
        refine ⟨hS, ?_⟩
        try simp only [List.setIfInBounds_toArray, List.set_cons_zero, List.set_cons_succ]
        refine T_take 9 _ _ rfl rfl (by kernel_rfl) (by kernel_rfl) (by kernel_rfl) (fun _ _ d _ _ h => by cases d <;> exact h) (by kernel_rfl) tail_only hS (by kernel_rfl) (fun W hW => by obtain ⟨zs1, zs2, zs3, zs4, zs5, zs6, zs7, zs8⟩ := hW; go_simp; try exact rfl) ?_
        try simp only [List.setIfInBounds_toArray, List.set_cons_zero, List.set_cons_succ]
        refine T_take 10 _ _ rfl rfl (by kernel_rfl) (by kernel_rfl) (by kernel_rfl) (fun _ _ d _ _ h => by cases d <;> exact h) (by kernel_rfl) tail_only hS (by kernel_rfl) (fun W hW => by obtain ⟨zs1, zs2, zs3, zs4, zs5, zs6, zs7, zs8⟩ := hW; go_simp; try exact rfl) ?_
        try simp only [List.setIfInBounds_toArray, List.set_cons_zero, List.set_cons_succ]
        refine T_take 11 _ _ rfl rfl (by kernel_rfl) (by kernel_rfl) (by kernel_rfl) (fun _ _ d _ _ h => by cases d <;> exact h) (by kernel_rfl) tail_only hS (by kernel_rfl) (fun W hW => by obtain ⟨zs1, zs2, zs3, zs4, zs5, zs6, zs7, zs8⟩ := hW; go_simp; try exact rfl) ?_
        try simp only [List.setIfInBounds_toArray, List.set_cons_zero, List.set_cons_succ]
        refine T_only 12 (by kernel_rfl) rfl (by kernel_rfl) ?_
        unfold Oper.wp
        go_simp
        refine ⟨hS.below (alloc_below U2a (.cells #[.string ⟨#[]⟩, .string ⟨#[]⟩] 24)), ?_⟩
        try simp only [List.setIfInBounds_toArray, List.set_cons_zero, List.set_cons_succ]
        have f1 := (hP.out.box ⟨#[]⟩ ⟨#[]⟩).at (i := 2) (N := U2a.heap.size) (p := (⟨#[]⟩, ⟨#[]⟩)) rfl
        obtain ⟨f1a, f1b, f1c, f1d⟩ := f1.cell
        refine T_only 13 (by kernel_rfl) rfl (by kernel_rfl) ?_
        unfold Oper.wp
        go_simp
        refine ⟨hS4.below (hC.out.alloc hC.out.size (.cells #[.string mn, .string md] 24)), by kernel_rfl, ?_⟩
        refine any_only 14 (by kernel_rfl) rfl (by kernel_rfl) ?_
        unfold Oper.wp
        go_simp
        refine any_done (by kernel_rfl) ?_
        have gN := hP.out.box mn md
        have gb := hB.out.alloc hB.out.size (.cells #[.string mn, .string md] 24)
        have gc := hC.out.alloc hC.out.size (.cells #[.string mn, .string md] 24)
        obtain ⟨V, hV⟩ : ∃ z, U2a.alloc (.cells #[.string mn, .string md] 24) = z := ⟨_, rfl⟩
        rw [hV] at gN gb gc ⊢
        obtain ⟨M, hM⟩ : ∃ z, U2a.heap.size = z := ⟨_, rfl⟩
        rw [hM] at gN ⊢
        exact key M V ⟨Lib.hid gN, Lib.hid gb, Lib.hid gc⟩
      · unfold Oper.wp
        go_simp
        have hS := hS9.below (alloc_below V7 (.cells #[.string ⟨#[]⟩, .string ⟨#[]⟩] 24))
        have hQ := Lib.hid (HP19.out.box ⟨#[]⟩ ⟨#[]⟩)
        have hB := Lib.hid (HB19.out.alloc HB19.out.size (.cells #[.string ⟨#[]⟩, .string ⟨#[]⟩] 24))
        have hC := Lib.hid (HC19.out.alloc HC19.out.size (.cells #[.string ⟨#[]⟩, .string ⟨#[]⟩] 24))
        refine ⟨hS, ?_⟩
        try simp only [List.setIfInBounds_toArray, List.set_cons_zero, List.set_cons_succ]
        refine T_only 8 (by kernel_rfl) rfl (by kernel_rfl) ?_
        unfold Oper.wp
        go_simp
        refine (mul_calls (rn, rd) (tn, td) HMU.out.2.2.2.1 HMU.out.2.2.2.2 (V7.alloc (.cells #[.string ⟨#[]⟩, .string ⟨#[]⟩] 24)) (HT.out.1.below hB.out)).mono ?_
        rintro e U2b ⟨rfl, hb⟩
        rw [HMU.out.2.1]
        have hS2 := hS.below hb
        have hN := hQ.out.below hb
        have hK := Lib.hid (hB.out.trans (hb.mono hB.out.size))
        have hL := Lib.hid (hC.out.trans (hb.mono hC.out.size))
        clear hb
        simp only [rv_eq]
        refine ⟨hS2, ?_⟩
        try simp only [List.setIfInBounds_toArray, List.set_cons_zero, List.set_cons_succ]
        refine T_take 9 _ _ rfl rfl (by kernel_rfl) (by kernel_rfl) (by kernel_rfl) (fun _ _ d _ _ h => by cases d <;> exact h) (by kernel_rfl) tail_only hS2 (by kernel_rfl) (fun W hW => by obtain ⟨zs1, zs2, zs3, zs4, zs5, zs6, zs7, zs8⟩ := hW; go_simp; try exact rfl) ?_
        try simp only [List.setIfInBounds_toArray, List.set_cons_zero, List.set_cons_succ]
        refine T_take 10 _ _ rfl rfl (by kernel_rfl) (by kernel_rfl) (by kernel_rfl) (fun _ _ d _ _ h => by cases d <;> exact h) (by kernel_rfl) tail_only hS2 (by kernel_rfl) (fun W hW => by obtain ⟨zs1, zs2, zs3, zs4, zs5, zs6, zs7, zs8⟩ := hW; go_simp; try exact rfl) ?_
        try simp only [List.setIfInBounds_toArray, List.set_cons_zero, List.set_cons_succ]
        refine T_take 11 _ _ rfl rfl (by kernel_rfl) (by kernel_rfl) (by kernel_rfl) (fun _ _ d _ _ h => by cases d <;> exact h) (by kernel_rfl) tail_only hS2 (by kernel_rfl) (fun W hW => by obtain ⟨zs1, zs2, zs3, zs4, zs5, zs6, zs7, zs8⟩ := hW; go_simp; try exact rfl) ?_
        try simp only [List.setIfInBounds_toArray, List.set_cons_zero, List.set_cons_succ]
        have f1 := (hN.at (i := 2) (N := V7.heap.size) (p := (⟨#[]⟩, ⟨#[]⟩)) rfl).cell
        obtain ⟨f1a, f1b, f1c, f1d⟩ := f1
        refine T_only 13 (by kernel_rfl) rfl (by kernel_rfl) ?_
        unfold Oper.wp
        go_simp
        have l0 : W4.heap.size < V7.heap.size := (HP19.out.at (i := 0) (N := W4.heap.size) (p := (s1, s1)) rfl).lt
        have g0 := ((hN.at (i := 0) (N := W4.heap.size) (p := (s1, s1)) rfl).keep (p := ⟨V7.heap.size, 0, none⟩) (by show V7.heap.size ≠ W4.heap.size; omega) (.string mn)).keep (p := ⟨V7.heap.size, 1, none⟩) (by show V7.heap.size ≠ W4.heap.size; omega) (.string md)
        have l1 : N1 < V7.heap.size := (HP19.out.at (i := 1) (N := N1) (p := (mn, md)) rfl).lt
        have g1 := ((hN.at (i := 1) (N := N1) (p := (mn, md)) rfl).keep (p := ⟨V7.heap.size, 0, none⟩) (by show V7.heap.size ≠ N1; omega) (.string mn)).keep (p := ⟨V7.heap.size, 1, none⟩) (by show V7.heap.size ≠ N1; omega) (.string md)
        have g2 := (hN.at (i := 2) (N := V7.heap.size) (p := (⟨#[]⟩, ⟨#[]⟩)) rfl).set mn md
        have hwN : w.heap.size ≤ V7.heap.size ∧ W4.heap.size ≤ V7.heap.size := by have := B4.out.size; have := l0; omega
        have gb := (hK.out.setCell (p := ⟨V7.heap.size, 0, none⟩) hwN.1 (.string mn)).setCell (p := ⟨V7.heap.size, 1, none⟩) hwN.1 (.string md)
        have gc := (hL.out.setCell (p := ⟨V7.heap.size, 0, none⟩) hwN.2 (.string mn)).setCell (p := ⟨V7.heap.size, 1, none⟩) hwN.2 (.string md)
        refine ⟨hS4.below gc, by kernel_rfl, ?_⟩
        refine any_only 14 (by kernel_rfl) rfl (by kernel_rfl) ?_
        unfold Oper.wp
        go_simp
        refine any_done (by kernel_rfl) ?_
        obtain ⟨V, hV⟩ : ∃ z, ((U2b.setCell ⟨V7.heap.size, 0, none⟩ (.string mn)).setCell ⟨V7.heap.size, 1, none⟩ (.string md)) = z := ⟨_, rfl⟩
        rw [hV] at g0 g1 g2 gb gc ⊢
        obtain ⟨M, hM⟩ : ∃ z, V7.heap.size = z := ⟨_, rfl⟩
        rw [hM] at g2 ⊢
        exact key M V ⟨Lib.hid (fun z hz => by simp at hz; rcases hz with rfl | rfl | rfl; exact g0; exact g1; exact g2), Lib.hid gb, Lib.hid gc⟩
    intro N2 V2 hR
    obtain ⟨HP2, HB2, HC2⟩ := hR
    go_wp2_with fail
    have hT9 : WhT W4.heap.size N1 N2 (mn, md) V2.drew := ⟨(HP2.out.at (i := 0) (N := W4.heap.size) (p := (s1, s1)) rfl).cell.1, (HP2.out.at (i := 0) (N := W4.heap.size) (p := (s1, s1)) rfl).cell.2.1, (HP2.out.at (i := 1) (N := N1) (p := (mn, md)) rfl).cell.1, (HP2.out.at (i := 1) (N := N1) (p := (mn, md)) rfl).cell.2.1, (HP2.out.at (i := 2) (N := N2) (p := (mn, md)) rfl).cell.1, (HP2.out.at (i := 2) (N := N2) (p := (mn, md)) rfl).cell.2.1⟩
    have HB29 := Lib.hid (below_drew1 HB2.out)
    have H11 := Lib.hid (fun W (hb : Below w.heap.size w W) => r11 ▸ lawof_calls 1 1 (by omega) (by omega) (by omega) (by omega) W (HT.out.1.below hb))
    refine region_tail (m := 30) (WhT W4.heap.size N1 N2 (mn, md)) 30 1 (by kernel_rfl) rfl ?_
    obtain ⟨V8, hV8⟩ : ∃ V, V2.drew = V := ⟨_, rfl⟩
    rw [hV8] at hT9 HB29 ⊢
    refine T_take 0 _ _ rfl rfl (by kernel_rfl) (by kernel_rfl) (by kernel_rfl) (fun _ _ d _ _ h => by cases d <;> exact h) (by kernel_rfl) tail_only hT9 (by kernel_rfl) (fun W hW => by obtain ⟨zs1, zs2, zs3, zs4, zs5, zs6⟩ := hW; go_simp; try exact rfl) ?_
    try simp only [List.setIfInBounds_toArray, List.set_cons_zero, List.set_cons_succ]
    refine T_take 1 _ _ rfl rfl (by kernel_rfl) (by kernel_rfl) (by kernel_rfl) (fun _ _ d _ _ h => by cases d <;> exact h) (by kernel_rfl) tail_only hT9 (by kernel_rfl) (fun W hW => by obtain ⟨zs1, zs2, zs3, zs4, zs5, zs6⟩ := hW; go_simp; try exact rfl) ?_
    try simp only [List.setIfInBounds_toArray, List.set_cons_zero, List.set_cons_succ]
    refine T_take 2 _ _ rfl rfl (by kernel_rfl) (by kernel_rfl) (by kernel_rfl) (fun _ _ d _ _ h => by cases d <;> exact h) (by kernel_rfl) tail_only hT9 (by kernel_rfl) (fun W hW => by obtain ⟨zs1, zs2, zs3, zs4, zs5, zs6⟩ := hW; go_simp; try exact rfl) ?_
    try simp only [List.setIfInBounds_toArray, List.set_cons_zero, List.set_cons_succ]
    refine T_take 3 _ _ rfl rfl (by kernel_rfl) (by kernel_rfl) (by kernel_rfl) (fun _ _ d _ _ h => by cases d <;> exact h) (by kernel_rfl) tail_only hT9 (by kernel_rfl) (fun W hW => by obtain ⟨zs1, zs2, zs3, zs4, zs5, zs6⟩ := hW; go_simp; try exact rfl) ?_
    try simp only [List.setIfInBounds_toArray, List.set_cons_zero, List.set_cons_succ]
    refine T_take 4 _ _ rfl rfl (by kernel_rfl) (by kernel_rfl) (by kernel_rfl) (fun _ _ d _ _ h => by cases d <;> exact h) (by kernel_rfl) tail_only hT9 (by kernel_rfl) (fun W hW => by obtain ⟨zs1, zs2, zs3, zs4, zs5, zs6⟩ := hW; go_simp; try exact rfl) ?_
    try simp only [List.setIfInBounds_toArray, List.set_cons_zero, List.set_cons_succ]
    refine T_take 5 _ _ rfl rfl (by kernel_rfl) (by kernel_rfl) (by kernel_rfl) (fun _ _ d _ _ h => by cases d <;> exact h) (by kernel_rfl) tail_only hT9 (by kernel_rfl) (fun W hW => by obtain ⟨zs1, zs2, zs3, zs4, zs5, zs6⟩ := hW; go_simp; try exact rfl) ?_
    try simp only [List.setIfInBounds_toArray, List.set_cons_zero, List.set_cons_succ]
    refine T_take 6 _ _ rfl rfl (by kernel_rfl) (by kernel_rfl) (by kernel_rfl) (fun _ _ d _ _ h => by cases d <;> exact h) (by kernel_rfl) tail_only hT9 (by kernel_rfl) (fun W hW => by obtain ⟨zs1, zs2, zs3, zs4, zs5, zs6⟩ := hW; go_simp; try exact rfl) ?_
    try simp only [List.setIfInBounds_toArray, List.set_cons_zero, List.set_cons_succ]
    refine T_only 7 (by kernel_rfl) rfl (by kernel_rfl) ?_
    unfold Oper.wp
    go_simp
    refine (H11.out V8 HB29.out).mono ?_
    rintro e Y1 ⟨rfl, hb⟩
    have hT1 := hT9.below hb
    have HY := Lib.hid (HB29.out.trans (hb.mono HB29.out.size))
    clear hb
    unfold pv p1
    refine ⟨hT1, ?_⟩
    try simp only [List.setIfInBounds_toArray, List.set_cons_zero, List.set_cons_succ]
    refine T_take 8 _ _ rfl rfl (by kernel_rfl) (by kernel_rfl) (by kernel_rfl) (fun _ _ d _ _ h => by cases d <;> exact h) (by kernel_rfl) tail_only hT1 (by kernel_rfl) (fun W hW => by obtain ⟨zs1, zs2, zs3, zs4, zs5, zs6⟩ := hW; go_simp; try exact rfl) ?_
    try simp only [List.setIfInBounds_toArray, List.set_cons_zero, List.set_cons_succ]
    refine T_take 9 _ _ rfl rfl (by kernel_rfl) (by kernel_rfl) (by kernel_rfl) (fun _ _ d _ _ h => by cases d <;> exact h) (by kernel_rfl) tail_only hT1 (by kernel_rfl) (fun W hW => by obtain ⟨zs1, zs2, zs3, zs4, zs5, zs6⟩ := hW; go_simp; try exact rfl) ?_
    try simp only [List.setIfInBounds_toArray, List.set_cons_zero, List.set_cons_succ]
    refine T_take 10 _ _ rfl rfl (by kernel_rfl) (by kernel_rfl) (by kernel_rfl) (fun _ _ d _ _ h => by cases d <;> exact h) (by kernel_rfl) tail_only hT1 (by kernel_rfl) (fun W hW => by obtain ⟨zs1, zs2, zs3, zs4, zs5, zs6⟩ := hW; go_simp; try exact rfl) ?_
    try simp only [List.setIfInBounds_toArray, List.set_cons_zero, List.set_cons_succ]
    refine T_take 11 _ _ rfl rfl (by kernel_rfl) (by kernel_rfl) (by kernel_rfl) (fun _ _ d _ _ h => by cases d <;> exact h) (by kernel_rfl) tail_only hT1 (by kernel_rfl) (fun W hW => by obtain ⟨zs1, zs2, zs3, zs4, zs5, zs6⟩ := hW; go_simp; try exact rfl) ?_
    try simp only [List.setIfInBounds_toArray, List.set_cons_zero, List.set_cons_succ]
    refine T_take 12 _ _ rfl rfl (by kernel_rfl) (by kernel_rfl) (by kernel_rfl) (fun _ _ d _ _ h => by cases d <;> exact h) (by kernel_rfl) tail_only hT1 (by kernel_rfl) (fun W hW => by obtain ⟨zs1, zs2, zs3, zs4, zs5, zs6⟩ := hW; go_simp; try exact rfl) ?_
    try simp only [List.setIfInBounds_toArray, List.set_cons_zero, List.set_cons_succ]
    refine T_take 13 _ _ rfl rfl (by kernel_rfl) (by kernel_rfl) (by kernel_rfl) (fun _ _ d _ _ h => by cases d <;> exact h) (by kernel_rfl) tail_only hT1 (by kernel_rfl) (fun W hW => by obtain ⟨zs1, zs2, zs3, zs4, zs5, zs6⟩ := hW; go_simp; try exact rfl) ?_
    try simp only [List.setIfInBounds_toArray, List.set_cons_zero, List.set_cons_succ]
    refine T_take 14 _ _ rfl rfl (by kernel_rfl) (by kernel_rfl) (by kernel_rfl) (fun _ _ d _ _ h => by cases d <;> exact h) (by kernel_rfl) tail_only hT1 (by kernel_rfl) (fun W hW => by obtain ⟨zs1, zs2, zs3, zs4, zs5, zs6⟩ := hW; go_simp; try exact rfl) ?_
    try simp only [List.setIfInBounds_toArray, List.set_cons_zero, List.set_cons_succ]
    refine T_take 15 _ _ rfl rfl (by kernel_rfl) (by kernel_rfl) (by kernel_rfl) (fun _ _ d _ _ h => by cases d <;> exact h) (by kernel_rfl) tail_only hT1 (by kernel_rfl) (fun W hW => by obtain ⟨zs1, zs2, zs3, zs4, zs5, zs6⟩ := hW; go_simp; try exact rfl) ?_
    try simp only [List.setIfInBounds_toArray, List.set_cons_zero, List.set_cons_succ]
    refine T_take 16 _ _ rfl rfl (by kernel_rfl) (by kernel_rfl) (by kernel_rfl) (fun _ _ d _ _ h => by cases d <;> exact h) (by kernel_rfl) tail_only hT1 (by kernel_rfl) (fun W hW => by obtain ⟨zs1, zs2, zs3, zs4, zs5, zs6⟩ := hW; go_simp; try exact rfl) ?_
    try simp only [List.setIfInBounds_toArray, List.set_cons_zero, List.set_cons_succ]
    refine T_take 17 _ _ rfl rfl (by kernel_rfl) (by kernel_rfl) (by kernel_rfl) (fun _ _ d _ _ h => by cases d <;> exact h) (by kernel_rfl) tail_only hT1 (by kernel_rfl) (fun W hW => by obtain ⟨zs1, zs2, zs3, zs4, zs5, zs6⟩ := hW; go_simp; try exact rfl) ?_
    try simp only [List.setIfInBounds_toArray, List.set_cons_zero, List.set_cons_succ]
    refine T_take 18 _ _ rfl rfl (by kernel_rfl) (by kernel_rfl) (by kernel_rfl) (fun _ _ d _ _ h => by cases d <;> exact h) (by kernel_rfl) tail_only hT1 (by kernel_rfl) (fun W hW => by obtain ⟨zs1, zs2, zs3, zs4, zs5, zs6⟩ := hW; go_simp; try exact rfl) ?_
    try simp only [List.setIfInBounds_toArray, List.set_cons_zero, List.set_cons_succ]
    refine T_take 19 _ _ rfl rfl (by kernel_rfl) (by kernel_rfl) (by kernel_rfl) (fun _ _ d _ _ h => by cases d <;> exact h) (by kernel_rfl) tail_only hT1 (by kernel_rfl) (fun W hW => by obtain ⟨zs1, zs2, zs3, zs4, zs5, zs6⟩ := hW; go_simp; try exact rfl) ?_
    try simp only [List.setIfInBounds_toArray, List.set_cons_zero, List.set_cons_succ]
    refine T_take 20 _ _ rfl rfl (by kernel_rfl) (by kernel_rfl) (by kernel_rfl) (fun _ _ d _ _ h => by cases d <;> exact h) (by kernel_rfl) tail_only hT1 (by kernel_rfl) (fun W hW => by obtain ⟨zs1, zs2, zs3, zs4, zs5, zs6⟩ := hW; go_simp; try exact rfl) ?_
    try simp only [List.setIfInBounds_toArray, List.set_cons_zero, List.set_cons_succ]
    refine T_take 21 _ _ rfl rfl (by kernel_rfl) (by kernel_rfl) (by kernel_rfl) (fun _ _ d _ _ h => by cases d <;> exact h) (by kernel_rfl) tail_only hT1 (by kernel_rfl) (fun W hW => by obtain ⟨zs1, zs2, zs3, zs4, zs5, zs6⟩ := hW; go_simp; try exact rfl) ?_
    try simp only [List.setIfInBounds_toArray, List.set_cons_zero, List.set_cons_succ]
    refine T_take 22 _ _ rfl rfl (by kernel_rfl) (by kernel_rfl) (by kernel_rfl) (fun _ _ d _ _ h => by cases d <;> exact h) (by kernel_rfl) tail_only hT1 (by kernel_rfl) (fun W hW => by obtain ⟨zs1, zs2, zs3, zs4, zs5, zs6⟩ := hW; go_simp; try exact rfl) ?_
    try simp only [List.setIfInBounds_toArray, List.set_cons_zero, List.set_cons_succ]
    refine T_take 23 _ _ rfl rfl (by kernel_rfl) (by kernel_rfl) (by kernel_rfl) (fun _ _ d _ _ h => by cases d <;> exact h) (by kernel_rfl) tail_only hT1 (by kernel_rfl) (fun W hW => by obtain ⟨zs1, zs2, zs3, zs4, zs5, zs6⟩ := hW; go_simp; try exact rfl) ?_
    try simp only [List.setIfInBounds_toArray, List.set_cons_zero, List.set_cons_succ]
    refine T_take 24 _ _ rfl rfl (by kernel_rfl) (by kernel_rfl) (by kernel_rfl) (fun _ _ d _ _ h => by cases d <;> exact h) (by kernel_rfl) tail_only hT1 (by kernel_rfl) (fun W hW => by obtain ⟨zs1, zs2, zs3, zs4, zs5, zs6⟩ := hW; go_simp; try exact rfl) ?_
    try simp only [List.setIfInBounds_toArray, List.set_cons_zero, List.set_cons_succ]
    refine T_take 25 _ _ rfl rfl (by kernel_rfl) (by kernel_rfl) (by kernel_rfl) (fun _ _ d _ _ h => by cases d <;> exact h) (by kernel_rfl) tail_only hT1 (by kernel_rfl) (fun W hW => by obtain ⟨zs1, zs2, zs3, zs4, zs5, zs6⟩ := hW; go_simp; try exact rfl) ?_
    try simp only [List.setIfInBounds_toArray, List.set_cons_zero, List.set_cons_succ]
    refine T_take 26 _ _ rfl rfl (by kernel_rfl) (by kernel_rfl) (by kernel_rfl) (fun _ _ d _ _ h => by cases d <;> exact h) (by kernel_rfl) tail_only hT1 (by kernel_rfl) (fun W hW => by obtain ⟨zs1, zs2, zs3, zs4, zs5, zs6⟩ := hW; go_simp; try exact rfl) ?_
    try simp only [List.setIfInBounds_toArray, List.set_cons_zero, List.set_cons_succ]
    refine T_take 27 _ _ rfl rfl (by kernel_rfl) (by kernel_rfl) (by kernel_rfl) (fun _ _ d _ _ h => by cases d <;> exact h) (by kernel_rfl) tail_only hT1 (by kernel_rfl) (fun W hW => by obtain ⟨zs1, zs2, zs3, zs4, zs5, zs6⟩ := hW; go_simp; try exact rfl) ?_
    try simp only [List.setIfInBounds_toArray, List.set_cons_zero, List.set_cons_succ]
    refine T_take 28 _ _ rfl rfl (by kernel_rfl) (by kernel_rfl) (by kernel_rfl) (fun _ _ d _ _ h => by cases d <;> exact h) (by kernel_rfl) tail_only hT1 (by kernel_rfl) (fun W hW => by obtain ⟨zs1, zs2, zs3, zs4, zs5, zs6⟩ := hW; go_simp; try exact rfl) ?_
    try simp only [List.setIfInBounds_toArray, List.set_cons_zero, List.set_cons_succ]
    refine T_take 29 _ _ rfl rfl (by kernel_rfl) (by kernel_rfl) (by kernel_rfl) (fun _ _ d _ _ h => by cases d <;> exact h) (by kernel_rfl) tail_only hT1 (by kernel_rfl) (fun W hW => by obtain ⟨zs1, zs2, zs3, zs4, zs5, zs6⟩ := hW; go_simp; try exact rfl) ?_
    try simp only [List.setIfInBounds_toArray, List.set_cons_zero, List.set_cons_succ]
    refine ⟨by kernel_rfl, ?_⟩
    refine any_only 30 (by kernel_rfl) rfl (by kernel_rfl) ?_
    unfold Oper.wp
    go_simp
    refine any_done (by kernel_rfl) ?_
    go_wp2_with fail
    go_ret
    exact ⟨rfl, HY.out⟩
end Go.Proofs.CW
