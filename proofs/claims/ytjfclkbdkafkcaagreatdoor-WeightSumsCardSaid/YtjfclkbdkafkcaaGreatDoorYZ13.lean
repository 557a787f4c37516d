/-
  Part 13 of the proof: K26.
-/
import Derived.Test.YtjfclkbdkafkcaaGreatDoorYZ6
import Derived.Test.YtjfclkbdkafkcaaGreatDoorYZ9
set_option linter.unusedVariables false
set_option linter.unusedSimpArgs false
namespace Go.Proofs.CW
open Go.RowKit Go.Shelf Go.Sort Go.Lib Go.Proofs.YtjfclkbdkafkcaaGreatDoorW.PrintWords Go.Proofs.YtjfclkbdkafkcaaGreatDoor.PF
attribute [local go_sem] Oper.semAt_some

theorem cmpR_no {a b : PS} (h : ¬ (okP a = true ∧ okP b = true)) : cmpR a b = 0 := by
  unfold cmpR; rw [if_neg (by simpa using h)]
/-- A number that lies apart from the blocks of L. -/
abbrev NA (W : World) (L : List Nat) (v : Value) (n : Nat) : Prop := NumIn W (fun k => k < W.heap.size ∧ ∀ z ∈ L, k ≠ z) v n
theorem NumIn.bound {W : World} {ok : Nat → Prop} {v : Value} {n : Nat} (h : NumIn W ok v n) : NumIn W (fun k => ok k ∧ k < W.heap.size) v n := by
  obtain ⟨xs, h1, h2⟩ := h.ex
  exact ⟨xs, Kd.V_bound h1, h2⟩
theorem na_below {W W' : World} {L : List Nat} {v : Value} {n : Nat} (h : NA W L v n) (hb : Below W.heap.size W W') : NA W' L v n :=
  (NumIn.below h hb).mono fun k hk => ⟨by have := hb.size; omega, hk.2⟩
theorem na_alloc {W : World} {L : List Nat} {v : Value} {n : Nat} (h : NA W L v n) (o : Obj) : NA (W.alloc o) (W.heap.size :: L) v n :=
  (NumIn.below h ((Below.refl _ W).alloc (Nat.le_refl _) _)).mono fun k hk => ⟨by rw [World.size_alloc]; omega, fun z hz => by
    rcases List.mem_cons.1 hz with rfl | hz
    · omega
    · exact hk.2 z hz⟩
theorem na_new {W W' : World} {L : List Nat} {v : Value} {n : Nat} (h : NumIn W' (fun k => W.heap.size ≤ k) v n) (hL : ∀ z ∈ L, z < W.heap.size) : NA W' L v n :=
  (NumIn.bound h).mono fun k hk => ⟨hk.2, fun z hz => by have := hL z hz; omega⟩
theorem na_set {W : World} {L : List Nat} {v : Value} {n : Nat} (h : NA W L v n) {p : Addr} (hp : p.block ∈ L) (u : Value) : NA (W.setCell p u) L v n :=
  (NumIn.step h fun k hk _ => Below.heap_setCell W p u k (hk.2 _ hp)).mono fun k hk => ⟨by have := hk.1; simpa using this, hk.2⟩
/-- A box with a fraction. -/
def FB (W : World) (g : Nat) (u v : Value) : Prop := W.heap[g]? = some (.cells #[u, v] 94 (0, 0))
theorem FB.lt {W : World} {g : Nat} {u v : Value} (h : FB W g u v) : g < W.heap.size := (Array.getElem?_eq_some_iff.1 h).1
theorem FB.below {W W' : World} {g : Nat} {u v : Value} (h : FB W g u v) (hb : Below W.heap.size W W') : FB W' g u v := (hb.block _ h.lt).trans h
theorem FB.new (W : World) (u v : Value) : FB (W.alloc (.cells #[u, v] 94)) W.heap.size u v := heap_alloc_new W _
theorem FB.cell {W : World} {g : Nat} {u v : Value} (h : FB W g u v) : W.cell? ⟨g, 0, none⟩ = some u ∧ W.cell? ⟨g, 1, none⟩ = some v ∧ W.frozen? ⟨g, 0, none⟩ = false ∧ W.frozen? ⟨g, 1, none⟩ = false := ⟨blk_cell h 0, blk_cell h 1, blk_frozen h 0, blk_frozen h 1⟩
theorem FB.set {W : World} {g : Nat} {u v : Value} (h : FB W g u v) (x y : Value) : FB ((W.setCell ⟨g, 0, none⟩ x).setCell ⟨g, 1, none⟩ y) g x y := by
  have := blk_set (blk_set h 0 x) 1 y
  simpa [FB] using this
theorem FB.keep {W : World} {g : Nat} {u v : Value} (h : FB W g u v) {p : Addr} (hp : g ≠ p.block) (x : Value) : FB (W.setCell p x) g u v := blk_far h hp x
/-- Two parts in boxes, further boxes behind them. -/
structure CI (w W : World) (N : Nat) (a b : PS) (L : List Nat) : Prop where
  box : Box2 w W N a b
  lt : ∀ z ∈ L, N + 1 < z ∧ z < W.heap.size
theorem CI.below {w W W' : World} {N : Nat} {a b : PS} {L : List Nat} (h : CI w W N a b L) (hb : Below W.heap.size W W') : CI w W' N a b L :=
  ⟨h.box.below hb, fun z hz => ⟨(h.lt z hz).1, by have := (h.lt z hz).2; have := hb.size; omega⟩⟩
theorem CI.alloc {w W : World} {N : Nat} {a b : PS} {L : List Nat} (h : CI w W N a b L) (o : Obj) : CI w (W.alloc o) N a b (W.heap.size :: L) :=
  ⟨h.box.below ((Below.refl _ W).alloc (Nat.le_refl _) _), fun z hz => by
    rw [World.size_alloc]
    rcases List.mem_cons.1 hz with rfl | hz
    · have := h.box.lt; omega
    · have := h.lt z hz; omega⟩
theorem CI.set {w W : World} {N : Nat} {a b : PS} {L : List Nat} (h : CI w W N a b L) {p : Addr} (hp : p.block ∈ L) (u : Value) : CI w (W.setCell p u) N a b L := by
  have hz := h.lt _ hp
  have hn := h.box.nw
  refine ⟨⟨h.box.bel.setCell (by omega) _, hn, h.box.bx.keep (by omega) _, h.box.by_.keep (by omega) _⟩, fun z hz => ?_⟩
  have := h.lt z hz
  simpa using this
theorem CI.perm {w W : World} {N : Nat} {a b : PS} {L L' : List Nat} (h : CI w W N a b L) (hp : ∀ z ∈ L', z ∈ L) : CI w W N a b L' := ⟨h.box, fun z hz => h.lt z (hp z hz)⟩
theorem na_perm {W : World} {L L' : List Nat} {v : Value} {n : Nat} (h : NA W L v n) (hp : ∀ z ∈ L', z ∈ L) : NA W L' v n := h.mono fun k hk => ⟨hk.1, fun z hz => hk.2 z (hp z hz)⟩
theorem alloc_belowC (W : World) (o : Obj) : Below W.heap.size W (W.alloc o) := (Below.refl _ W).alloc (Nat.le_refl _) _
/-- Two boxes with fractions, as they are looked at. -/
abbrev FracS (M K : Nat) (a b c d : Value) (W : World) : Prop := W.cell? ⟨M, 0, none⟩ = some a ∧ W.cell? ⟨M, 1, none⟩ = some b ∧ W.cell? ⟨K, 0, none⟩ = some c ∧ W.cell? ⟨K, 1, none⟩ = some d
theorem FracS.below {M K : Nat} {a b c d : Value} {W W' : World} (h : FracS M K a b c d W) (hb : Below W.heap.size W W') : FracS M K a b c d W' := by
  obtain ⟨h1, h2, h3, h4⟩ := h
  exact ⟨(hb.cell (cell_lt h1)).trans h1, (hb.cell (cell_lt h2)).trans h2, (hb.cell (cell_lt h3)).trans h3, (hb.cell (cell_lt h4)).trans h4⟩
theorem cmp_sign {r : Int} {a b : PS} (ha : okP a = true) (hb : okP b = true) (h : Cmp r ((nval a.1 * nval b.2 : Nat) : Int) ((nval b.1 * nval a.2 : Nat) : Int)) : cmpR a b = max (-1) (min 1 r) := by
  unfold cmpR
  rw [ha, hb, Bool.and_self, if_pos rfl]
  have h1 := rat_lt ha hb
  have h2 := rat_lt hb ha
  have h3 := h.lt
  have h4 := h.eq
  by_cases k1 : rat a < rat b
  · rw [if_pos k1]; have := h1.1 k1; omega
  · rw [if_neg k1]
    have k3 : ¬ nval a.1 * nval b.2 < nval b.1 * nval a.2 := fun h => k1 (h1.2 h)
    by_cases k2 : rat b < rat a
    · rw [if_pos k2]; have := h2.1 k2; omega
    · rw [if_neg k2]
      have k4 : ¬ nval b.1 * nval a.2 < nval a.1 * nval b.2 := fun h => k2 (h2.2 h)
      omega
theorem join_s001 {G : Nat → World → Prop} {goal : Prop} (R : Nat → World → Prop) (h : (∀ (Ny : Nat) (W : World), R Ny W → G Ny W) → goal) (k : ∀ (Ny : Nat) (W : World), R Ny W → G Ny W) : goal := h k
theorem join_s010 {G : Nat → World → Prop} {goal : Prop} (R : Nat → World → Prop) (h : (∀ (Nx : Nat) (W : World), R Nx W → G Nx W) → goal) (k : ∀ (Nx : Nat) (W : World), R Nx W → G Nx W) : goal := h k
theorem join_s100 {G : Option Addr → Nat → Nat → Option Addr → Nat → Nat → World → Prop} {goal : Prop} (R : Option Addr → Nat → Nat → Option Addr → Nat → Nat → World → Prop) (h : (∀ (A1 : Option Addr) (A2 : Nat) (A3 : Nat) (A4 : Option Addr) (A5 : Nat) (A6 : Nat) (W : World), R A1 A2 A3 A4 A5 A6 W → G A1 A2 A3 A4 A5 A6 W) → goal) (k : ∀ (A1 : Option Addr) (A2 : Nat) (A3 : Nat) (A4 : Option Addr) (A5 : Nat) (A6 : Nat) (W : World), R A1 A2 A3 A4 A5 A6 W → G A1 A2 A3 A4 A5 A6 W) : goal := h k
theorem join_s011 {G : Nat → Nat → World → Prop} {goal : Prop} (R : Nat → Nat → World → Prop) (h : (∀ (Nx : Nat) (Ny : Nat) (W : World), R Nx Ny W → G Nx Ny W) → goal) (k : ∀ (Nx : Nat) (Ny : Nat) (W : World), R Nx Ny W → G Nx Ny W) : goal := h k
theorem join_s101 {G : Nat → Option Addr → Nat → Nat → Option Addr → Nat → Nat → World → Prop} {goal : Prop} (R : Nat → Option Addr → Nat → Nat → Option Addr → Nat → Nat → World → Prop) (h : (∀ (Ny : Nat) (A1 : Option Addr) (A2 : Nat) (A3 : Nat) (A4 : Option Addr) (A5 : Nat) (A6 : Nat) (W : World), R Ny A1 A2 A3 A4 A5 A6 W → G Ny A1 A2 A3 A4 A5 A6 W) → goal) (k : ∀ (Ny : Nat) (A1 : Option Addr) (A2 : Nat) (A3 : Nat) (A4 : Option Addr) (A5 : Nat) (A6 : Nat) (W : World), R Ny A1 A2 A3 A4 A5 A6 W → G Ny A1 A2 A3 A4 A5 A6 W) : goal := h k
theorem join_s110 {G : Nat → Option Addr → Nat → Nat → Option Addr → Nat → Nat → World → Prop} {goal : Prop} (R : Nat → Option Addr → Nat → Nat → Option Addr → Nat → Nat → World → Prop) (h : (∀ (Nx : Nat) (A1 : Option Addr) (A2 : Nat) (A3 : Nat) (A4 : Option Addr) (A5 : Nat) (A6 : Nat) (W : World), R Nx A1 A2 A3 A4 A5 A6 W → G Nx A1 A2 A3 A4 A5 A6 W) → goal) (k : ∀ (Nx : Nat) (A1 : Option Addr) (A2 : Nat) (A3 : Nat) (A4 : Option Addr) (A5 : Nat) (A6 : Nat) (W : World), R Nx A1 A2 A3 A4 A5 A6 W → G Nx A1 A2 A3 A4 A5 A6 W) : goal := h k
theorem join_s200 {G : Option Addr → Nat → Nat → Option Addr → Nat → Nat → Option Addr → Nat → Nat → Option Addr → Nat → Nat → World → Prop} {goal : Prop} (R : Option Addr → Nat → Nat → Option Addr → Nat → Nat → Option Addr → Nat → Nat → Option Addr → Nat → Nat → World → Prop) (h : (∀ (A1 : Option Addr) (A2 : Nat) (A3 : Nat) (A4 : Option Addr) (A5 : Nat) (A6 : Nat) (B1 : Option Addr) (B2 : Nat) (B3 : Nat) (B4 : Option Addr) (B5 : Nat) (B6 : Nat) (W : World), R A1 A2 A3 A4 A5 A6 B1 B2 B3 B4 B5 B6 W → G A1 A2 A3 A4 A5 A6 B1 B2 B3 B4 B5 B6 W) → goal) (k : ∀ (A1 : Option Addr) (A2 : Nat) (A3 : Nat) (A4 : Option Addr) (A5 : Nat) (A6 : Nat) (B1 : Option Addr) (B2 : Nat) (B3 : Nat) (B4 : Option Addr) (B5 : Nat) (B6 : Nat) (W : World), R A1 A2 A3 A4 A5 A6 B1 B2 B3 B4 B5 B6 W → G A1 A2 A3 A4 A5 A6 B1 B2 B3 B4 B5 B6 W) : goal := h k
theorem join_s111 {G : Nat → Nat → Option Addr → Nat → Nat → Option Addr → Nat → Nat → World → Prop} {goal : Prop} (R : Nat → Nat → Option Addr → Nat → Nat → Option Addr → Nat → Nat → World → Prop) (h : (∀ (Nx : Nat) (Ny : Nat) (A1 : Option Addr) (A2 : Nat) (A3 : Nat) (A4 : Option Addr) (A5 : Nat) (A6 : Nat) (W : World), R Nx Ny A1 A2 A3 A4 A5 A6 W → G Nx Ny A1 A2 A3 A4 A5 A6 W) → goal) (k : ∀ (Nx : Nat) (Ny : Nat) (A1 : Option Addr) (A2 : Nat) (A3 : Nat) (A4 : Option Addr) (A5 : Nat) (A6 : Nat) (W : World), R Nx Ny A1 A2 A3 A4 A5 A6 W → G Nx Ny A1 A2 A3 A4 A5 A6 W) : goal := h k
theorem join_s201 {G : Nat → Option Addr → Nat → Nat → Option Addr → Nat → Nat → Option Addr → Nat → Nat → Option Addr → Nat → Nat → World → Prop} {goal : Prop} (R : Nat → Option Addr → Nat → Nat → Option Addr → Nat → Nat → Option Addr → Nat → Nat → Option Addr → Nat → Nat → World → Prop) (h : (∀ (Ny : Nat) (A1 : Option Addr) (A2 : Nat) (A3 : Nat) (A4 : Option Addr) (A5 : Nat) (A6 : Nat) (B1 : Option Addr) (B2 : Nat) (B3 : Nat) (B4 : Option Addr) (B5 : Nat) (B6 : Nat) (W : World), R Ny A1 A2 A3 A4 A5 A6 B1 B2 B3 B4 B5 B6 W → G Ny A1 A2 A3 A4 A5 A6 B1 B2 B3 B4 B5 B6 W) → goal) (k : ∀ (Ny : Nat) (A1 : Option Addr) (A2 : Nat) (A3 : Nat) (A4 : Option Addr) (A5 : Nat) (A6 : Nat) (B1 : Option Addr) (B2 : Nat) (B3 : Nat) (B4 : Option Addr) (B5 : Nat) (B6 : Nat) (W : World), R Ny A1 A2 A3 A4 A5 A6 B1 B2 B3 B4 B5 B6 W → G Ny A1 A2 A3 A4 A5 A6 B1 B2 B3 B4 B5 B6 W) : goal := h k
theorem join_s210 {G : Nat → Option Addr → Nat → Nat → Option Addr → Nat → Nat → Option Addr → Nat → Nat → Option Addr → Nat → Nat → World → Prop} {goal : Prop} (R : Nat → Option Addr → Nat → Nat → Option Addr → Nat → Nat → Option Addr → Nat → Nat → Option Addr → Nat → Nat → World → Prop) (h : (∀ (Nx : Nat) (A1 : Option Addr) (A2 : Nat) (A3 : Nat) (A4 : Option Addr) (A5 : Nat) (A6 : Nat) (B1 : Option Addr) (B2 : Nat) (B3 : Nat) (B4 : Option Addr) (B5 : Nat) (B6 : Nat) (W : World), R Nx A1 A2 A3 A4 A5 A6 B1 B2 B3 B4 B5 B6 W → G Nx A1 A2 A3 A4 A5 A6 B1 B2 B3 B4 B5 B6 W) → goal) (k : ∀ (Nx : Nat) (A1 : Option Addr) (A2 : Nat) (A3 : Nat) (A4 : Option Addr) (A5 : Nat) (A6 : Nat) (B1 : Option Addr) (B2 : Nat) (B3 : Nat) (B4 : Option Addr) (B5 : Nat) (B6 : Nat) (W : World), R Nx A1 A2 A3 A4 A5 A6 B1 B2 B3 B4 B5 B6 W → G Nx A1 A2 A3 A4 A5 A6 B1 B2 B3 B4 B5 B6 W) : goal := h k
theorem join_s211 {G : Nat → Nat → Option Addr → Nat → Nat → Option Addr → Nat → Nat → Option Addr → Nat → Nat → Option Addr → Nat → Nat → World → Prop} {goal : Prop} (R : Nat → Nat → Option Addr → Nat → Nat → Option Addr → Nat → Nat → Option Addr → Nat → Nat → Option Addr → Nat → Nat → World → Prop) (h : (∀ (Nx : Nat) (Ny : Nat) (A1 : Option Addr) (A2 : Nat) (A3 : Nat) (A4 : Option Addr) (A5 : Nat) (A6 : Nat) (B1 : Option Addr) (B2 : Nat) (B3 : Nat) (B4 : Option Addr) (B5 : Nat) (B6 : Nat) (W : World), R Nx Ny A1 A2 A3 A4 A5 A6 B1 B2 B3 B4 B5 B6 W → G Nx Ny A1 A2 A3 A4 A5 A6 B1 B2 B3 B4 B5 B6 W) → goal) (k : ∀ (Nx : Nat) (Ny : Nat) (A1 : Option Addr) (A2 : Nat) (A3 : Nat) (A4 : Option Addr) (A5 : Nat) (A6 : Nat) (B1 : Option Addr) (B2 : Nat) (B3 : Nat) (B4 : Option Addr) (B5 : Nat) (B6 : Nat) (W : World), R Nx Ny A1 A2 A3 A4 A5 A6 B1 B2 B3 B4 B5 B6 W → G Nx Ny A1 A2 A3 A4 A5 A6 B1 B2 B3 B4 B5 B6 W) : goal := h k
set_option maxRecDepth 100000 in
set_option maxHeartbeats 16000000 in
theorem cmp_calls (a b : PS) (sa : Small a) (sb : Small b) (w : World) :
    Calls Tryz.prog 37 #[pv a, pv b] w fun e W => e = .returned (.int .i64 (cmpR a b)) ∧ Below w.heap.size w W := by
  obtain ⟨an, ad⟩ := a
  obtain ⟨bn, bd⟩ := b
  have HT := Lib.hid (And.intro sa sb)
  obtain ⟨N, hN⟩ : ∃ N, w.heap.size = N := ⟨_, rfl⟩
  clear sa sb
  go_enter Tryz.func37, Tryz.ntmps37
  go_wp2_with fail
  have h0 := Box2.new w (an, ad) (bn, bd)
  obtain ⟨W0, hW0⟩ : ∃ W0, ((w.alloc (.cells #[.string an, .string ad] 24)).alloc (.cells #[.string bn, .string bd] 24)) = W0 := ⟨_, rfl⟩
  simp only [hN] at h0
  rw [hW0] at h0 ⊢
  have H0 := Lib.hid h0
  clear h0 hW0 hN
  refine (check_calls (an, ad) HT.out.1 W0).mono ?_
  rintro e W1 ⟨rfl, hb⟩
  have H1 := Lib.hid (H0.out.below hb)
  clear hb
  by_cases ha : okP (an, ad) = true
  case neg =>
    have HE := Lib.hid (cmpR_no (a := (an, ad)) (b := (bn, bd)) (fun h => ha h.1))
    rw [checkR_no ha]
    clear ha
    go_wp2_with fail
    go_ret
    exact ⟨by rw [HE.out]; rfl, H1.out.bel⟩
  rw [checkR_ok ha]
  obtain ⟨k11, k12, k13, k14⟩ := H1.out.s
  go_wp2_with fail
  refine (check_calls (bn, bd) HT.out.2 W1).mono ?_
  rintro e W2 ⟨rfl, hb⟩
  have H2 := Lib.hid (H1.out.below hb)
  clear hb k11 k12 k13 k14
  by_cases hb : okP (bn, bd) = true
  case neg =>
    have HE := Lib.hid (cmpR_no (a := (an, ad)) (b := (bn, bd)) (fun h => hb h.2))
    rw [checkR_no hb]
    clear ha hb
    go_wp2_with fail
    go_ret
    exact ⟨by rw [HE.out]; rfl, H2.out.bel⟩
  rw [checkR_ok hb]
  have HO := Lib.hid (And.intro ha hb)
  clear ha hb
  go_wp2_with fail
  have hS : BoxPS N (an, ad) (bn, bd) W2.drew := H2.out.s
  refine region_tail (m := 7) (BoxPS N (an, ad) (bn, bd)) 7 1 (by kernel_rfl) rfl ?_
  refine T_take 0 _ _ rfl rfl (by kernel_rfl) (by kernel_rfl) (by kernel_rfl) (fun _ _ d _ _ h => by cases d <;> exact h) (by kernel_rfl) tail_only hS (by kernel_rfl) (fun W hW => by obtain ⟨zs1, zs2, zs3, zs4⟩ := hW; go_simp; try exact rfl) ?_
  try simp only [List.setIfInBounds_toArray, List.set_cons_zero, List.set_cons_succ]
  refine T_take 2 _ _ rfl rfl (by kernel_rfl) (by kernel_rfl) (by kernel_rfl) (fun _ _ d _ _ h => by cases d <;> exact h) (by kernel_rfl) tail_only hS (by kernel_rfl) (fun W hW => by obtain ⟨zs1, zs2, zs3, zs4⟩ := hW; go_simp; try exact rfl) ?_
  try simp only [List.setIfInBounds_toArray, List.set_cons_zero, List.set_cons_succ]
  have HI : Hid (CI w W2.drew N (an, ad) (bn, bd) []) := Lib.hid ⟨⟨below_drew1 H2.out.bel, H2.out.nw, H2.out.bx, H2.out.by_⟩, fun z hz => by cases hz⟩
  obtain ⟨W, hW⟩ : ∃ V, W2.drew = V := ⟨_, rfl⟩
  rw [hW] at HI ⊢
  clear hS hW
  apply join_s211 (fun (Nx : Nat) (Ny : Nat) (A1 : Option Addr) (A2 : Nat) (A3 : Nat) (A4 : Option Addr) (A5 : Nat) (A6 : Nat) (B1 : Option Addr) (B2 : Nat) (B3 : Nat) (B4 : Option Addr) (B5 : Nat) (B6 : Nat) (W : World) => Hid (CI w W N (an, ad) (bn, bd) [Nx, Ny]) ∧ Hid (NA W [Nx, Ny] (.slice A1 A2 A3) (nval an) ∧ NA W [Nx, Ny] (.slice A4 A5 A6) (nval ad)) ∧ Hid (NA W [Nx, Ny] (.slice B1 B2 B3) (nval bn) ∧ NA W [Nx, Ny] (.slice B4 B5 B6) (nval bd)) ∧ Hid (FB W Nx (.slice none 0 0) (.slice none 0 0)) ∧ Hid (FB W Ny (.slice none 0 0) (.slice none 0 0)) ∧ Nx ≠ Ny)
  · intro key_s211
    apply join_s210 (fun (Nx : Nat) (A1 : Option Addr) (A2 : Nat) (A3 : Nat) (A4 : Option Addr) (A5 : Nat) (A6 : Nat) (B1 : Option Addr) (B2 : Nat) (B3 : Nat) (B4 : Option Addr) (B5 : Nat) (B6 : Nat) (W : World) => Hid (CI w W N (an, ad) (bn, bd) [Nx]) ∧ Hid (NA W [Nx] (.slice A1 A2 A3) (nval an) ∧ NA W [Nx] (.slice A4 A5 A6) (nval ad)) ∧ Hid (NA W [Nx] (.slice B1 B2 B3) (nval bn) ∧ NA W [Nx] (.slice B4 B5 B6) (nval bd)) ∧ Hid (FB W Nx (.slice none 0 0) (.slice none 0 0)))
    · intro key_s210
      apply join_s201 (fun (Ny : Nat) (A1 : Option Addr) (A2 : Nat) (A3 : Nat) (A4 : Option Addr) (A5 : Nat) (A6 : Nat) (B1 : Option Addr) (B2 : Nat) (B3 : Nat) (B4 : Option Addr) (B5 : Nat) (B6 : Nat) (W : World) => Hid (CI w W N (an, ad) (bn, bd) [Ny]) ∧ Hid (NA W [Ny] (.slice A1 A2 A3) (nval an) ∧ NA W [Ny] (.slice A4 A5 A6) (nval ad)) ∧ Hid (NA W [Ny] (.slice B1 B2 B3) (nval bn) ∧ NA W [Ny] (.slice B4 B5 B6) (nval bd)) ∧ Hid (FB W Ny (.slice none 0 0) (.slice none 0 0)))
      · intro key_s201
        apply join_s111 (fun (Nx : Nat) (Ny : Nat) (A1 : Option Addr) (A2 : Nat) (A3 : Nat) (A4 : Option Addr) (A5 : Nat) (A6 : Nat) (W : World) => Hid (CI w W N (an, ad) (bn, bd) [Nx, Ny]) ∧ Hid (NA W [Nx, Ny] (.slice A1 A2 A3) (nval an) ∧ NA W [Nx, Ny] (.slice A4 A5 A6) (nval ad)) ∧ Hid (FB W Nx (.slice none 0 0) (.slice none 0 0)) ∧ Hid (FB W Ny (.slice none 0 0) (.slice none 0 0)) ∧ Nx ≠ Ny)
        · intro key_s111
          apply join_s200 (fun (A1 : Option Addr) (A2 : Nat) (A3 : Nat) (A4 : Option Addr) (A5 : Nat) (A6 : Nat) (B1 : Option Addr) (B2 : Nat) (B3 : Nat) (B4 : Option Addr) (B5 : Nat) (B6 : Nat) (W : World) => Hid (CI w W N (an, ad) (bn, bd) []) ∧ Hid (NA W [] (.slice A1 A2 A3) (nval an) ∧ NA W [] (.slice A4 A5 A6) (nval ad)) ∧ Hid (NA W [] (.slice B1 B2 B3) (nval bn) ∧ NA W [] (.slice B4 B5 B6) (nval bd)))
          · intro key_s200
            apply join_s110 (fun (Nx : Nat) (A1 : Option Addr) (A2 : Nat) (A3 : Nat) (A4 : Option Addr) (A5 : Nat) (A6 : Nat) (W : World) => Hid (CI w W N (an, ad) (bn, bd) [Nx]) ∧ Hid (NA W [Nx] (.slice A1 A2 A3) (nval an) ∧ NA W [Nx] (.slice A4 A5 A6) (nval ad)) ∧ Hid (FB W Nx (.slice none 0 0) (.slice none 0 0)))
            · intro key_s110
              apply join_s101 (fun (Ny : Nat) (A1 : Option Addr) (A2 : Nat) (A3 : Nat) (A4 : Option Addr) (A5 : Nat) (A6 : Nat) (W : World) => Hid (CI w W N (an, ad) (bn, bd) [Ny]) ∧ Hid (NA W [Ny] (.slice A1 A2 A3) (nval an) ∧ NA W [Ny] (.slice A4 A5 A6) (nval ad)) ∧ Hid (FB W Ny (.slice none 0 0) (.slice none 0 0)))
              · intro key_s101
                apply join_s011 (fun (Nx : Nat) (Ny : Nat) (W : World) => Hid (CI w W N (an, ad) (bn, bd) [Nx, Ny]) ∧ Hid (FB W Nx (.slice none 0 0) (.slice none 0 0)) ∧ Hid (FB W Ny (.slice none 0 0) (.slice none 0 0)) ∧ Nx ≠ Ny)
                · intro key_s011
                  apply join_s100 (fun (A1 : Option Addr) (A2 : Nat) (A3 : Nat) (A4 : Option Addr) (A5 : Nat) (A6 : Nat) (W : World) => Hid (CI w W N (an, ad) (bn, bd) []) ∧ Hid (NA W [] (.slice A1 A2 A3) (nval an) ∧ NA W [] (.slice A4 A5 A6) (nval ad)))
                  · intro key_s100
                    apply join_s010 (fun (Nx : Nat) (W : World) => Hid (CI w W N (an, ad) (bn, bd) [Nx]) ∧ Hid (FB W Nx (.slice none 0 0) (.slice none 0 0)))
                    · intro key_s010
                      apply join_s001 (fun (Ny : Nat) (W : World) => Hid (CI w W N (an, ad) (bn, bd) [Ny]) ∧ Hid (FB W Ny (.slice none 0 0) (.slice none 0 0)))
                      · intro key_s001
                        refine T_three 1 4 5 (by kernel_rfl) rfl rfl rfl (by kernel_rfl) (by kernel_rfl) (by kernel_rfl) ?_ ?_ ?_
                        · unfold Oper.wp
                          go_simp
                          refine (taken_fresh (an, ad) (okP_iff.1 HO.out.1).1.1 (okP_iff.1 HO.out.1).1.2 W).mono ?_
                          rintro e V ⟨A1, A2, A3, A4, A5, A6, rfl, ⟨n1, n2⟩, hb⟩
                          have hI := HI.out.below hb
                          refine ⟨hI.box.s, ?_⟩
                          try simp only [List.setIfInBounds_toArray, List.set_cons_zero, List.set_cons_succ]
                          exact key_s100 A1 A2 A3 A4 A5 A6 V ⟨Lib.hid hI, Lib.hid ⟨na_new n1 (fun z hz => (HI.out.lt z hz).2), na_new n2 (fun z hz => (HI.out.lt z hz).2)⟩⟩
                        · unfold Oper.wp
                          go_simp
                          have hbb : Below W.heap.size W (W.alloc (.cells #[.slice none 0 0, .slice none 0 0] 94)) := alloc_belowC W _
                          have hI := HI.out.alloc (.cells #[.slice none 0 0, .slice none 0 0] 94)
                          refine ⟨hI.box.s, ?_⟩
                          try simp only [List.setIfInBounds_toArray, List.set_cons_zero, List.set_cons_succ]
                          have hN := FB.new W (.slice none 0 0) (.slice none 0 0)
                          obtain ⟨V, hV⟩ : ∃ z, W.alloc (.cells #[.slice none 0 0, .slice none 0 0] 94) = z := ⟨_, rfl⟩
                          rw [hV] at hI hN  ⊢
                          obtain ⟨M, hM⟩ : ∃ z, W.heap.size = z := ⟨_, rfl⟩
                          rw [hM] at hI hN   ⊢
                          exact key_s010 M V ⟨Lib.hid (hI), Lib.hid hN⟩
                        · unfold Oper.wp
                          go_simp
                          have hbb : Below W.heap.size W (W.alloc (.cells #[.slice none 0 0, .slice none 0 0] 94)) := alloc_belowC W _
                          have hI := HI.out.alloc (.cells #[.slice none 0 0, .slice none 0 0] 94)
                          refine ⟨hI.box.s, ?_⟩
                          try simp only [List.setIfInBounds_toArray, List.set_cons_zero, List.set_cons_succ]
                          have hN := FB.new W (.slice none 0 0) (.slice none 0 0)
                          obtain ⟨V, hV⟩ : ∃ z, W.alloc (.cells #[.slice none 0 0, .slice none 0 0] 94) = z := ⟨_, rfl⟩
                          rw [hV] at hI hN  ⊢
                          obtain ⟨M, hM⟩ : ∃ z, W.heap.size = z := ⟨_, rfl⟩
                          rw [hM] at hI hN   ⊢
                          exact key_s001 M V ⟨Lib.hid (hI), Lib.hid hN⟩
                      · intro Ny W hR
                        obtain ⟨HI, HY⟩ := hR
                        refine T_two 1 4 (by kernel_rfl) rfl rfl (by kernel_rfl) (by kernel_rfl) ?_ ?_
                        · unfold Oper.wp
                          go_simp
                          refine (taken_fresh (an, ad) (okP_iff.1 HO.out.1).1.1 (okP_iff.1 HO.out.1).1.2 W).mono ?_
                          rintro e V ⟨A1, A2, A3, A4, A5, A6, rfl, ⟨n1, n2⟩, hb⟩
                          have hI := HI.out.below hb
                          refine ⟨hI.box.s, ?_⟩
                          try simp only [List.setIfInBounds_toArray, List.set_cons_zero, List.set_cons_succ]
                          exact key_s101 Ny A1 A2 A3 A4 A5 A6 V ⟨Lib.hid hI, Lib.hid ⟨na_new n1 (fun z hz => (HI.out.lt z hz).2), na_new n2 (fun z hz => (HI.out.lt z hz).2)⟩, Lib.hid (HY.out.below hb)⟩
                        · unfold Oper.wp
                          go_simp
                          have hbb : Below W.heap.size W (W.alloc (.cells #[.slice none 0 0, .slice none 0 0] 94)) := alloc_belowC W _
                          have hI := HI.out.alloc (.cells #[.slice none 0 0, .slice none 0 0] 94)
                          refine ⟨hI.box.s, ?_⟩
                          try simp only [List.setIfInBounds_toArray, List.set_cons_zero, List.set_cons_succ]
                          have hN := FB.new W (.slice none 0 0) (.slice none 0 0)
                          obtain ⟨V, hV⟩ : ∃ z, W.alloc (.cells #[.slice none 0 0, .slice none 0 0] 94) = z := ⟨_, rfl⟩
                          have hO := HY.out.below hbb
                          have hlt := HY.out.lt
                          rw [hV] at hI hN hO ⊢
                          obtain ⟨M, hM⟩ : ∃ z, W.heap.size = z := ⟨_, rfl⟩
                          rw [hM] at hI hN  hlt ⊢
                          exact key_s011 M Ny V ⟨Lib.hid (hI), Lib.hid hN, Lib.hid hO, by omega⟩
                    · intro Nx W hR
                      obtain ⟨HI, HX⟩ := hR
                      refine T_two 1 5 (by kernel_rfl) rfl rfl (by kernel_rfl) (by kernel_rfl) ?_ ?_
                      · unfold Oper.wp
                        go_simp
                        refine (taken_fresh (an, ad) (okP_iff.1 HO.out.1).1.1 (okP_iff.1 HO.out.1).1.2 W).mono ?_
                        rintro e V ⟨A1, A2, A3, A4, A5, A6, rfl, ⟨n1, n2⟩, hb⟩
                        have hI := HI.out.below hb
                        refine ⟨hI.box.s, ?_⟩
                        try simp only [List.setIfInBounds_toArray, List.set_cons_zero, List.set_cons_succ]
                        exact key_s110 Nx A1 A2 A3 A4 A5 A6 V ⟨Lib.hid hI, Lib.hid ⟨na_new n1 (fun z hz => (HI.out.lt z hz).2), na_new n2 (fun z hz => (HI.out.lt z hz).2)⟩, Lib.hid (HX.out.below hb)⟩
                      · unfold Oper.wp
                        go_simp
                        have hbb : Below W.heap.size W (W.alloc (.cells #[.slice none 0 0, .slice none 0 0] 94)) := alloc_belowC W _
                        have hI := HI.out.alloc (.cells #[.slice none 0 0, .slice none 0 0] 94)
                        refine ⟨hI.box.s, ?_⟩
                        try simp only [List.setIfInBounds_toArray, List.set_cons_zero, List.set_cons_succ]
                        have hN := FB.new W (.slice none 0 0) (.slice none 0 0)
                        obtain ⟨V, hV⟩ : ∃ z, W.alloc (.cells #[.slice none 0 0, .slice none 0 0] 94) = z := ⟨_, rfl⟩
                        have hO := HX.out.below hbb
                        have hlt := HX.out.lt
                        rw [hV] at hI hN hO ⊢
                        obtain ⟨M, hM⟩ : ∃ z, W.heap.size = z := ⟨_, rfl⟩
                        rw [hM] at hI hN  hlt ⊢
                        exact key_s011 Nx M V ⟨Lib.hid ((hI).perm (fun z hz => by simp at hz ⊢; omega)), Lib.hid hO, Lib.hid hN, by omega⟩
                  · intro A1 A2 A3 A4 A5 A6 W hR
                    obtain ⟨HI, HA⟩ := hR
                    refine T_three 3 4 5 (by kernel_rfl) rfl rfl rfl (by kernel_rfl) (by kernel_rfl) (by kernel_rfl) ?_ ?_ ?_
                    · unfold Oper.wp
                      go_simp
                      refine (taken_fresh (bn, bd) (okP_iff.1 HO.out.2).1.1 (okP_iff.1 HO.out.2).1.2 W).mono ?_
                      rintro e V ⟨B1, B2, B3, B4, B5, B6, rfl, ⟨n1, n2⟩, hb⟩
                      have hI := HI.out.below hb
                      refine ⟨hI.box.s, ?_⟩
                      try simp only [List.setIfInBounds_toArray, List.set_cons_zero, List.set_cons_succ]
                      exact key_s200 A1 A2 A3 A4 A5 A6 B1 B2 B3 B4 B5 B6 V ⟨Lib.hid hI, Lib.hid ⟨na_below HA.out.1 hb, na_below HA.out.2 hb⟩, Lib.hid ⟨na_new n1 (fun z hz => (HI.out.lt z hz).2), na_new n2 (fun z hz => (HI.out.lt z hz).2)⟩⟩
                    · unfold Oper.wp
                      go_simp
                      have hbb : Below W.heap.size W (W.alloc (.cells #[.slice none 0 0, .slice none 0 0] 94)) := alloc_belowC W _
                      have hI := HI.out.alloc (.cells #[.slice none 0 0, .slice none 0 0] 94)
                      refine ⟨hI.box.s, ?_⟩
                      try simp only [List.setIfInBounds_toArray, List.set_cons_zero, List.set_cons_succ]
                      have hN := FB.new W (.slice none 0 0) (.slice none 0 0)
                      obtain ⟨V, hV⟩ : ∃ z, W.alloc (.cells #[.slice none 0 0, .slice none 0 0] 94) = z := ⟨_, rfl⟩
                      have hA1 := na_alloc HA.out.1 (.cells #[.slice none 0 0, .slice none 0 0] 94)
                      have hA2 := na_alloc HA.out.2 (.cells #[.slice none 0 0, .slice none 0 0] 94)
                      rw [hV] at hI hN hA1 hA2 ⊢
                      obtain ⟨M, hM⟩ : ∃ z, W.heap.size = z := ⟨_, rfl⟩
                      rw [hM] at hI hN hA1 hA2  ⊢
                      exact key_s110 M A1 A2 A3 A4 A5 A6 V ⟨Lib.hid (hI), Lib.hid ⟨hA1, hA2⟩, Lib.hid hN⟩
                    · unfold Oper.wp
                      go_simp
                      have hbb : Below W.heap.size W (W.alloc (.cells #[.slice none 0 0, .slice none 0 0] 94)) := alloc_belowC W _
                      have hI := HI.out.alloc (.cells #[.slice none 0 0, .slice none 0 0] 94)
                      refine ⟨hI.box.s, ?_⟩
                      try simp only [List.setIfInBounds_toArray, List.set_cons_zero, List.set_cons_succ]
                      have hN := FB.new W (.slice none 0 0) (.slice none 0 0)
                      obtain ⟨V, hV⟩ : ∃ z, W.alloc (.cells #[.slice none 0 0, .slice none 0 0] 94) = z := ⟨_, rfl⟩
                      have hA1 := na_alloc HA.out.1 (.cells #[.slice none 0 0, .slice none 0 0] 94)
                      have hA2 := na_alloc HA.out.2 (.cells #[.slice none 0 0, .slice none 0 0] 94)
                      rw [hV] at hI hN hA1 hA2 ⊢
                      obtain ⟨M, hM⟩ : ∃ z, W.heap.size = z := ⟨_, rfl⟩
                      rw [hM] at hI hN hA1 hA2  ⊢
                      exact key_s101 M A1 A2 A3 A4 A5 A6 V ⟨Lib.hid (hI), Lib.hid ⟨hA1, hA2⟩, Lib.hid hN⟩
                · intro Nx Ny W hR
                  obtain ⟨HI, HX, HY, hne⟩ := hR
                  refine T_only 1 (by kernel_rfl) rfl (by kernel_rfl) ?_
                  unfold Oper.wp
                  go_simp
                  refine (taken_fresh (an, ad) (okP_iff.1 HO.out.1).1.1 (okP_iff.1 HO.out.1).1.2 W).mono ?_
                  rintro e V ⟨A1, A2, A3, A4, A5, A6, rfl, ⟨n1, n2⟩, hb⟩
                  have hI := HI.out.below hb
                  refine ⟨hI.box.s, ?_⟩
                  try simp only [List.setIfInBounds_toArray, List.set_cons_zero, List.set_cons_succ]
                  exact key_s111 Nx Ny A1 A2 A3 A4 A5 A6 V ⟨Lib.hid hI, Lib.hid ⟨na_new n1 (fun z hz => (HI.out.lt z hz).2), na_new n2 (fun z hz => (HI.out.lt z hz).2)⟩, Lib.hid (HX.out.below hb), Lib.hid (HY.out.below hb), hne⟩
              · intro Ny A1 A2 A3 A4 A5 A6 W hR
                obtain ⟨HI, HA, HY⟩ := hR
                refine T_two 3 4 (by kernel_rfl) rfl rfl (by kernel_rfl) (by kernel_rfl) ?_ ?_
                · unfold Oper.wp
                  go_simp
                  refine (taken_fresh (bn, bd) (okP_iff.1 HO.out.2).1.1 (okP_iff.1 HO.out.2).1.2 W).mono ?_
                  rintro e V ⟨B1, B2, B3, B4, B5, B6, rfl, ⟨n1, n2⟩, hb⟩
                  have hI := HI.out.below hb
                  refine ⟨hI.box.s, ?_⟩
                  try simp only [List.setIfInBounds_toArray, List.set_cons_zero, List.set_cons_succ]
                  exact key_s201 Ny A1 A2 A3 A4 A5 A6 B1 B2 B3 B4 B5 B6 V ⟨Lib.hid hI, Lib.hid ⟨na_below HA.out.1 hb, na_below HA.out.2 hb⟩, Lib.hid ⟨na_new n1 (fun z hz => (HI.out.lt z hz).2), na_new n2 (fun z hz => (HI.out.lt z hz).2)⟩, Lib.hid (HY.out.below hb)⟩
                · unfold Oper.wp
                  go_simp
                  have hbb : Below W.heap.size W (W.alloc (.cells #[.slice none 0 0, .slice none 0 0] 94)) := alloc_belowC W _
                  have hI := HI.out.alloc (.cells #[.slice none 0 0, .slice none 0 0] 94)
                  refine ⟨hI.box.s, ?_⟩
                  try simp only [List.setIfInBounds_toArray, List.set_cons_zero, List.set_cons_succ]
                  have hN := FB.new W (.slice none 0 0) (.slice none 0 0)
                  obtain ⟨V, hV⟩ : ∃ z, W.alloc (.cells #[.slice none 0 0, .slice none 0 0] 94) = z := ⟨_, rfl⟩
                  have hA1 := na_alloc HA.out.1 (.cells #[.slice none 0 0, .slice none 0 0] 94)
                  have hA2 := na_alloc HA.out.2 (.cells #[.slice none 0 0, .slice none 0 0] 94)
                  have hO := HY.out.below hbb
                  have hlt := HY.out.lt
                  rw [hV] at hI hN hA1 hA2 hO ⊢
                  obtain ⟨M, hM⟩ : ∃ z, W.heap.size = z := ⟨_, rfl⟩
                  rw [hM] at hI hN hA1 hA2 hlt ⊢
                  exact key_s111 M Ny A1 A2 A3 A4 A5 A6 V ⟨Lib.hid (hI), Lib.hid ⟨hA1, hA2⟩, Lib.hid hN, Lib.hid hO, by omega⟩
            · intro Nx A1 A2 A3 A4 A5 A6 W hR
              obtain ⟨HI, HA, HX⟩ := hR
              refine T_two 3 5 (by kernel_rfl) rfl rfl (by kernel_rfl) (by kernel_rfl) ?_ ?_
              · unfold Oper.wp
                go_simp
                refine (taken_fresh (bn, bd) (okP_iff.1 HO.out.2).1.1 (okP_iff.1 HO.out.2).1.2 W).mono ?_
                rintro e V ⟨B1, B2, B3, B4, B5, B6, rfl, ⟨n1, n2⟩, hb⟩
                have hI := HI.out.below hb
                refine ⟨hI.box.s, ?_⟩
                try simp only [List.setIfInBounds_toArray, List.set_cons_zero, List.set_cons_succ]
                exact key_s210 Nx A1 A2 A3 A4 A5 A6 B1 B2 B3 B4 B5 B6 V ⟨Lib.hid hI, Lib.hid ⟨na_below HA.out.1 hb, na_below HA.out.2 hb⟩, Lib.hid ⟨na_new n1 (fun z hz => (HI.out.lt z hz).2), na_new n2 (fun z hz => (HI.out.lt z hz).2)⟩, Lib.hid (HX.out.below hb)⟩
              · unfold Oper.wp
                go_simp
                have hbb : Below W.heap.size W (W.alloc (.cells #[.slice none 0 0, .slice none 0 0] 94)) := alloc_belowC W _
                have hI := HI.out.alloc (.cells #[.slice none 0 0, .slice none 0 0] 94)
                refine ⟨hI.box.s, ?_⟩
                try simp only [List.setIfInBounds_toArray, List.set_cons_zero, List.set_cons_succ]
                have hN := FB.new W (.slice none 0 0) (.slice none 0 0)
                obtain ⟨V, hV⟩ : ∃ z, W.alloc (.cells #[.slice none 0 0, .slice none 0 0] 94) = z := ⟨_, rfl⟩
                have hA1 := na_alloc HA.out.1 (.cells #[.slice none 0 0, .slice none 0 0] 94)
                have hA2 := na_alloc HA.out.2 (.cells #[.slice none 0 0, .slice none 0 0] 94)
                have hO := HX.out.below hbb
                have hlt := HX.out.lt
                rw [hV] at hI hN hA1 hA2 hO ⊢
                obtain ⟨M, hM⟩ : ∃ z, W.heap.size = z := ⟨_, rfl⟩
                rw [hM] at hI hN hA1 hA2 hlt ⊢
                exact key_s111 Nx M A1 A2 A3 A4 A5 A6 V ⟨Lib.hid ((hI).perm (fun z hz => by simp at hz ⊢; omega)), Lib.hid ⟨na_perm (hA1) (fun z hz => by simp at hz ⊢; omega), na_perm (hA2) (fun z hz => by simp at hz ⊢; omega)⟩, Lib.hid hO, Lib.hid hN, by omega⟩
          · intro A1 A2 A3 A4 A5 A6 B1 B2 B3 B4 B5 B6 W hR
            obtain ⟨HI, HA, HB⟩ := hR
            refine T_two 4 5 (by kernel_rfl) rfl rfl (by kernel_rfl) (by kernel_rfl) ?_ ?_
            · unfold Oper.wp
              go_simp
              have hbb : Below W.heap.size W (W.alloc (.cells #[.slice none 0 0, .slice none 0 0] 94)) := alloc_belowC W _
              have hI := HI.out.alloc (.cells #[.slice none 0 0, .slice none 0 0] 94)
              refine ⟨hI.box.s, ?_⟩
              try simp only [List.setIfInBounds_toArray, List.set_cons_zero, List.set_cons_succ]
              have hN := FB.new W (.slice none 0 0) (.slice none 0 0)
              obtain ⟨V, hV⟩ : ∃ z, W.alloc (.cells #[.slice none 0 0, .slice none 0 0] 94) = z := ⟨_, rfl⟩
              have hA1 := na_alloc HA.out.1 (.cells #[.slice none 0 0, .slice none 0 0] 94)
              have hA2 := na_alloc HA.out.2 (.cells #[.slice none 0 0, .slice none 0 0] 94)
              have hB1 := na_alloc HB.out.1 (.cells #[.slice none 0 0, .slice none 0 0] 94)
              have hB2 := na_alloc HB.out.2 (.cells #[.slice none 0 0, .slice none 0 0] 94)
              rw [hV] at hI hN hA1 hA2 hB1 hB2 ⊢
              obtain ⟨M, hM⟩ : ∃ z, W.heap.size = z := ⟨_, rfl⟩
              rw [hM] at hI hN hA1 hA2 hB1 hB2  ⊢
              exact key_s210 M A1 A2 A3 A4 A5 A6 B1 B2 B3 B4 B5 B6 V ⟨Lib.hid (hI), Lib.hid ⟨hA1, hA2⟩, Lib.hid ⟨hB1, hB2⟩, Lib.hid hN⟩
            · unfold Oper.wp
              go_simp
              have hbb : Below W.heap.size W (W.alloc (.cells #[.slice none 0 0, .slice none 0 0] 94)) := alloc_belowC W _
              have hI := HI.out.alloc (.cells #[.slice none 0 0, .slice none 0 0] 94)
              refine ⟨hI.box.s, ?_⟩
              try simp only [List.setIfInBounds_toArray, List.set_cons_zero, List.set_cons_succ]
              have hN := FB.new W (.slice none 0 0) (.slice none 0 0)
              obtain ⟨V, hV⟩ : ∃ z, W.alloc (.cells #[.slice none 0 0, .slice none 0 0] 94) = z := ⟨_, rfl⟩
              have hA1 := na_alloc HA.out.1 (.cells #[.slice none 0 0, .slice none 0 0] 94)
              have hA2 := na_alloc HA.out.2 (.cells #[.slice none 0 0, .slice none 0 0] 94)
              have hB1 := na_alloc HB.out.1 (.cells #[.slice none 0 0, .slice none 0 0] 94)
              have hB2 := na_alloc HB.out.2 (.cells #[.slice none 0 0, .slice none 0 0] 94)
              rw [hV] at hI hN hA1 hA2 hB1 hB2 ⊢
              obtain ⟨M, hM⟩ : ∃ z, W.heap.size = z := ⟨_, rfl⟩
              rw [hM] at hI hN hA1 hA2 hB1 hB2  ⊢
              exact key_s201 M A1 A2 A3 A4 A5 A6 B1 B2 B3 B4 B5 B6 V ⟨Lib.hid (hI), Lib.hid ⟨hA1, hA2⟩, Lib.hid ⟨hB1, hB2⟩, Lib.hid hN⟩
        · intro Nx Ny A1 A2 A3 A4 A5 A6 W hR
          obtain ⟨HI, HA, HX, HY, hne⟩ := hR
          refine T_only 3 (by kernel_rfl) rfl (by kernel_rfl) ?_
          unfold Oper.wp
          go_simp
          refine (taken_fresh (bn, bd) (okP_iff.1 HO.out.2).1.1 (okP_iff.1 HO.out.2).1.2 W).mono ?_
          rintro e V ⟨B1, B2, B3, B4, B5, B6, rfl, ⟨n1, n2⟩, hb⟩
          have hI := HI.out.below hb
          refine ⟨hI.box.s, ?_⟩
          try simp only [List.setIfInBounds_toArray, List.set_cons_zero, List.set_cons_succ]
          exact key_s211 Nx Ny A1 A2 A3 A4 A5 A6 B1 B2 B3 B4 B5 B6 V ⟨Lib.hid hI, Lib.hid ⟨na_below HA.out.1 hb, na_below HA.out.2 hb⟩, Lib.hid ⟨na_new n1 (fun z hz => (HI.out.lt z hz).2), na_new n2 (fun z hz => (HI.out.lt z hz).2)⟩, Lib.hid (HX.out.below hb), Lib.hid (HY.out.below hb), hne⟩
      · intro Ny A1 A2 A3 A4 A5 A6 B1 B2 B3 B4 B5 B6 W hR
        obtain ⟨HI, HA, HB, HY⟩ := hR
        refine T_only 4 (by kernel_rfl) rfl (by kernel_rfl) ?_
        unfold Oper.wp
        go_simp
        have hbb : Below W.heap.size W (W.alloc (.cells #[.slice none 0 0, .slice none 0 0] 94)) := alloc_belowC W _
        have hI := HI.out.alloc (.cells #[.slice none 0 0, .slice none 0 0] 94)
        refine ⟨hI.box.s, ?_⟩
        try simp only [List.setIfInBounds_toArray, List.set_cons_zero, List.set_cons_succ]
        have hN := FB.new W (.slice none 0 0) (.slice none 0 0)
        obtain ⟨V, hV⟩ : ∃ z, W.alloc (.cells #[.slice none 0 0, .slice none 0 0] 94) = z := ⟨_, rfl⟩
        have hA1 := na_alloc HA.out.1 (.cells #[.slice none 0 0, .slice none 0 0] 94)
        have hA2 := na_alloc HA.out.2 (.cells #[.slice none 0 0, .slice none 0 0] 94)
        have hB1 := na_alloc HB.out.1 (.cells #[.slice none 0 0, .slice none 0 0] 94)
        have hB2 := na_alloc HB.out.2 (.cells #[.slice none 0 0, .slice none 0 0] 94)
        have hO := HY.out.below hbb
        have hlt := HY.out.lt
        rw [hV] at hI hN hA1 hA2 hB1 hB2 hO ⊢
        obtain ⟨M, hM⟩ : ∃ z, W.heap.size = z := ⟨_, rfl⟩
        rw [hM] at hI hN hA1 hA2 hB1 hB2 hlt ⊢
        exact key_s211 M Ny A1 A2 A3 A4 A5 A6 B1 B2 B3 B4 B5 B6 V ⟨Lib.hid (hI), Lib.hid ⟨hA1, hA2⟩, Lib.hid ⟨hB1, hB2⟩, Lib.hid hN, Lib.hid hO, by omega⟩
    · intro Nx A1 A2 A3 A4 A5 A6 B1 B2 B3 B4 B5 B6 W hR
      obtain ⟨HI, HA, HB, HX⟩ := hR
      refine T_only 5 (by kernel_rfl) rfl (by kernel_rfl) ?_
      unfold Oper.wp
      go_simp
      have hbb : Below W.heap.size W (W.alloc (.cells #[.slice none 0 0, .slice none 0 0] 94)) := alloc_belowC W _
      have hI := HI.out.alloc (.cells #[.slice none 0 0, .slice none 0 0] 94)
      refine ⟨hI.box.s, ?_⟩
      try simp only [List.setIfInBounds_toArray, List.set_cons_zero, List.set_cons_succ]
      have hN := FB.new W (.slice none 0 0) (.slice none 0 0)
      obtain ⟨V, hV⟩ : ∃ z, W.alloc (.cells #[.slice none 0 0, .slice none 0 0] 94) = z := ⟨_, rfl⟩
      have hA1 := na_alloc HA.out.1 (.cells #[.slice none 0 0, .slice none 0 0] 94)
      have hA2 := na_alloc HA.out.2 (.cells #[.slice none 0 0, .slice none 0 0] 94)
      have hB1 := na_alloc HB.out.1 (.cells #[.slice none 0 0, .slice none 0 0] 94)
      have hB2 := na_alloc HB.out.2 (.cells #[.slice none 0 0, .slice none 0 0] 94)
      have hO := HX.out.below hbb
      have hlt := HX.out.lt
      rw [hV] at hI hN hA1 hA2 hB1 hB2 hO ⊢
      obtain ⟨M, hM⟩ : ∃ z, W.heap.size = z := ⟨_, rfl⟩
      rw [hM] at hI hN hA1 hA2 hB1 hB2 hlt ⊢
      exact key_s211 Nx M A1 A2 A3 A4 A5 A6 B1 B2 B3 B4 B5 B6 V ⟨Lib.hid ((hI).perm (fun z hz => by simp at hz ⊢; omega)), Lib.hid ⟨na_perm (hA1) (fun z hz => by simp at hz ⊢; omega), na_perm (hA2) (fun z hz => by simp at hz ⊢; omega)⟩, Lib.hid ⟨na_perm (hB1) (fun z hz => by simp at hz ⊢; omega), na_perm (hB2) (fun z hz => by simp at hz ⊢; omega)⟩, Lib.hid hO, Lib.hid hN, by omega⟩
  · intro Nx Ny A1 A2 A3 A4 A5 A6 B1 B2 B3 B4 B5 B6 W hR
    obtain ⟨HI, HA, HB, HX, HY, hne⟩ := hR
    obtain ⟨f1a, f1b, f1c, f1d⟩ := HX.out.cell
    refine T_only 6 (by kernel_rfl) rfl (by kernel_rfl) ?_
    unfold Oper.wp
    go_simp
    have hI := (HI.out.set (p := ⟨Nx, 0, none⟩) (by simp) (.slice A1 A2 A3)).set (p := ⟨Nx, 1, none⟩) (by simp) (.slice A4 A5 A6)
    have hA1 := na_set (na_set HA.out.1 (p := ⟨Nx, 0, none⟩) (by simp) (.slice A1 A2 A3)) (p := ⟨Nx, 1, none⟩) (by simp) (.slice A4 A5 A6)
    have hA2 := na_set (na_set HA.out.2 (p := ⟨Nx, 0, none⟩) (by simp) (.slice A1 A2 A3)) (p := ⟨Nx, 1, none⟩) (by simp) (.slice A4 A5 A6)
    have hB1 := na_set (na_set HB.out.1 (p := ⟨Nx, 0, none⟩) (by simp) (.slice A1 A2 A3)) (p := ⟨Nx, 1, none⟩) (by simp) (.slice A4 A5 A6)
    have hB2 := na_set (na_set HB.out.2 (p := ⟨Nx, 0, none⟩) (by simp) (.slice A1 A2 A3)) (p := ⟨Nx, 1, none⟩) (by simp) (.slice A4 A5 A6)
    have hX := HX.out.set (.slice A1 A2 A3) (.slice A4 A5 A6)
    have hY := (HY.out.keep (p := ⟨Nx, 0, none⟩) (fun h => hne h.symm) (.slice A1 A2 A3)).keep (p := ⟨Nx, 1, none⟩) (fun h => hne h.symm) (.slice A4 A5 A6)
    refine ⟨hI.box.s, by kernel_rfl, ?_⟩
    obtain ⟨V, hV⟩ : ∃ z, ((W.setCell ⟨Nx, 0, none⟩ (.slice A1 A2 A3)).setCell ⟨Nx, 1, none⟩ (.slice A4 A5 A6)) = z := ⟨_, rfl⟩
    rw [hV] at hI hA1 hA2 hB1 hB2 hX hY ⊢
    clear hV f1a f1b f1c f1d
    obtain ⟨f1a, f1b, f1c, f1d⟩ := hY.cell
    refine any_only 7 (by kernel_rfl) rfl (by kernel_rfl) ?_
    unfold Oper.wp
    go_simp
    have gI := (hI.set (p := ⟨Ny, 0, none⟩) (by simp) (.slice B1 B2 B3)).set (p := ⟨Ny, 1, none⟩) (by simp) (.slice B4 B5 B6)
    have gA1 := na_set (na_set hA1 (p := ⟨Ny, 0, none⟩) (by simp) (.slice B1 B2 B3)) (p := ⟨Ny, 1, none⟩) (by simp) (.slice B4 B5 B6)
    have gA2 := na_set (na_set hA2 (p := ⟨Ny, 0, none⟩) (by simp) (.slice B1 B2 B3)) (p := ⟨Ny, 1, none⟩) (by simp) (.slice B4 B5 B6)
    have gB1 := na_set (na_set hB1 (p := ⟨Ny, 0, none⟩) (by simp) (.slice B1 B2 B3)) (p := ⟨Ny, 1, none⟩) (by simp) (.slice B4 B5 B6)
    have gB2 := na_set (na_set hB2 (p := ⟨Ny, 0, none⟩) (by simp) (.slice B1 B2 B3)) (p := ⟨Ny, 1, none⟩) (by simp) (.slice B4 B5 B6)
    have gY := hY.set (.slice B1 B2 B3) (.slice B4 B5 B6)
    have gX := (hX.keep (p := ⟨Ny, 0, none⟩) hne (.slice B1 B2 B3)).keep (p := ⟨Ny, 1, none⟩) hne (.slice B4 B5 B6)
    obtain ⟨U, hU⟩ : ∃ z, ((V.setCell ⟨Ny, 0, none⟩ (.slice B1 B2 B3)).setCell ⟨Ny, 1, none⟩ (.slice B4 B5 B6)) = z := ⟨_, rfl⟩
    rw [hU] at gI gA1 gA2 gB1 gB2 gX gY ⊢
    clear hU f1a f1b f1c f1d hI hA1 hA2 hB1 hB2 hX hY HI HA HB HX HY
    refine any_done (by kernel_rfl) ?_
    have GN := Lib.hid (And.intro gA1.num (And.intro gA2.num (And.intro gB1.num gB2.num)))
    have GI := Lib.hid gI
    have GX := Lib.hid gX
    have GY := Lib.hid gY
    clear gI gA1 gA2 gB1 gB2 gX gY
    go_wp2_with fail
    obtain ⟨U0, hU0⟩ : ∃ V, U.drew = V := ⟨_, rfl⟩
    have hS : FracS Nx Ny (.slice A1 A2 A3) (.slice A4 A5 A6) (.slice B1 B2 B3) (.slice B4 B5 B6) U.drew := ⟨GX.out.cell.1, GX.out.cell.2.1, GY.out.cell.1, GY.out.cell.2.1⟩
    have HF : Hid (Below w.heap.size w U.drew) := Lib.hid (below_drew1 GI.out.box.bel)
    have HD : Hid (Num U.drew (.slice A1 A2 A3) (nval an) ∧ Num U.drew (.slice A4 A5 A6) (nval ad) ∧ Num U.drew (.slice B1 B2 B3) (nval bn) ∧ Num U.drew (.slice B4 B5 B6) (nval bd)) := Lib.hid (by
      obtain ⟨g1, g2, g3, g4⟩ := GN.out
      exact ⟨g1.below (below_drew1 (Below.refl _ _)), g2.below (below_drew1 (Below.refl _ _)), g3.below (below_drew1 (Below.refl _ _)), g4.below (below_drew1 (Below.refl _ _))⟩)
    refine region_tail (m := 11) (FracS Nx Ny (.slice A1 A2 A3) (.slice A4 A5 A6) (.slice B1 B2 B3) (.slice B4 B5 B6)) 11 1 (by kernel_rfl) rfl ?_
    rw [hU0] at hS HF HD ⊢
    clear hU0 GI GX GY GN
    have F1 := fits_nval (okP_iff.1 HO.out.1).1.1
    have F2 := fits_nval (okP_iff.1 HO.out.1).1.2
    have F3 := fits_nval (okP_iff.1 HO.out.2).1.1
    have F4 := fits_nval (okP_iff.1 HO.out.2).1.2
    have FF := Lib.hid (And.intro F1 (And.intro F2 (And.intro F3 F4)))
    clear F1 F2 F3 F4
    refine T_take 0 _ _ rfl rfl (by kernel_rfl) (by kernel_rfl) (by kernel_rfl) (fun _ _ d _ _ h => by cases d <;> exact h) (by kernel_rfl) tail_only hS (by kernel_rfl) (fun W hW => by obtain ⟨zs1, zs2, zs3, zs4⟩ := hW; go_simp; try exact rfl) ?_
    try simp only [List.setIfInBounds_toArray, List.set_cons_zero, List.set_cons_succ]
    refine T_take 1 _ _ rfl rfl (by kernel_rfl) (by kernel_rfl) (by kernel_rfl) (fun _ _ d _ _ h => by cases d <;> exact h) (by kernel_rfl) tail_only hS (by kernel_rfl) (fun W hW => by obtain ⟨zs1, zs2, zs3, zs4⟩ := hW; go_simp; try exact rfl) ?_
    try simp only [List.setIfInBounds_toArray, List.set_cons_zero, List.set_cons_succ]
    refine T_take 2 _ _ rfl rfl (by kernel_rfl) (by kernel_rfl) (by kernel_rfl) (fun _ _ d _ _ h => by cases d <;> exact h) (by kernel_rfl) tail_only hS (by kernel_rfl) (fun W hW => by obtain ⟨zs1, zs2, zs3, zs4⟩ := hW; go_simp; try exact rfl) ?_
    try simp only [List.setIfInBounds_toArray, List.set_cons_zero, List.set_cons_succ]
    refine T_take 3 _ _ rfl rfl (by kernel_rfl) (by kernel_rfl) (by kernel_rfl) (fun _ _ d _ _ h => by cases d <;> exact h) (by kernel_rfl) tail_only hS (by kernel_rfl) (fun W hW => by obtain ⟨zs1, zs2, zs3, zs4⟩ := hW; go_simp; try exact rfl) ?_
    try simp only [List.setIfInBounds_toArray, List.set_cons_zero, List.set_cons_succ]
    refine T_take 5 _ _ rfl rfl (by kernel_rfl) (by kernel_rfl) (by kernel_rfl) (fun _ _ d _ _ h => by cases d <;> exact h) (by kernel_rfl) tail_only hS (by kernel_rfl) (fun W hW => by obtain ⟨zs1, zs2, zs3, zs4⟩ := hW; go_simp; try exact rfl) ?_
    try simp only [List.setIfInBounds_toArray, List.set_cons_zero, List.set_cons_succ]
    refine T_take 6 _ _ rfl rfl (by kernel_rfl) (by kernel_rfl) (by kernel_rfl) (fun _ _ d _ _ h => by cases d <;> exact h) (by kernel_rfl) tail_only hS (by kernel_rfl) (fun W hW => by obtain ⟨zs1, zs2, zs3, zs4⟩ := hW; go_simp; try exact rfl) ?_
    try simp only [List.setIfInBounds_toArray, List.set_cons_zero, List.set_cons_succ]
    refine T_take 7 _ _ rfl rfl (by kernel_rfl) (by kernel_rfl) (by kernel_rfl) (fun _ _ d _ _ h => by cases d <;> exact h) (by kernel_rfl) tail_only hS (by kernel_rfl) (fun W hW => by obtain ⟨zs1, zs2, zs3, zs4⟩ := hW; go_simp; try exact rfl) ?_
    try simp only [List.setIfInBounds_toArray, List.set_cons_zero, List.set_cons_succ]
    refine T_take 8 _ _ rfl rfl (by kernel_rfl) (by kernel_rfl) (by kernel_rfl) (fun _ _ d _ _ h => by cases d <;> exact h) (by kernel_rfl) tail_only hS (by kernel_rfl) (fun W hW => by obtain ⟨zs1, zs2, zs3, zs4⟩ := hW; go_simp; try exact rfl) ?_
    try simp only [List.setIfInBounds_toArray, List.set_cons_zero, List.set_cons_succ]
    refine T_only 4 (by kernel_rfl) rfl (by kernel_rfl) ?_
    unfold Oper.wp
    go_simp
    refine (times_num (.slice A1 A2 A3) (.slice B4 B5 B6) _ _ U0 HD.out.1 HD.out.2.2.2 (FF.out.1.up (by omega)) (FF.out.2.2.2.up (by omega))).mono ?_
    rintro e U1 ⟨D1, D2, D3, rfl, d, hb⟩
    have hS1 := hS.below hb
    have HD1 := Lib.hid (And.intro d (And.intro (HD.out.2.1.below hb) (And.intro (HD.out.2.2.1.below hb) (HF.out.trans (hb.mono HF.out.size)))))
    clear hb d
    refine ⟨hS1, ?_⟩
    try simp only [List.setIfInBounds_toArray, List.set_cons_zero, List.set_cons_succ]
    refine T_only 9 (by kernel_rfl) rfl (by kernel_rfl) ?_
    unfold Oper.wp
    go_simp
    refine (times_num (.slice B1 B2 B3) (.slice A4 A5 A6) _ _ U1 HD1.out.2.2.1 HD1.out.2.1 (FF.out.2.2.1.up (by omega)) (FF.out.2.1.up (by omega))).mono ?_
    rintro e U2 ⟨E1, E2, E3, rfl, d, hb⟩
    have hS2 := hS1.below hb
    have HD2 := Lib.hid (And.intro (HD1.out.1.below hb) (And.intro d (HD1.out.2.2.2.trans (hb.mono HD1.out.2.2.2.size))))
    clear hb d
    refine ⟨hS2, ?_⟩
    try simp only [List.setIfInBounds_toArray, List.set_cons_zero, List.set_cons_succ]
    refine T_only 10 (by kernel_rfl) rfl (by kernel_rfl) ?_
    unfold Oper.wp
    go_simp
    refine (compare_calls (.slice D1 D2 D3) (.slice E1 E2 E3) _ _ U2 HD2.out.1 HD2.out.2.1 ((FF.out.1.mul FF.out.2.2.2).up (by omega)).out ((FF.out.2.2.1.mul FF.out.2.1).up (by omega)).out).mono ?_
    rintro e U3 ⟨r, rfl, hc, hb⟩
    have hS3 := hS2.below hb
    have HR := Lib.hid (And.intro (cmp_sign HO.out.1 HO.out.2 hc) (HD2.out.2.2.trans (hb.mono HD2.out.2.2.size)))
    clear hb hc
    refine ⟨hS3, by kernel_rfl, ?_⟩
    try simp only [List.setIfInBounds_toArray, List.set_cons_zero, List.set_cons_succ]
    refine any_only 11 (by kernel_rfl) rfl (by kernel_rfl) ?_
    unfold Oper.wp
    go_simp
    refine any_done (by kernel_rfl) ?_
    go_wp2_with fail
    go_ret
    exact ⟨by rw [HR.out.1]; rfl, HR.out.2⟩
end Go.Proofs.CW
