/-
  Part 1 of the proof: Limb, Alg, PTimes, Dec, Num, Base, RF, K2, K3, K4, K5, K6, K7, Alg2, K8.
-/
import Derived.Test.YtjfclkbdkafkcaaGreatDoorYPF4
import Derived.IntWalk
import Derived.Lib.ItoaNum
import Derived.Lib.ParseIntB
import Derived.Test.YtjfclkbdkafkcaaGreatDoorYShelf
import Derived.Handy
import Derived.Lib.Hide
import Derived.WalkLawsBesides
import Derived.WalkSpells
import Derived.RangeFuncBox
import Derived.RangeFuncLeaves
import Derived.RangeFuncKeeps
import Derived.Shelf.Abstract
import Derived.WalkKit
import Derived.OwnWalkIn
import Derived.TacticsInMore
import Derived.LoopNIn
import Derived.LoopIn
import Derived.Maps.AppendAt
set_option linter.unusedVariables false
set_option linter.unusedSimpArgs false
namespace Go.Proofs.CW

/-- What limbs of base B spell, the lowest first. -/
def lv (B : Int) : List Int → Int
  | [] => 0
  | x :: xs => x + B * lv B xs
/-- Limbs of base B. -/
def Lim (B : Int) (xs : List Int) : Prop := ∀ x, x ∈ xs → 0 ≤ x ∧ x < B
/-- Without zeros at the end. -/
def Norm (xs : List Int) : Prop := ∀ x, xs.getLast? = some x → x ≠ 0

theorem lv_nil (B : Int) : lv B [] = 0 := rfl
theorem lv_cons (B x : Int) (xs : List Int) : lv B (x :: xs) = x + B * lv B xs := rfl
theorem lim_nil (B : Int) : Lim B [] := fun x h => by simp at h
theorem lim_cons {B x : Int} {xs : List Int} : Lim B (x :: xs) ↔ (0 ≤ x ∧ x < B) ∧ Lim B xs := by
  simp [Lim]
theorem lim_append {B : Int} {xs ys : List Int} : Lim B (xs ++ ys) ↔ Lim B xs ∧ Lim B ys := by
  simp only [Lim, List.mem_append]
  constructor
  · intro h; exact ⟨fun x hx => h x (.inl hx), fun x hx => h x (.inr hx)⟩
  · rintro ⟨h1, h2⟩ x (hx | hx)
    · exact h1 x hx
    · exact h2 x hx
theorem lim_take {B : Int} {xs : List Int} (h : Lim B xs) (n : Nat) : Lim B (xs.take n) := fun x hx => h x (List.mem_of_mem_take hx)
theorem lim_drop {B : Int} {xs : List Int} (h : Lim B xs) (n : Nat) : Lim B (xs.drop n) := fun x hx => h x (List.mem_of_mem_drop hx)
theorem lim_snoc {B x : Int} {xs : List Int} : Lim B (xs ++ [x]) ↔ Lim B xs ∧ 0 ≤ x ∧ x < B := by
  rw [lim_append, lim_cons]; simp [lim_nil]
theorem lv_append (B : Int) (xs ys : List Int) : lv B (xs ++ ys) = lv B xs + B ^ xs.length * lv B ys := by
  induction xs with
  | nil => simp [lv]
  | cons x xs ih => simp only [List.cons_append, lv_cons, ih, List.length_cons, Int.pow_succ]; grind
theorem lv_snoc (B x : Int) (xs : List Int) : lv B (xs ++ [x]) = lv B xs + B ^ xs.length * x := by
  rw [lv_append, lv_cons, lv_nil]; simp
theorem lv_replicate (B : Int) (n : Nat) : lv B (List.replicate n 0) = 0 := by
  induction n with
  | zero => rfl
  | succ n ih => rw [List.replicate_succ, lv_cons, ih]; simp
theorem lv_nonneg {B : Int} (hB : 0 ≤ B) : ∀ {xs : List Int}, Lim B xs → 0 ≤ lv B xs
  | [], _ => Int.le_refl 0
  | x :: xs, h => by
    obtain ⟨⟨h1, _⟩, h2⟩ := lim_cons.1 h
    have := Int.mul_nonneg hB (lv_nonneg hB h2)
    rw [lv_cons]; omega
theorem lv_lt {B : Int} (hB : 0 < B) : ∀ {xs : List Int}, Lim B xs → lv B xs < B ^ xs.length
  | [], _ => by simp [lv]
  | x :: xs, h => by
    obtain ⟨⟨_, h1⟩, h2⟩ := lim_cons.1 h
    have h3 := lv_lt hB h2
    have h4 : B * (lv B xs + 1) ≤ B * B ^ xs.length := Int.mul_le_mul_of_nonneg_left (by omega) (Int.le_of_lt hB)
    rw [lv_cons, List.length_cons, Int.pow_succ, Int.mul_comm (B ^ xs.length)]
    rw [Int.mul_add] at h4
    omega
theorem norm_nil : Norm [] := fun x h => by simp at h
theorem norm_snoc {xs : List Int} {x : Int} : Norm (xs ++ [x]) ↔ x ≠ 0 := by
  simp [Norm]
/-- With a highest limb that is not 0, the number is as great as its place. -/
theorem lv_ge {B : Int} (hB : 0 < B) {xs : List Int} {x : Int} (h : Lim B (xs ++ [x])) (hx : x ≠ 0) : B ^ xs.length ≤ lv B (xs ++ [x]) := by
  obtain ⟨h1, h2, _⟩ := lim_snoc.1 h
  have h3 := lv_nonneg (Int.le_of_lt hB) h1
  have hp : 0 < B ^ xs.length := Int.pow_pos hB
  have h4 : B ^ xs.length * 1 ≤ B ^ xs.length * x := Int.mul_le_mul_of_nonneg_left (by omega) (Int.le_of_lt hp)
  rw [lv_snoc]
  omega
theorem snoc_of_ne {xs : List Int} (h : xs ≠ []) : ∃ ys y, xs = ys ++ [y] := ⟨xs.dropLast, xs.getLast h, (List.dropLast_concat_getLast h).symm⟩
theorem lv_pos {B : Int} (hB : 0 < B) {xs : List Int} (h : Lim B xs) (hn : Norm xs) (hne : xs ≠ []) : 0 < lv B xs := by
  obtain ⟨ys, y, rfl⟩ := snoc_of_ne hne
  have h1 := lv_ge hB h (norm_snoc.1 hn)
  have h2 : 0 < B ^ ys.length := Int.pow_pos hB
  omega
theorem lv_eq_zero {B : Int} (hB : 0 < B) {xs : List Int} (h : Lim B xs) (hn : Norm xs) : lv B xs = 0 ↔ xs = [] := by
  constructor
  · intro h0
    apply Classical.byContradiction
    intro hne
    have := lv_pos hB h hn hne
    omega
  · rintro rfl; rfl
theorem pow_le_pow {B : Int} (hB : 0 < B) {a b : Nat} (h : a ≤ b) : B ^ a ≤ B ^ b := by
  obtain ⟨k, rfl⟩ := Nat.exists_eq_add_of_le h
  rw [Int.pow_add]
  have h1 : 0 < B ^ k := Int.pow_pos hB
  have h2 : 0 < B ^ a := Int.pow_pos hB
  have h3 : B ^ a * 1 ≤ B ^ a * B ^ k := Int.mul_le_mul_of_nonneg_left (by omega) (Int.le_of_lt h2)
  omega
/-- Fewer limbs: less. -/
theorem lv_lt_of_length {B : Int} (hB : 0 < B) {xs ys : List Int} (hx : Lim B xs) (hy : Lim B ys) (ny : Norm ys) (hl : xs.length < ys.length) : lv B xs < lv B ys := by
  obtain ⟨zs, z, rfl⟩ := snoc_of_ne (xs := ys) (by intro h; subst h; simp at hl)
  have h1 := lv_ge hB hy (norm_snoc.1 ny)
  have h2 := lv_lt hB hx
  have h3 := pow_le_pow hB (a := xs.length) (b := zs.length) (by simp at hl; omega)
  omega
/-- The number has at most so many limbs. -/
theorem length_le_of_lt {B : Int} (hB : 0 < B) {xs : List Int} (hx : Lim B xs) (nx : Norm xs) {k : Nat} (h : lv B xs < B ^ k) : xs.length ≤ k := by
  apply Classical.byContradiction
  intro hk
  obtain ⟨zs, z, rfl⟩ := snoc_of_ne (xs := xs) (by intro h; subst h; simp at hk)
  have h1 := lv_ge hB hx (norm_snoc.1 nx)
  have h3 := pow_le_pow hB (a := k) (b := zs.length) (by simp at hk; omega)
  omega
/-- Limbs are told by the number and how many they are. -/
theorem lv_inj {B : Int} (hB : 0 < B) : ∀ {xs ys : List Int}, Lim B xs → Lim B ys → xs.length = ys.length → lv B xs = lv B ys → xs = ys
  | [], [], _, _, _, _ => rfl
  | [], _ :: _, _, _, h, _ => by simp at h
  | _ :: _, [], _, _, h, _ => by simp at h
  | x :: xs, y :: ys, hx, hy, hl, hv => by
    obtain ⟨⟨a1, a2⟩, a3⟩ := lim_cons.1 hx
    obtain ⟨⟨b1, b2⟩, b3⟩ := lim_cons.1 hy
    rw [lv_cons, lv_cons] at hv
    have e1 : (x + B * lv B xs) % B = x := by rw [Int.add_mul_emod_self_left]; exact Int.emod_eq_of_lt a1 a2
    have e2 : (y + B * lv B ys) % B = y := by rw [Int.add_mul_emod_self_left]; exact Int.emod_eq_of_lt b1 b2
    have e3 : x = y := by rw [← e1, ← e2, hv]
    subst e3
    have e4 : B * lv B xs = B * lv B ys := by omega
    have e5 := Int.eq_of_mul_eq_mul_left (by omega) e4
    rw [lv_inj hB a3 b3 (by simpa using hl) e5]
theorem norm_inj {B : Int} (hB : 0 < B) {xs ys : List Int} (hx : Lim B xs) (hy : Lim B ys) (nx : Norm xs) (ny : Norm ys) (hv : lv B xs = lv B ys) : xs = ys := by
  rcases Nat.lt_trichotomy xs.length ys.length with h | h | h
  · have := lv_lt_of_length hB hx hy ny h; omega
  · exact lv_inj hB hx hy h hv
  · have := lv_lt_of_length hB hy hx nx h; omega

/-- What is left of limbs without the zeros at the end. -/
def trimL (xs : List Int) : List Int := (xs.reverse.dropWhile (· == 0)).reverse
theorem trimL_snoc_zero (xs : List Int) : trimL (xs ++ [0]) = trimL xs := by simp [trimL]
theorem trimL_snoc {xs : List Int} {x : Int} (h : x ≠ 0) : trimL (xs ++ [x]) = xs ++ [x] := by simp [trimL, h]
theorem trimL_take : ∀ (n : Nat) (xs : List Int), xs.length = n → ∃ k, k ≤ n ∧ trimL xs = xs.take k ∧ (∀ i, k ≤ i → i < n → xs[i]? = some 0)
  | 0, xs, h => ⟨0, Nat.le_refl _, by rw [List.length_eq_zero_iff.1 h]; rfl, fun i _ h => by omega⟩
  | n + 1, xs, h => by
    obtain ⟨ys, y, rfl⟩ := snoc_of_ne (xs := xs) (by intro e; subst e; simp at h)
    simp only [List.length_append, List.length_cons, List.length_nil, Nat.zero_add, Nat.add_right_cancel_iff] at h
    by_cases hy : y = 0
    · subst hy
      obtain ⟨k, h1, h2, h3⟩ := trimL_take n ys h
      refine ⟨k, by omega, ?_, ?_⟩
      · rw [trimL_snoc_zero, h2, List.take_append_of_le_length (by omega)]
      · intro i hi1 hi2
        by_cases e : i = n
        · subst e; rw [List.getElem?_append_right (by omega)]; simp [h]
        · rw [List.getElem?_append_left (by omega)]; exact h3 i hi1 (by omega)
    · exact ⟨n + 1, Nat.le_refl _, by rw [trimL_snoc hy, List.take_of_length_le (by simp [h])], fun i _ _ => by omega⟩
theorem trimL_norm (xs : List Int) : Norm (trimL xs) := by
  have key : ∀ n, ∀ xs : List Int, xs.length = n → Norm (trimL xs) := by
    intro n
    induction n with
    | zero => intro xs h; rw [List.length_eq_zero_iff.1 h]; exact norm_nil
    | succ n ih =>
      intro xs h
      obtain ⟨ys, y, rfl⟩ := snoc_of_ne (xs := xs) (by intro e; subst e; simp at h)
      by_cases hy : y = 0
      · subst hy; rw [trimL_snoc_zero]; exact ih ys (by simpa using h)
      · rw [trimL_snoc hy]; exact norm_snoc.2 hy
  exact key _ xs rfl
theorem lv_trimL (B : Int) (xs : List Int) : lv B (trimL xs) = lv B xs := by
  have key : ∀ n, ∀ xs : List Int, xs.length = n → lv B (trimL xs) = lv B xs := by
    intro n
    induction n with
    | zero => intro xs h; rw [List.length_eq_zero_iff.1 h]; rfl
    | succ n ih =>
      intro xs h
      obtain ⟨ys, y, rfl⟩ := snoc_of_ne (xs := xs) (by intro e; subst e; simp at h)
      by_cases hy : y = 0
      · subst hy; rw [trimL_snoc_zero, ih ys (by simpa using h), lv_snoc]; simp
      · rw [trimL_snoc hy]
  exact key _ xs rfl
theorem lim_trimL {B : Int} {xs : List Int} (h : Lim B xs) : Lim B (trimL xs) := by
  obtain ⟨k, _, h2, _⟩ := trimL_take _ xs rfl
  rw [h2]; exact lim_take h k
theorem trimL_length_le (xs : List Int) : (trimL xs).length ≤ xs.length := by
  obtain ⟨k, _, h2, _⟩ := trimL_take _ xs rfl
  rw [h2]; exact List.length_take_le' _ _
end Go.Proofs.CW
namespace Go.Proofs.CW

theorem getD_lt {xs : List Int} {j : Nat} (h : j < xs.length) : xs.getD j 0 = xs[j] := by
  rw [List.getD_eq_getElem?_getD, List.getElem?_eq_getElem h]; rfl
theorem getD_ge {xs : List Int} {j : Nat} (h : xs.length ≤ j) : xs.getD j 0 = 0 := by
  rw [List.getD_eq_getElem?_getD, List.getElem?_eq_none h]; rfl
theorem lim_getD {B : Int} {xs : List Int} (hB : 0 < B) (h : Lim B xs) (j : Nat) : 0 ≤ xs.getD j 0 ∧ xs.getD j 0 < B := by
  by_cases hj : j < xs.length
  · rw [getD_lt hj]; exact h _ (List.getElem_mem hj)
  · rw [getD_ge (by omega)]; exact ⟨Int.le_refl 0, hB⟩
theorem lim_set {B : Int} {xs : List Int} (h : Lim B xs) (j : Nat) {v : Int} (h0 : 0 ≤ v) (h1 : v < B) : Lim B (xs.set j v) := by
  intro x hx
  rcases List.mem_or_eq_of_mem_set hx with hx | rfl
  · exact h x hx
  · exact ⟨h0, h1⟩
theorem lv_set (B : Int) : ∀ (xs : List Int) (j : Nat) (v : Int), j < xs.length → lv B (xs.set j v) = lv B xs + B ^ j * (v - xs.getD j 0)
  | [], j, v, h => by simp at h
  | x :: xs, 0, v, _ => by
    simp only [List.set_cons_zero, lv_cons, Int.pow_zero, Int.one_mul, List.getD_cons_zero]; omega
  | x :: xs, j + 1, v, h => by
    rw [List.set_cons_succ, lv_cons, lv_cons, lv_set B xs j v (by simpa using h), Int.pow_succ, List.getD_cons_succ]
    grind
theorem getD_set_self {xs : List Int} {j : Nat} (v : Int) (h : j < xs.length) : (xs.set j v).getD j 0 = v := by
  rw [List.getD_eq_getElem?_getD, List.getElem?_set_self h]; rfl
theorem getD_set_ne {xs : List Int} {i j : Nat} (v : Int) (h : i ≠ j) : (xs.set i v).getD j 0 = xs.getD j 0 := by
  rw [List.getD_eq_getElem?_getD, List.getElem?_set_ne h, List.getD_eq_getElem?_getD]
theorem lv_take_succ (B : Int) {xs : List Int} {j : Nat} (h : j < xs.length) : lv B (xs.take (j + 1)) = lv B (xs.take j) + B ^ j * xs.getD j 0 := by
  rw [List.take_succ_eq_append_getElem h, lv_snoc, List.length_take, Nat.min_eq_left (Nat.le_of_lt h), getD_lt h]
theorem trimL_getD (xs : List Int) (n : Nat) (h : xs.length = n + 1) : (xs.getD n 0 = 0 → trimL xs = trimL (xs.take n)) ∧ (xs.getD n 0 ≠ 0 → trimL xs = xs) := by
  obtain ⟨ys, y, rfl⟩ := snoc_of_ne (xs := xs) (by intro e; subst e; simp at h)
  have hl : ys.length = n := by simpa using h
  subst hl
  have e : (ys ++ [y]).getD ys.length 0 = y := by rw [getD_lt (by simp)]; simp
  rw [e]
  refine ⟨fun h0 => ?_, fun h0 => trimL_snoc h0⟩
  subst h0
  rw [trimL_snoc_zero, List.take_left']
  rfl

/-- One limb times one limb, with what is there and what is carried. -/
theorem mul_bound {B x y c a : Int} (hx : 0 ≤ x ∧ x < B) (hy : 0 ≤ y ∧ y < B) (hc : 0 ≤ c ∧ c < B) (ha : 0 ≤ a ∧ a < B) : 0 ≤ c + a + x * y ∧ c + a + x * y < B * B := by
  have h1 : 0 ≤ x * y := Int.mul_nonneg hx.1 hy.1
  have h2 : x * y ≤ (B - 1) * (B - 1) := Int.mul_le_mul (by omega) (by omega) hy.1 (by omega)
  have h3 : (B - 1) * (B - 1) = B * B - B - B + 1 := by grind
  omega
theorem div_lt_of {B t : Int} (hB : 0 < B) (h0 : 0 ≤ t) (h : t < B * B) : 0 ≤ t / B ∧ t / B < B ∧ 0 ≤ t % B ∧ t % B < B :=
  ⟨Int.ediv_nonneg h0 (Int.le_of_lt hB), Int.ediv_lt_of_lt_mul hB h, Int.emod_nonneg _ (by omega), Int.emod_lt_of_pos _ hB⟩
theorem mul_step {B x y c : Int} {xs : List Int} {j : Nat} (hj : j < xs.length) :
    lv B (xs.set j ((c + xs.getD j 0 + x * y) % B)) + (c + xs.getD j 0 + x * y) / B * B ^ (j + 1) = lv B xs + c * B ^ j + x * y * B ^ j := by
  rw [lv_set B xs j _ hj, Int.pow_succ]
  have h := Int.emod_add_mul_ediv (c + xs.getD j 0 + x * y) B
  generalize (c + xs.getD j 0 + x * y) % B = r at h ⊢
  generalize (c + xs.getD j 0 + x * y) / B = q at h ⊢
  generalize xs.getD j 0 = a at h ⊢
  grind
/-- The row of a product, so far: 'xs' becomes 'zs', 'c' is carried. -/
structure Row (B : Int) (xs ys zs : List Int) (x : Int) (i k : Nat) (c : Int) : Prop where
  len : zs.length = xs.length
  lim : Lim B zs
  car : 0 ≤ c ∧ c < B
  val : lv B zs + c * B ^ (i + k) = lv B xs + x * lv B (ys.take k) * B ^ i
  rest : ∀ j, i + k ≤ j → zs.getD j 0 = xs.getD j 0
theorem Row.start {B : Int} {xs : List Int} (hB : 0 < B) (h : Lim B xs) (ys : List Int) (x : Int) (i : Nat) : Row B xs ys xs x i 0 0 :=
  ⟨rfl, h, ⟨Int.le_refl 0, hB⟩, by simp [lv], fun _ _ => rfl⟩
theorem Row.step {B : Int} {xs ys zs : List Int} {x c : Int} {i k : Nat} (hB : 0 < B) (h : Row B xs ys zs x i k c) (hx : 0 ≤ x ∧ x < B) (hy : Lim B ys) (hk : k < ys.length) (hi : i + k < xs.length) :
    Row B xs ys (zs.set (i + k) ((c + zs.getD (i + k) 0 + x * ys.getD k 0) % B)) x i (k + 1) ((c + zs.getD (i + k) 0 + x * ys.getD k 0) / B) := by
  have hb := mul_bound hx (lim_getD hB hy k) h.car (lim_getD hB h.lim (i + k))
  obtain ⟨d1, d2, d3, d4⟩ := div_lt_of hB hb.1 hb.2
  refine ⟨by rw [List.length_set]; exact h.len, lim_set h.lim _ d3 d4, ⟨d1, d2⟩, ?_, ?_⟩
  · have h1 := mul_step (B := B) (x := x) (y := ys.getD k 0) (c := c) (xs := zs) (j := i + k) (by rw [h.len]; exact hi)
    rw [show i + (k + 1) = i + k + 1 by omega, h1, lv_take_succ B hk]
    have h2 := h.val
    rw [Int.pow_add] at h2 ⊢
    generalize lv B (ys.take k) = u at h2 ⊢
    generalize ys.getD k 0 = y at h2 ⊢
    generalize B ^ k = p at h2 ⊢
    generalize B ^ i = q at h2 ⊢
    grind
  · intro j hj
    rw [getD_set_ne _ (by omega)]
    exact h.rest j (by omega)
/-- A product, so far: the first i limbs of xs are done. -/
structure Prod (B : Int) (xs ys zs : List Int) (i : Nat) : Prop where
  len : zs.length = xs.length + ys.length
  lim : Lim B zs
  val : lv B zs = lv B (xs.take i) * lv B ys
  rest : ∀ j, i + ys.length ≤ j → zs.getD j 0 = 0
theorem Prod.start {B : Int} (hB : 0 < B) (xs ys : List Int) : Prod B xs ys (List.replicate (xs.length + ys.length) 0) 0 := by
  refine ⟨by simp, fun x hx => ?_, by simp [lv_replicate, lv], fun j _ => ?_⟩
  · rw [List.eq_of_mem_replicate hx]; omega
  · rw [List.getD_eq_getElem?_getD, List.getElem?_replicate]; split <;> rfl
theorem Prod.step {B : Int} {xs ys zs ws : List Int} {i : Nat} {c : Int} (h : Prod B xs ys zs i) (hi : i < xs.length)
    (hr : Row B zs ys ws (xs.getD i 0) i ys.length c) : Prod B xs ys (ws.set (i + ys.length) c) (i + 1) := by
  have hl : ws.length = xs.length + ys.length := hr.len.trans h.len
  refine ⟨by rw [List.length_set]; exact hl, lim_set hr.lim _ hr.car.1 hr.car.2, ?_, ?_⟩
  · rw [lv_set B ws _ _ (by omega), hr.rest _ (Nat.le_refl _), h.rest _ (Nat.le_refl _), lv_take_succ B hi]
    have h1 := hr.val
    rw [List.take_length, h.val] at h1
    generalize lv B ys = u at h1 ⊢
    generalize lv B (xs.take i) = v at h1 ⊢
    grind
  · intro j hj
    rw [getD_set_ne _ (by omega), hr.rest j (by omega), h.rest j (by omega)]
theorem Prod.done {B : Int} {xs ys zs : List Int} (h : Prod B xs ys zs xs.length) : lv B zs = lv B xs * lv B ys := by
  rw [h.val, List.take_length]
theorem lv_split (B : Int) (xs : List Int) (i : Nat) (h : i < xs.length) : lv B xs = lv B (xs.take i) + B ^ i * xs.getD i 0 + B ^ (i + 1) * lv B (xs.drop (i + 1)) := by
  have h1 := lv_append B (xs.take (i + 1)) (xs.drop (i + 1))
  rw [List.take_append_drop, List.length_take, Nat.min_eq_left (by omega), lv_take_succ B h] at h1
  exact h1
theorem drop_eq_of {xs ys : List Int} (hl : xs.length = ys.length) (i : Nat) (h : ∀ j, i ≤ j → xs.getD j 0 = ys.getD j 0) : xs.drop i = ys.drop i := by
  apply List.ext_getElem
  · simp [hl]
  · intro j h1 h2
    have e := h (i + j) (by omega)
    simp only [List.length_drop] at h1 h2
    rw [getD_lt (by omega), getD_lt (by omega)] at e
    simpa using e
theorem lv_lt_at {B : Int} (hB : 0 < B) {xs ys : List Int} (hx : Lim B xs) (hy : Lim B ys) (hl : xs.length = ys.length) {i : Nat} (hi : i < xs.length) (h : ∀ j, i + 1 ≤ j → xs.getD j 0 = ys.getD j 0) (hlt : xs.getD i 0 < ys.getD i 0) : lv B xs < lv B ys := by
  rw [lv_split B xs i hi, lv_split B ys i (by omega), drop_eq_of hl (i + 1) h]
  have h1 := lv_lt hB (lim_take hx i)
  have h2 := lv_nonneg (Int.le_of_lt hB) (lim_take hy i)
  rw [List.length_take, Nat.min_eq_left (by omega)] at h1
  have hp : 0 < B ^ i := Int.pow_pos hB
  have h3 : B ^ i * (xs.getD i 0 + 1) ≤ B ^ i * ys.getD i 0 := Int.mul_le_mul_of_nonneg_left (by omega) (Int.le_of_lt hp)
  rw [Int.mul_add, Int.mul_one] at h3
  omega
/-- What a comparison answers. -/
structure Cmp (r a b : Int) : Prop where
  lt : r < 0 ↔ a < b
  eq : r = 0 ↔ a = b
  lo : -1000000 ≤ r
  hi : r ≤ 1000000
theorem cmp_len {B : Int} (hB : 0 < B) {xs ys : List Int} (hx : Lim B xs) (hy : Lim B ys) (nx : Norm xs) (ny : Norm ys) (h : xs.length ≠ ys.length) (h1 : xs.length ≤ 1000000) (h2 : ys.length ≤ 1000000) : Cmp ((xs.length : Int) - (ys.length : Int)) (lv B xs) (lv B ys) := by
  rcases Nat.lt_or_gt_of_ne h with hlt | hlt
  · have := lv_lt_of_length hB hx hy ny hlt
    refine ⟨?_, ?_, ?_, ?_⟩ <;> omega
  · have := lv_lt_of_length hB hy hx nx hlt
    refine ⟨?_, ?_, ?_, ?_⟩ <;> omega
theorem cmp_lt {a b : Int} (h : a < b) : Cmp (-1) a b := by refine ⟨?_, ?_, ?_, ?_⟩ <;> omega
theorem cmp_gt {a b : Int} (h : b < a) : Cmp 1 a b := by refine ⟨?_, ?_, ?_, ?_⟩ <;> omega
theorem cmp_eq {a b : Int} (h : a = b) : Cmp 0 a b := by refine ⟨?_, ?_, ?_, ?_⟩ <;> omega
end Go.Proofs.CW
namespace Go.Proofs.CW
open Go.RowKit Go.Proofs.YtjfclkbdkafkcaaGreatDoorW.PrintWords Go.Proofs.YtjfclkbdkafkcaaGreatDoor.PF

theorem w64 {n : Int} (h0 : -9223372036854775808 ≤ n) (h1 : n ≤ 9223372036854775807) : wrap64 n = n := IntWalk.wrap64_in n ⟨h0, h1⟩
theorem wu64 {n : Int} (h0 : 0 ≤ n) (h1 : n ≤ 18446744073709551615) : IntKind.u64.wrap n = n := IntWalk.u64_in n ⟨h0, h1⟩
theorem wadd (a b : Nat) (h : a + b ≤ 2000000) : wrap64 ((a : Int) + (b : Int)) = ((a + b : Nat) : Int) := by rw [w64 (by omega) (by omega)]; omega
theorem wsucc (a : Nat) (h : a ≤ 2000000) : wrap64 ((a : Int) + 1) = ((a + 1 : Nat) : Int) := by rw [w64 (by omega) (by omega)]; omega
theorem wpred (n m : Nat) (h : m = n + 1) (hn : n ≤ 2000000) : wrap64 ((m : Int) - 1) = (n : Int) := by subst h; rw [w64 (by omega) (by omega)]; omega
theorem rd_nat (xs : List Int) (j : Nat) : rd xs (j : Int) = xs.getD j 0 := by unfold rd; simp
theorem tmodB {t B : Int} (h : 0 ≤ t) : Int.tmod t B = t % B := Int.tmod_eq_emod_of_nonneg h
theorem tdivB {t B : Int} (h : 0 ≤ t) : Int.tdiv t B = t / B := Int.tdiv_eq_ediv_of_nonneg h

/-- weight's trim. -/
theorem wtrim_ev : ∀ (n : Nat) (xs : List Int), xs.length = n → n ≤ 1000000 → Ev (fun k => weight_number_trim.f k xs) (trimL xs)
  | 0, xs, h, _ => by
    obtain rfl := List.length_eq_zero_iff.1 h
    refine Ev.step (f := fun _ => some (trimL [])) (fun k => ?_) (Ev.now _)
    simp only [weight_number_trim.f, weight_number_trim.l0]; rw [if_neg (by simp)]; rfl
  | n + 1, xs, h, hn => by
    obtain ⟨e1, e2⟩ := trimL_getD xs n h
    by_cases h0 : xs.getD n 0 = 0
    · rw [e1 h0]
      refine Ev.step (f := fun k => weight_number_trim.f k (xs.take n)) (fun k => ?_) (wtrim_ev n _ (by rw [List.length_take]; omega) (by omega))
      simp only [weight_number_trim.f, weight_number_trim.l0, wpred n _ h (by omega)]
      rw [if_pos (by omega), if_pos (by omega), if_pos (by omega), if_pos (by rw [rd_nat]; exact h0), if_pos (by omega)]
      simp
    · rw [e2 h0]
      refine Ev.step (f := fun _ => some xs) (fun k => ?_) (Ev.now _)
      simp only [weight_number_trim.f, weight_number_trim.l0, wpred n _ h (by omega)]
      rw [if_pos (by omega), if_pos (by omega), if_pos (by omega), if_neg (by rw [rd_nat]; exact h0)]
/-- the reference's trim. -/
theorem rtrim_ev : ∀ (n : Nat) (xs : List Int), xs.length = n → n ≤ 1000000 → Ev (fun k => cressetref01_trim.f k xs) (trimL xs)
  | 0, xs, h, _ => by
    obtain rfl := List.length_eq_zero_iff.1 h
    refine Ev.step (f := fun _ => some (trimL [])) (fun k => ?_) (Ev.now _)
    simp only [cressetref01_trim.f, cressetref01_trim.l0]; rw [if_neg (by simp)]; rfl
  | n + 1, xs, h, hn => by
    obtain ⟨e1, e2⟩ := trimL_getD xs n h
    by_cases h0 : xs.getD n 0 = 0
    · rw [e1 h0]
      refine Ev.step (f := fun k => cressetref01_trim.f k (xs.take n)) (fun k => ?_) (rtrim_ev n _ (by rw [List.length_take]; omega) (by omega))
      simp only [cressetref01_trim.f, cressetref01_trim.l0, wpred n _ h (by omega)]
      rw [if_pos (by omega), if_pos (by omega), if_pos (by omega), if_pos (by rw [rd_nat]; exact h0), if_pos (by omega)]
      simp
    · rw [e2 h0]
      refine Ev.step (f := fun _ => some xs) (fun k => ?_) (Ev.now _)
      simp only [cressetref01_trim.f, cressetref01_trim.l0, wpred n _ h (by omega)]
      rw [if_pos (by omega), if_pos (by omega), if_pos (by omega), if_neg (by rw [rd_nat]; exact h0)]
theorem ev_bind_some {α : Type} {g : Nat → Option α} {r : α} (h : Ev g r) : Ev (fun k => (g k).bind fun t => some t) r := h.bind (Ev.now r)

theorem b4 : (0 : Int) < 10000 := by decide
theorem b9 : (0 : Int) < 1000000000 := by decide

/-! The reference's product. -/
theorem rtimes_row (xs ys : List Int) (i : Nat) (hi : i < xs.length) (hx : Lim 10000 xs) (hy : Lim 10000 ys) (hb : xs.length + ys.length ≤ 1000000) (zs : List Int) (h : Prod 10000 xs ys zs i) :
    ∀ (d k : Nat) (ws : List Int) (c : Int), ys.length - k = d → k ≤ ys.length → Row 10000 zs ys ws (xs.getD i 0) i k c →
      ∃ zs', Prod 10000 xs ys zs' (i + 1) ∧ ∀ r, Ev (fun n => cressetref01_times.l0 n xs ys zs' ((i + 1 : Nat) : Int)) r → Ev (fun n => cressetref01_times.l1 n xs ys ws (i : Int) c (k : Int)) r := by
  intro d
  induction d with
  | zero =>
    intro k ws c hd hkl hr
    obtain rfl : k = ys.length := by omega
    have hl : ws.length = xs.length + ys.length := hr.len.trans h.len
    refine ⟨ws.set (i + ys.length) c, h.step hi hr, fun r hr2 => Ev.step (f := fun n => cressetref01_times.l0 n xs ys (ws.set (i + ys.length) c) ((i + 1 : Nat) : Int)) (fun n => ?_) hr2⟩
    simp only [cressetref01_times.l1, wadd i ys.length (by omega), wsucc i (by omega)]
    rw [if_neg (by omega), if_pos (by omega), if_pos (by omega), Int.toNat_natCast]
  | succ d ih =>
    intro k ws c hd hkl hr
    have e1 : ys.length - (k + 1) = d := by omega
    have e2 : k + 1 ≤ ys.length := by omega
    have e3 : k < ys.length := by omega
    have hl : ws.length = xs.length + ys.length := hr.len.trans h.len
    have e4 : i + k < zs.length := by have := h.len; omega
    have hx1 := lim_getD b4 hx i
    have hy1 := lim_getD b4 hy k
    have hz1 := lim_getD b4 hr.lim (i + k)
    have hm := mul_bound hx1 hy1 hr.car hz1
    have hxy : 0 ≤ xs.getD i 0 * ys.getD k 0 := Int.mul_nonneg hx1.1 hy1.1
    have hc := hr.car
    have hst := hr.step b4 hx1 hy e3 e4
    generalize hp : xs.getD i 0 * ys.getD k 0 = p at hm hxy hst
    obtain ⟨zs', hpr, hev⟩ := ih (k + 1) _ _ e1 e2 hst
    refine ⟨zs', hpr, fun r hr2 => Ev.step (f := fun n => cressetref01_times.l1 n xs ys (ws.set (i + k) ((c + ws.getD (i + k) 0 + p) % 10000)) (i : Int) ((c + ws.getD (i + k) 0 + p) / 10000) ((k + 1 : Nat) : Int)) (fun n => ?_) (hev r hr2)⟩
    simp only [cressetref01_times.l1, wadd i k (by omega), wsucc k (by omega), rd_nat, hp]
    rw [if_pos (by omega), if_pos (by omega), if_pos (by omega), if_pos (by omega), if_pos (by omega), if_pos (by omega)]
    rw [w64 (n := p) (by omega) (by omega), w64 (n := c + ws.getD (i + k) 0) (by omega) (by omega), w64 (n := c + ws.getD (i + k) 0 + p) (by omega) (by omega), tmodB (by omega), tdivB (by omega), w64 (by omega) (by omega), Int.toNat_natCast]
theorem rtimes_l0 (xs ys : List Int) (hx : Lim 10000 xs) (hy : Lim 10000 ys) (hb : xs.length + ys.length ≤ 1000000) :
    ∀ (d i : Nat) (zs : List Int), xs.length - i = d → i ≤ xs.length → Prod 10000 xs ys zs i → ∃ r, Ev (fun n => cressetref01_times.l0 n xs ys zs (i : Int)) r ∧ Lim 10000 r ∧ Norm r ∧ lv 10000 r = lv 10000 xs * lv 10000 ys ∧ r.length ≤ xs.length + ys.length := by
  intro d
  induction d with
  | zero =>
    intro i zs hd hi h
    obtain rfl : i = xs.length := by omega
    refine ⟨trimL zs, ?_, lim_trimL h.lim, trimL_norm zs, by rw [lv_trimL, h.done], by have := trimL_length_le zs; have := h.len; omega⟩
    refine Ev.step (f := fun n => (cressetref01_trim.f n zs).bind fun t => some t) (fun n => ?_) (ev_bind_some (rtrim_ev _ zs rfl (by have := h.len; omega)))
    simp only [cressetref01_times.l0]
    rw [if_neg (by omega)]
  | succ d ih =>
    intro i zs hd hi h
    have hil : i < xs.length := by omega
    have h1 : Row 10000 zs ys zs (xs.getD i 0) i 0 0 := Row.start b4 h.lim ys (xs.getD i 0) i
    have h2 := rtimes_row xs ys i hil hx hy hb zs h ys.length 0 zs 0 (Nat.sub_zero _) (Nat.zero_le _) h1
    obtain ⟨zs', hp, hev⟩ := h2
    obtain ⟨r, hr, rest⟩ := ih (i + 1) zs' (by omega) (by omega) hp
    refine ⟨r, Ev.step (f := fun n => cressetref01_times.l1 n xs ys zs (i : Int) 0 ((0 : Nat) : Int)) (fun n => ?_) (hev r hr), rest⟩
    simp only [cressetref01_times.l0]
    rw [if_pos (by omega)]; rfl
theorem rtimes_ev (xs ys : List Int) (hx : Lim 10000 xs) (hy : Lim 10000 ys) (hb : xs.length + ys.length ≤ 1000000) :
    ∃ r, Ev (fun k => cressetref01_times.f k xs ys) r ∧ Lim 10000 r ∧ Norm r ∧ lv 10000 r = lv 10000 xs * lv 10000 ys ∧ r.length ≤ xs.length + ys.length := by
  obtain ⟨r, hr, rest⟩ := rtimes_l0 xs ys hx hy hb _ 0 _ rfl (Nat.zero_le _) (Prod.start b4 xs ys)
  refine ⟨r, Ev.congr (fun k => ?_) hr, rest⟩
  simp only [cressetref01_times.f, wadd _ _ (show xs.length + ys.length ≤ 2000000 by omega)]
  rw [if_pos (by omega), if_pos (by rw [Int.toNat_natCast]; omega), Int.toNat_natCast]; rfl

/-! The program's product. -/
end Go.Proofs.CW
namespace Go.Proofs.CW
open Go.Lib

/-- The number that digits spell, from what the digits before spell. -/
def dvalA (acc : Nat) (l : List UInt8) : Nat := l.foldl (fun n c => n * 10 + (c.toNat - 48)) acc
def dval (l : List UInt8) : Nat := dvalA 0 l
def isd (c : UInt8) : Bool := decide (48 ≤ c.toNat) && decide (c.toNat ≤ 57)
def allD (l : List UInt8) : Bool := l.all isd

theorem dvalA_cons (acc : Nat) (c : UInt8) (l : List UInt8) : dvalA acc (c :: l) = dvalA (acc * 10 + (c.toNat - 48)) l := by simp only [dvalA, List.foldl]
theorem dvalA_eq (l : List UInt8) : ∀ acc, dvalA acc l = acc * 10 ^ l.length + dval l := by
  induction l with
  | nil => intro acc; simp [dvalA, dval]
  | cons c l ih =>
    intro acc
    rw [dval, dvalA_cons, dvalA_cons, ih, ih (0 * 10 + (c.toNat - 48)), List.length_cons, Nat.pow_succ, Nat.zero_mul, Nat.zero_add, Nat.add_mul, Nat.mul_assoc, Nat.mul_comm 10, Nat.add_assoc]
theorem dval_cons (c : UInt8) (l : List UInt8) : dval (c :: l) = (c.toNat - 48) * 10 ^ l.length + dval l := by
  rw [dval, dvalA_cons, dvalA_eq]; simp
theorem dval_append (a b : List UInt8) : dval (a ++ b) = dval a * 10 ^ b.length + dval b := by
  rw [dval, dvalA, List.foldl_append]; exact dvalA_eq b _
theorem dval_snoc (a : List UInt8) (c : UInt8) : dval (a ++ [c]) = dval a * 10 + (c.toNat - 48) := by
  rw [dval_append]; simp [dval, dvalA]
theorem isd_iff {c : UInt8} : isd c = true ↔ 48 ≤ c.toNat ∧ c.toNat ≤ 57 := by simp [isd]
theorem allD_cons {c : UInt8} {l : List UInt8} : allD (c :: l) = true ↔ (48 ≤ c.toNat ∧ c.toNat ≤ 57) ∧ allD l = true := by simp [allD, isd_iff]
theorem allD_append {a b : List UInt8} : allD (a ++ b) = true ↔ allD a = true ∧ allD b = true := by simp [allD]
theorem dval_lt (l : List UInt8) (h : allD l = true) : dval l < 10 ^ l.length := by
  induction l with
  | nil => simp [dval, dvalA]
  | cons c l ih =>
    obtain ⟨⟨h1, h2⟩, h3⟩ := allD_cons.1 h
    rw [dval_cons, List.length_cons, Nat.pow_succ]
    have := ih h3
    have h4 : (c.toNat - 48) * 10 ^ l.length ≤ 9 * 10 ^ l.length := Nat.mul_le_mul_right _ (by omega)
    omega
theorem ofNat_toNat {n : Nat} (h : n < 256) : (UInt8.ofNat n).toNat = n := by simp [Nat.mod_eq_of_lt h]

/-- Canonical: digits alone, at least one, no zero ahead. -/
def canon (l : List UInt8) : Bool := decide (l ≠ []) && allD l && (l.length == 1 || l.head? != some 48)
theorem canon_iff {l : List UInt8} : canon l = true ↔ l ≠ [] ∧ allD l = true ∧ (l.length = 1 ∨ l.head? ≠ some 48) := by
  simp [canon, and_assoc]

theorem decDigits_small {n : Nat} (h : n < 10) : decDigits n = [UInt8.ofNat (48 + n)] := by rw [decDigits, dif_pos h]
theorem decDigits_big {n : Nat} (h : ¬ n < 10) : decDigits n = decDigits (n / 10) ++ [UInt8.ofNat (48 + n % 10)] := by rw [decDigits, dif_neg h]
theorem decDigits_ne (n : Nat) : decDigits n ≠ [] := by
  by_cases h : n < 10
  · rw [decDigits_small h]; simp
  · rw [decDigits_big h]; simp
theorem decDigits_allD (n : Nat) : allD (decDigits n) = true := by
  induction n using Nat.strongRecOn with
  | _ n ih =>
    by_cases h : n < 10
    · rw [decDigits_small h, allD_cons]; refine ⟨?_, rfl⟩; rw [ofNat_toNat (by omega)]; omega
    · rw [decDigits_big h, allD_append]; refine ⟨ih _ (by omega), ?_⟩
      rw [allD_cons]; refine ⟨?_, rfl⟩; rw [ofNat_toNat (by omega)]; omega
theorem dval_decDigits (n : Nat) : dval (decDigits n) = n := by
  induction n using Nat.strongRecOn with
  | _ n ih =>
    by_cases h : n < 10
    · rw [decDigits_small h]; simp only [dval, dvalA, List.foldl]; rw [ofNat_toNat (by omega)]; omega
    · rw [decDigits_big h, dval_snoc, ih _ (by omega), ofNat_toNat (by omega)]; omega
theorem decDigits_head (n : Nat) (h : n ≠ 0) : (decDigits n).head? ≠ some 48 := by
  induction n using Nat.strongRecOn with
  | _ n ih =>
    by_cases h1 : n < 10
    · rw [decDigits_small h1]
      intro h2
      have h3 : UInt8.ofNat (48 + n) = 48 := by simpa using h2
      have h4 := congrArg UInt8.toNat h3
      rw [ofNat_toNat (by omega)] at h4
      have : (48 : UInt8).toNat = 48 := rfl
      omega
    · rw [decDigits_big h1]
      have h2 := ih (n / 10) (by omega) (by omega)
      cases h3 : decDigits (n / 10) with
      | nil => exact absurd h3 (decDigits_ne _)
      | cons c l => rw [h3] at h2; simpa using h2
theorem decDigits_canon (n : Nat) : canon (decDigits n) = true := by
  rw [canon_iff]
  refine ⟨decDigits_ne n, decDigits_allD n, ?_⟩
  by_cases h : n = 0
  · subst h; left; rw [decDigits_small (by omega)]; rfl
  · exact .inr (decDigits_head n h)
theorem ofNat_of_toNat (c : UInt8) : UInt8.ofNat c.toNat = c := by simp
/-- A canonical numeral is the numeral of its number. -/
theorem decDigits_dval (l : List UInt8) (h : canon l = true) : decDigits (dval l) = l := by
  have key : ∀ n, ∀ l : List UInt8, l.length = n → canon l = true → decDigits (dval l) = l := by
    intro n
    induction n with
    | zero => intro l hl hc; obtain ⟨h1, _⟩ := canon_iff.1 hc; exact absurd (List.length_eq_zero_iff.1 hl) h1
    | succ n ih =>
      intro l hl hc
      obtain ⟨h1, h2, h3⟩ := canon_iff.1 hc
      obtain ⟨a, c, rfl⟩ : ∃ a c, l = a ++ [c] := ⟨l.dropLast, l.getLast h1, (List.dropLast_concat_getLast h1).symm⟩
      rw [allD_append, allD_cons] at h2
      obtain ⟨ha, ⟨hc1, hc2⟩, _⟩ := h2
      simp only [List.length_append, List.length_cons, List.length_nil] at hl
      rw [dval_snoc]
      cases a with
      | nil =>
        have e : dval ([] : List UInt8) = 0 := rfl
        rw [e, decDigits_small (by omega)]
        rw [show 48 + (0 * 10 + (c.toNat - 48)) = c.toNat by omega, ofNat_of_toNat]; rfl
      | cons d a =>
        have hcan : canon (d :: a) = true := by
          rw [canon_iff]; refine ⟨by simp, ha, .inr ?_⟩
          rcases h3 with h3 | h3
          · simp at h3
          · simpa using h3
        have h4 := ih (d :: a) (by simpa using hl) hcan
        have h5 : 1 ≤ dval (d :: a) := by
          rcases h3 with h3 | h3
          · simp at h3
          · have hd : (d.toNat) ≠ 48 := by
              intro e; apply h3
              have : d = 48 := by rw [← ofNat_of_toNat d, e]; rfl
              simp [this]
            rw [allD_cons] at ha
            rw [dval_cons]
            have h6 : 1 * 1 ≤ (d.toNat - 48) * 10 ^ a.length := Nat.mul_le_mul (by omega) (Nat.one_le_pow _ _ (by decide))
            omega
        rw [decDigits_big (by omega)]
        rw [show (dval (d :: a) * 10 + (c.toNat - 48)) / 10 = dval (d :: a) by omega, h4]
        rw [show 48 + (dval (d :: a) * 10 + (c.toNat - 48)) % 10 = c.toNat by omega, ofNat_of_toNat]
  exact key _ l rfl h
theorem decDigits_length_le {n k : Nat} (hk : 1 ≤ k) : (decDigits n).length ≤ k ↔ n < 10 ^ k := by
  rw [decDigits_length]
  constructor
  · intro h
    exact Nat.lt_of_lt_of_le (lt_pow_nDigits n) (Nat.pow_le_pow_right (by decide) h)
  · intro h
    induction k generalizing n with
    | zero => omega
    | succ k ih =>
      by_cases h1 : n < 10
      · rw [nDigits_small h1]; omega
      · rw [nDigits_big h1]
        cases k with
        | zero => simp at h; omega
        | succ k =>
          have := ih (n := n / 10) (by omega) (by rw [Nat.pow_succ] at h; omega)
          omega

/-- strconv.ParseUint at digits alone. -/
theorem parseUintM_digits (M : Nat) : ∀ (l : List UInt8) (acc : Nat), allD l = true → dvalA acc l ≤ M → M < 18446744073709551616 → parseUintM M acc l = .ok (dvalA acc l)
  | [], acc, _, _, _ => rfl
  | c :: l, acc, h, hM, hM2 => by
    obtain ⟨h1, h2⟩ := allD_cons.1 h
    rw [dvalA_cons] at hM ⊢
    have h3 := dvalA_eq l (acc * 10 + (c.toNat - 48))
    have h4 : 1 ≤ 10 ^ l.length := Nat.one_le_pow _ _ (by decide)
    have h5 : (acc * 10 + (c.toNat - 48)) * 1 ≤ (acc * 10 + (c.toNat - 48)) * 10 ^ l.length := Nat.mul_le_mul_left _ h4
    unfold parseUintM
    rw [if_pos h1, if_neg (by omega), if_neg (by omega)]
    exact parseUintM_digits M l _ h2 hM hM2
end Go.Proofs.CW
namespace Go.Proofs.CW

/-- The number that a string spells. -/
def nval (s : ByteArray) : Nat := dval s.data.toList
/-- Is a string a natural number of at most 600 digits? -/
def okN (s : ByteArray) : Bool := canon s.data.toList && decide (s.size ≤ 600)
/-- The digits of a number. -/
def nstr (n : Nat) : ByteArray := ⟨(Lib.decDigits n).toArray⟩
theorem list_length (s : ByteArray) : s.data.toList.length = s.size := by rw [Array.length_toList]; rfl
theorem list_nil (s : ByteArray) : s.data.toList = [] ↔ s.size = 0 := by rw [← List.length_eq_zero_iff, list_length]
theorem okN_eq (s : ByteArray) : okN s = true ↔ s.data.toList ≠ [] ∧ allD s.data.toList = true ∧ (s.size = 1 ∨ s.data.toList.head? ≠ some 48) ∧ s.size ≤ 600 := by
  rw [okN, Bool.and_eq_true, canon_iff, decide_eq_true_eq, list_length]; simp [and_assoc]
theorem nstr_list (n : Nat) : (nstr n).data.toList = Lib.decDigits n := rfl
theorem nval_nstr (n : Nat) : nval (nstr n) = n := dval_decDigits n
theorem nstr_nval {s : ByteArray} (h : okN s = true) : nstr (nval s) = s := by
  have h1 : canon s.data.toList = true := by rw [okN, Bool.and_eq_true] at h; exact h.1
  unfold nstr nval
  rw [decDigits_dval _ h1]
theorem nstr_inj {a b : Nat} (h : nstr a = nstr b) : a = b := by
  have := congrArg nval h
  rwa [nval_nstr, nval_nstr] at this
/-- Ten to the 600, not to be counted out. -/
@[irreducible] def pow10 (k : Nat) : Nat := 10 ^ k
@[irreducible] def big : Nat := pow10 600
theorem big_eq : big = pow10 600 := by unfold big; rfl
theorem digits_pow10 {n k : Nat} (hk : 1 ≤ k) : (Lib.decDigits n).length ≤ k ↔ n < pow10 k := by unfold pow10; exact decDigits_length_le hk
theorem nstr_size {n : Nat} : (nstr n).size ≤ 600 ↔ n < big := by
  have h : (nstr n).size = (Lib.decDigits n).length := by rw [← list_length]; rfl
  rw [h, big_eq]; exact digits_pow10 (by decide)
theorem okN_nstr {n : Nat} : okN (nstr n) = true ↔ n < big := by
  rw [okN, Bool.and_eq_true, decide_eq_true_eq, nstr_size]
  exact ⟨fun h => h.2, fun h => ⟨decDigits_canon n, h⟩⟩
theorem okN_digits {s : ByteArray} (h : okN s = true) : allD s.data.toList = true := ((okN_eq s).1 h).2.1
theorem okN_size {s : ByteArray} (h : okN s = true) : s.size ≤ 600 := ((okN_eq s).1 h).2.2.2
theorem nval_lt_size {s : ByteArray} (h : okN s = true) {k : Nat} (hk : s.size ≤ k) : nval s < pow10 k := by
  unfold pow10
  have h1 := dval_lt s.data.toList (okN_digits h)
  rw [list_length] at h1
  exact Nat.lt_of_lt_of_le h1 (Nat.pow_le_pow_right (by omega) hk)

/-- A part: its two strings. -/
abbrev PS := ByteArray × ByteArray
def s0 : ByteArray := ⟨#[48]⟩
def s1 : ByteArray := ⟨#[49]⟩
theorem nstr_zero : nstr 0 = s0 := by unfold nstr s0; rw [decDigits_small (by omega)]; rfl
theorem nstr_one : nstr 1 = s1 := by unfold nstr s1; rw [decDigits_small (by omega)]; rfl
theorem nval_s0 : nval s0 = 0 := by rw [← nstr_zero, nval_nstr]
theorem nval_s1 : nval s1 = 1 := by rw [← nstr_one, nval_nstr]
theorem nval_zero {s : ByteArray} (h : okN s = true) : nval s = 0 ↔ s = s0 := by
  constructor
  · intro h0
    have := nstr_nval h
    rw [h0, nstr_zero] at this; exact this.symm
  · rintro rfl; exact nval_s0
/-- Is it a valid fraction? -/
def okP (p : PS) : Bool := okN p.1 && okN p.2 && decide (p.2 ≠ s0) && decide (Nat.gcd (nval p.1) (nval p.2) = 1)
theorem okP_iff {p : PS} : okP p = true ↔ (okN p.1 = true ∧ okN p.2 = true) ∧ nval p.2 ≠ 0 ∧ Nat.gcd (nval p.1) (nval p.2) = 1 := by
  simp only [okP, Bool.and_eq_true, decide_eq_true_eq]
  constructor
  · rintro ⟨⟨⟨h1, h2⟩, h3⟩, h4⟩
    exact ⟨⟨h1, h2⟩, fun h => h3 ((nval_zero h2).1 h), h4⟩
  · rintro ⟨⟨h1, h2⟩, h3, h4⟩
    exact ⟨⟨⟨h1, h2⟩, fun h => h3 ((nval_zero h2).2 h)⟩, h4⟩
/-- The number that it is. -/
def rat (p : PS) : Rat := (nval p.1 : Rat) / (nval p.2 : Rat)
/-- The strings of a number. -/
def ps (r : Rat) : PS := (nstr r.num.toNat, nstr r.den)
def fits (r : Rat) : Bool := decide (r.num.toNat < big) && decide (r.den < big)
theorem div_eq_mk {n d : Nat} (hd : d ≠ 0) (hc : Nat.gcd n d = 1) : (n : Rat) / (d : Rat) = ⟨(n : Int), d, hd, hc⟩ := by
  rw [Rat.mk_eq_mkRat, Rat.mkRat_eq_div]; simp [Rat.intCast_natCast]
theorem rat_eq {p : PS} (h : okP p = true) : (rat p).num = nval p.1 ∧ (rat p).den = nval p.2 := by
  obtain ⟨_, h2, h3⟩ := okP_iff.1 h
  unfold rat
  rw [div_eq_mk h2 h3]
  exact ⟨rfl, rfl⟩
theorem rat_nonneg (p : PS) : 0 ≤ rat p := by
  unfold rat
  rw [Rat.div_def]
  by_cases h : nval p.2 = 0
  · rw [h]; simp
  · exact Rat.mul_nonneg Rat.natCast_nonneg (Rat.le_of_lt (Rat.inv_pos.2 (Rat.natCast_pos.2 (by omega))))
theorem ps_rat {p : PS} (h : okP p = true) : ps (rat p) = p := by
  obtain ⟨h1, h2⟩ := rat_eq h
  obtain ⟨⟨h3, h4⟩, _⟩ := okP_iff.1 h
  unfold ps
  rw [h1, h2, Int.toNat_natCast, nstr_nval h3, nstr_nval h4]
theorem num_nat {r : Rat} (h : 0 ≤ r) : ((r.num.toNat : Nat) : Int) = r.num := Int.toNat_of_nonneg (Rat.num_nonneg.2 h)
theorem rat_ps {r : Rat} (h : 0 ≤ r) : rat (ps r) = r := by
  unfold rat ps
  rw [nval_nstr, nval_nstr]
  have h1 := num_nat h
  have h2 := Rat.mkRat_self r
  rw [Rat.mkRat_eq_div] at h2
  rw [← Rat.intCast_natCast, h1]; exact h2
theorem okP_ps {r : Rat} (h : 0 ≤ r) : okP (ps r) = fits r := by
  rw [Bool.eq_iff_iff, okP_iff]
  unfold ps fits
  rw [nval_nstr, nval_nstr, okN_nstr, okN_nstr, Bool.and_eq_true, decide_eq_true_eq, decide_eq_true_eq]
  constructor
  · intro h; exact h.1
  · intro h1
    refine ⟨h1, r.den_nz, ?_⟩
    have h2 := r.reduced
    have h3 := num_nat h
    have h4 : r.num.natAbs = r.num.toNat := by omega
    rw [h4] at h2; exact h2
theorem fits_rat {p : PS} (h : okP p = true) : fits (rat p) = true := by
  have := okP_ps (rat_nonneg p)
  rw [ps_rat h] at this; rw [← this]; exact h
/-- A quotient's numbers: in lowest terms. -/
theorem quot_num {n d : Nat} (hd : d ≠ 0) : ((n : Rat) / (d : Rat)).num.toNat = n / Nat.gcd n d ∧ ((n : Rat) / (d : Rat)).den = d / Nat.gcd n d := by
  have e : (n : Rat) / (d : Rat) = Rat.divInt (n : Int) (d : Int) := by rw [Rat.divInt_eq_div, Rat.intCast_natCast, Rat.intCast_natCast]
  rw [e, Rat.num_divInt, Rat.den_divInt]
  rw [if_neg (by omega), Int.sign_eq_one_of_pos (by omega), Int.one_mul]
  rw [show Int.gcd (d : Int) (n : Int) = Nat.gcd n d by rw [Int.gcd_comm]; rfl]
  constructor
  · rw [← Int.natCast_ediv, Int.toNat_natCast]
  · simp
theorem fits_quot {n d : Nat} (hd : d ≠ 0) (h1 : n < big) (h2 : d < big) : fits ((n : Rat) / (d : Rat)) = true := by
  unfold fits
  obtain ⟨e1, e2⟩ := quot_num (n := n) hd
  rw [e1, e2, Bool.and_eq_true, decide_eq_true_eq, decide_eq_true_eq]
  exact ⟨Nat.lt_of_le_of_lt (Nat.div_le_self _ _) h1, Nat.lt_of_le_of_lt (Nat.div_le_self _ _) h2⟩
/-- A result: a part, and the error. -/
abbrev Res := PS × Int
def no (e : Int) : Res := ((⟨#[]⟩, ⟨#[]⟩), e)
/-- A number as a result. -/
def mkR (r : Rat) : Res := if fits r = true then (ps r, 0) else no 4
def addR (a b : PS) : Res := if okP a && okP b then mkR (rat a + rat b) else no 2
def subR (a b : PS) : Res := if okP a && okP b then (if rat a < rat b then no 11 else mkR (rat a - rat b)) else no 2
def mulR (a b : PS) : Res := if okP a && okP b then mkR (rat a * rat b) else no 2
def divR (a b : PS) : Res := if okP a && okP b then (if rat b = 0 then no 10 else mkR (rat a / rat b)) else no 2
def cmpR (a b : PS) : Int := if okP a && okP b then (if rat a < rat b then -1 else if rat b < rat a then 1 else 0) else 0
def makeR (n d : ByteArray) : Res := if okN n && okN d then (if nval d = 0 then no 10 else mkR ((nval n : Rat) / (nval d : Rat))) else no 2
def ratioR (a b : Int) : Res := if a < 0 ∨ b < 0 then no 11 else makeR (nstr a.toNat) (nstr b.toNat)
def checkR (p : PS) : Int := if okP p then 0 else 2
theorem natCast_ne {d : Nat} (h : d ≠ 0) : (d : Rat) ≠ 0 := by simpa using h
theorem rat_add {p q : PS} (hp : okP p = true) (hq : okP q = true) : rat p + rat q = ((nval p.1 * nval q.2 + nval q.1 * nval p.2 : Nat) : Rat) / ((nval p.2 * nval q.2 : Nat) : Rat) := by
  have h1 := natCast_ne (okP_iff.1 hp).2.1
  have h2 := natCast_ne (okP_iff.1 hq).2.1
  unfold rat
  simp only [Rat.natCast_mul, Rat.natCast_add]
  grind
theorem rat_mul (p q : PS) : rat p * rat q = ((nval p.1 * nval q.1 : Nat) : Rat) / ((nval p.2 * nval q.2 : Nat) : Rat) := by
  unfold rat
  simp only [Rat.natCast_mul]
  grind
theorem rat_div (p q : PS) : rat p / rat q = ((nval p.1 * nval q.2 : Nat) : Rat) / ((nval p.2 * nval q.1 : Nat) : Rat) := by
  unfold rat
  simp only [Rat.natCast_mul]
  grind
theorem rat_lt {p q : PS} (hp : okP p = true) (hq : okP q = true) : rat p < rat q ↔ nval p.1 * nval q.2 < nval q.1 * nval p.2 := by
  obtain ⟨e1, e2⟩ := rat_eq hp
  obtain ⟨e3, e4⟩ := rat_eq hq
  rw [Rat.lt_iff, e1, e2, e3, e4, ← Int.natCast_mul, ← Int.natCast_mul]
  omega
theorem rat_sub {p q : PS} (hp : okP p = true) (hq : okP q = true) (h : ¬ rat p < rat q) : rat p - rat q = ((nval p.1 * nval q.2 - nval q.1 * nval p.2 : Nat) : Rat) / ((nval p.2 * nval q.2 : Nat) : Rat) := by
  have h1 := natCast_ne (okP_iff.1 hp).2.1
  have h2 := natCast_ne (okP_iff.1 hq).2.1
  rw [rat_lt hp hq] at h
  obtain ⟨k, hk⟩ : ∃ k, nval p.1 * nval q.2 = nval q.1 * nval p.2 + k := ⟨_, (Nat.add_sub_of_le (by omega)).symm⟩
  have e : nval p.1 * nval q.2 - nval q.1 * nval p.2 = k := by omega
  rw [e]
  have h3 := congrArg (fun n : Nat => (n : Rat)) hk
  simp only [Rat.natCast_mul, Rat.natCast_add] at h3
  unfold rat
  simp only [Rat.natCast_mul]
  grind
theorem rat_zero {p : PS} (h : okP p = true) : rat p = 0 ↔ nval p.1 = 0 := by
  obtain ⟨e1, _⟩ := rat_eq h
  rw [← Rat.num_eq_zero, e1]; omega
end Go.Proofs.CW
namespace Go.Proofs.CW
open Go.RowKit Go.Proofs.YtjfclkbdkafkcaaGreatDoorW.PrintWords Go.Proofs.YtjfclkbdkafkcaaGreatDoor.PF

theorem bt_head (s : ByteArray) (c : UInt8) (l : List UInt8) (h : s.data.toList = c :: l) : bt s 0 = (c.toNat : Int) := by
  have h1 : s.size = (c :: l).length := by rw [← h, list_length]
  rw [← rd_bytesOf]
  simp [rd, bytesOf, h]
theorem contains_digits (c : UInt8) : ([48, 49, 50, 51, 52, 53, 54, 55, 56, 57] : List UInt8).contains c = isd c := by
  have h : ∀ i : Fin 256, ([48, 49, 50, 51, 52, 53, 54, 55, 56, 57] : List UInt8).contains (UInt8.ofNat i.val) = isd (UInt8.ofNat i.val) := by decide +kernel
  have := h ⟨c.toNat, c.toNat_lt⟩
  simpa using this
theorem dropWhile_nil {p : UInt8 → Bool} : ∀ l : List UInt8, l.dropWhile p = [] ↔ ∀ c ∈ l, p c = true
  | [] => by simp
  | c :: l => by
    rw [List.dropWhile_cons]
    by_cases h : p c = true
    · rw [if_pos h, dropWhile_nil l]; simp [h]
    · rw [if_neg h]; simp [h]
theorem trimS_nil (l : List UInt8) : Lib.trimS l ([48, 49, 50, 51, 52, 53, 54, 55, 56, 57] : List UInt8) = [] ↔ allD l = true := by
  unfold Lib.trimS Lib.trimLeftS Lib.trimRightS
  rw [show (fun x => ([48, 49, 50, 51, 52, 53, 54, 55, 56, 57] : List UInt8).contains x) = isd from funext contains_digits, dropWhile_nil]
  constructor
  · intro h
    -- what is left from the end begins with a digit, so it is nothing
    have h2 : (l.reverse.dropWhile isd) = [] := by
      apply Classical.byContradiction
      intro hne
      have h3 := List.head_dropWhile_not isd hne
      have h4 := h _ (by rw [List.mem_reverse]; exact List.head_mem hne)
      rw [h4] at h3; cases h3
    rw [dropWhile_nil] at h2
    simp only [allD, List.all_eq_true]
    intro c hc
    exact h2 c (List.mem_reverse.2 hc)
  · intro h c hc
    simp only [allD, List.all_eq_true] at h
    apply h
    rw [List.mem_reverse] at hc
    exact List.mem_reverse.1 ((List.dropWhile_sublist _).subset hc)
end Go.Proofs.CW
namespace Go.Proofs.CW
open Go.RowKit Go.Shelf

/-- A call of yield: the record is ready; the assignment, then the body, walked in the round's frame. -/
theorem yield_round {F : Fence} {n : Nat} {P : Program} {l : Nat} {r : Loop} {W : World} {args : Array Value} {R : Ending → World → Prop}
    (hF : F.fn r.fn) (hl : W.heap[l]? = some (.loop r)) (hs : args.size = r.params.size)
    (h : r.assign.wpIn (F.inRound l) n P (Exit.then (fun a₁ w₁ => ∃ r1, w₁.heap[l]? = some (.loop r1) ∧ r1.state = .ready ∧ r.body.wpIn (F.inRound l) n P (roundPost P l R) a₁ (w₁.putObj l (.loop { r1 with state := .busy }))) (fun _ _ _ => False))
      { tmps := (r.params.zip args).foldl (fun tmps (t, a) => tmps.setIfInBounds t a) r.tmps, defers := [] } W) :
    YieldAt F n P l args W R := by
  refine ⟨_, _, _, _, run_yield hl hs, roundIn_of_wpIn hF (wpIn_mono h ?_)⟩
  intro e a w hq
  cases e with
  | normal =>
    obtain ⟨r1, h1, h2, h3⟩ := hq
    exact ⟨_, run_beginRound h1 h2, h3⟩
  | exit id => exact hq
  | goto t => exact hq
  | ret => exact hq
  | panic c => exact hq
  | outgrown => exact hq
/-- A round's end off the body's end. -/
theorem round_ends {P : Program} {l : Nat} {R : Ending → World → Prop} {W : World} {r : Loop} {a : Act} (hl : W.heap[l]? = some (.loop r)) (h : R (.returned (.bool true)) (W.putObj l (.loop { r with state := .ready, pending := none }))) :
    roundPost P l R .normal a W := ⟨_, _, run_endRound (P := P) none hl, h⟩
/-- A round's end by a return in the body. -/
theorem round_rets {P : Program} {l : Nat} {R : Ending → World → Prop} {W : World} {r : Loop} {a : Act} (hl : W.heap[l]? = some (.loop r)) (h : R (.returned (.bool false)) (W.putObj l (.loop { r with state := .done, pending := some .ret }))) :
    roundPost P l R .ret a W := ⟨_, _, run_endRound (P := P) (some .ret) hl, h⟩

/-- W' is W but for block l. -/
structure SameBut (l : Nat) (W W' : World) : Prop where
  os : W'.os = W.os
  tape : W'.tape = W.tape
  output : W'.output = W.output
  size : W'.heap.size = W.heap.size
  heap : ∀ k, k ≠ l → W'.heap[k]? = W.heap[k]?
theorem SameBut.put (W : World) (l : Nat) (o : Obj) : SameBut l W (W.putObj l o) := ⟨rfl, rfl, rfl, by simp, fun _ h => World.putObj_heap_other h⟩
/-- A call of yield, the assignment changing no memory; the worlds told by their blocks. -/
theorem yield_round2 {F : Fence} {n : Nat} {P : Program} {l : Nat} {r : Loop} {W : World} {args : Array Value} {R : Ending → World → Prop}
    (hF : F.fn r.fn) (hl : W.heap[l]? = some (.loop r)) (hst : r.state = .ready) (hs : args.size = r.params.size) (a₁ : Act)
    (ha : ∀ K : Act → World → Prop, K a₁ W → r.assign.wpIn (F.inRound l) n P (Exit.then K (fun _ _ _ => False)) { tmps := (r.params.zip args).foldl (fun tmps (t, a) => tmps.setIfInBounds t a) r.tmps, defers := [] } W)
    (hb : ∀ W2, SameBut l W W2 → W2.heap[l]? = some (.loop { r with state := .busy }) → r.body.wpIn (F.inRound l) n P (roundPost P l R) a₁ W2) :
    YieldAt F n P l args W R :=
  yield_round hF hl hs (ha _ ⟨r, hl, hst, hb _ (SameBut.put W l _) (World.putObj_heap_same (Array.getElem?_eq_some_iff.1 hl).1)⟩)
theorem round_ends2 {P : Program} {l : Nat} {R : Ending → World → Prop} {W : World} {r : Loop} {a : Act} (hl : W.heap[l]? = some (.loop r))
    (h : ∀ W', SameBut l W W' → W'.heap[l]? = some (.loop { r with state := .ready, pending := none }) → R (.returned (.bool true)) W') : roundPost P l R .normal a W :=
  round_ends hl (h _ (SameBut.put W l _) (World.putObj_heap_same (Array.getElem?_eq_some_iff.1 hl).1))
theorem round_rets2 {P : Program} {l : Nat} {R : Ending → World → Prop} {W : World} {r : Loop} {a : Act} (hl : W.heap[l]? = some (.loop r))
    (h : ∀ W', SameBut l W W' → W'.heap[l]? = some (.loop { r with state := .done, pending := some .ret }) → R (.returned (.bool false)) W') : roundPost P l R .ret a W :=
  round_rets hl (h _ (SameBut.put W l _) (World.putObj_heap_same (Array.getElem?_eq_some_iff.1 hl).1))

/-- The record of a loop over a function. -/
abbrev loopRec (fn : FuncId) (tmps : Array Value) (ps : Array Tmp) (assign body : Code) (D : Nat) (st : LoopState) (pe : Option Code) : Loop :=
  { state := st, pending := pe, fn := fn, tmps := tmps, params := ps, assign := assign, body := body, defers := D }

/-- 'for .. := range g { .. }' outside of rounds, g a closure: what is owed is the call of g with yield, in the world with the record. -/
theorem range_in {F : Fence} {n : Nat} {P : Program} {g : Operand} {ps : Array Tmp} {assign body : Code} {Q : Exit → Act → World → Prop} {a : Act} {w : World} {gf : Nat} {lb : Array Value}
    (hro : F.round = none) (h1 : 1 ≤ n) (hF : F.fn gf) (hg : a.eval g = .func (.func gf) #[] lb) (eg : ∀ args w, (callFunc gf args).run P w = .ok (.enter gf args) w)
    (H : ∀ fn, F.fn fn → CallsIn F (n - 1) P gf (#[.func (.yield (w.heap.size + 1)) #[] #[]] ++ lb)
      ((w.alloc (.deferred (some []))).alloc (.loop (loopRec fn a.tmps ps assign body w.heap.size .ready none)))
      (rangePost F n P (w.heap.size + 1) Q { a with defers := { target := .collected w.heap.size, args := #[] } :: a.defers })) :
    (Code.rangeFunc g ps assign body).wpIn F n P Q a w := by
  refine wpIn_rangeFunc ?_
  intro fn hfn
  rw [hro]
  obtain ⟨W1, hW1⟩ : ∃ W1, (w.alloc (.deferred (some []))).alloc (.loop (loopRec fn a.tmps ps assign body w.heap.size .ready none)) = W1 := ⟨_, rfl⟩
  have H' := H fn hfn
  rw [hW1] at H'
  refine ⟨w.heap.size + 1, [{ target := .collected w.heap.size, args := #[] }], W1, { target := .fn (.func gf) lb, args := #[.func (.yield (w.heap.size + 1)) #[] #[]] }, W1, gf,
    #[.func (.yield (w.heap.size + 1)) #[] #[]] ++ lb, W1, ?_, ?_, ?_, ?_, fun _ => h1, ?_⟩
  · rw [← hW1]; exact run_enterLoop_outer _ _ _ _ _
  · simp only [resolve, hg]
    simp [go_sem]
  · intro f' hf'; simp [Target.leads] at hf'; subst hf'; exact hF
  · simp [invoke, go_sem, eg]
  · exact H'
/-- The iterator has returned and no jump is pending: on behind the statement. -/
theorem range_done {F : Fence} {n : Nat} {P : Program} {l : Nat} {Q : Exit → Act → World → Prop} {a : Act} {v : Value} {W : World} {r : Loop} (hl : W.heap[l]? = some (.loop r)) (hs : r.state = .ready) (hp : r.pending = none)
    (h : Q .normal a (W.putObj l (.loop { r with state := .exhausted }))) : rangePost F n P l Q a (.returned v) W := by
  refine ⟨r.pending, _, run_endLoop (P := P) hl (by rw [hs]; intro e; cases e), ?_⟩
  have key : ∀ j : Option Code, j = none → (match j with
      | none => Q .normal a (W.putObj l (.loop { r with state := .exhausted }))
      | some c => c.wpIn F n P Q a (W.putObj l (.loop { r with state := .exhausted }))) := by rintro _ rfl; exact h
  exact key _ hp
/-- The iterator has returned and a return is pending. -/
theorem range_returns {F : Fence} {n : Nat} {P : Program} {l : Nat} {Q : Exit → Act → World → Prop} {a : Act} {v : Value} {W : World} {r : Loop} (hl : W.heap[l]? = some (.loop r)) (hs : r.state = .done) (hp : r.pending = some .ret)
    (h : Code.ret.wpIn F n P Q a (W.putObj l (.loop { r with state := .exhausted }))) : rangePost F n P l Q a (.returned v) W := by
  refine ⟨r.pending, _, run_endLoop (P := P) hl (by rw [hs]; intro e; cases e), ?_⟩
  have key : ∀ j : Option Code, j = some .ret → (match j with
      | none => Q .normal a (W.putObj l (.loop { r with state := .exhausted }))
      | some c => c.wpIn F n P Q a (W.putObj l (.loop { r with state := .exhausted }))) := by rintro _ rfl; exact h
  exact key _ hp
theorem cell_sameBut {l : Nat} {o : Loop} {W W' : World} {a : Addr} {v : Value} (h : W.cell? a = some v) (hl : W.heap[l]? = some (.loop o)) (hs : SameBut l W W') : W'.cell? a = some v := by
  have hne : a.block ≠ l := by rintro rfl; simp [World.cell?, hl] at h
  exact (World.cell?_of_block (w := W) (hs.heap _ hne)).trans h
theorem SameBut.below {l n : Nat} {W W' : World} (h : SameBut l W W') (hn : n ≤ l) : Below n W W' := ⟨h.os, h.tape, h.output, by rw [h.size]; exact Nat.le_refl _, fun k hk => h.heap k (by omega)⟩
theorem alloc_at {w : World} {k : Nat} {o o' : Obj} (h : w.heap[k]? = some o) : (w.alloc o').heap[k]? = some o := (Below.heap_alloc w o' k (Array.getElem?_eq_some_iff.1 h).1).trans h
theorem alloc_new {w : World} {k : Nat} (h : w.heap.size = k) (o : Obj) : (w.alloc o).heap[k]? = some o := by subst h; exact World.alloc_heap_new w o
theorem allocs3 (w : World) (o0 o1 o2 : Obj) : (((w.alloc o0).alloc o1).alloc o2).heap[w.heap.size]? = some o0 ∧ (((w.alloc o0).alloc o1).alloc o2).heap[w.heap.size + 1]? = some o1 ∧ (((w.alloc o0).alloc o1).alloc o2).heap[w.heap.size + 1 + 1]? = some o2 ∧ Below w.heap.size w (((w.alloc o0).alloc o1).alloc o2) ∧ (((w.alloc o0).alloc o1).alloc o2).heap.size = w.heap.size + 1 + 1 + 1 :=
  ⟨alloc_at (alloc_at (alloc_new rfl _)), alloc_at (alloc_new (by simp) _), alloc_new (by simp) _, (((Below.refl _ w).alloc (Nat.le_refl _) _).alloc (by simp) _).alloc (by simp; omega) _, by simp⟩
theorem allocs5 (w : World) (o0 o1 o2 o3 o4 : Obj) :
    (((((w.alloc o0).alloc o1).alloc o2).alloc o3).alloc o4).heap[w.heap.size]? = some o0 ∧ (((((w.alloc o0).alloc o1).alloc o2).alloc o3).alloc o4).heap[w.heap.size + 1]? = some o1 ∧ (((((w.alloc o0).alloc o1).alloc o2).alloc o3).alloc o4).heap[w.heap.size + 1 + 1]? = some o2 ∧
    (((((w.alloc o0).alloc o1).alloc o2).alloc o3).alloc o4).heap[w.heap.size + 1 + 1 + 1]? = some o3 ∧ (((((w.alloc o0).alloc o1).alloc o2).alloc o3).alloc o4).heap[w.heap.size + 1 + 1 + 1 + 1]? = some o4 ∧
    Below w.heap.size w (((((w.alloc o0).alloc o1).alloc o2).alloc o3).alloc o4) ∧ (((((w.alloc o0).alloc o1).alloc o2).alloc o3).alloc o4).heap.size = w.heap.size + 1 + 1 + 1 + 1 + 1 := by
  obtain ⟨a, b, c, d, e⟩ := allocs3 w o0 o1 o2
  refine ⟨alloc_at (alloc_at a), alloc_at (alloc_at b), alloc_at (alloc_at c), alloc_at (alloc_new e _), alloc_new (by simp) _, (d.alloc (by simp; omega) _).alloc (by simp; omega) _, by simp⟩
end Go.Proofs.CW
namespace Go.Proofs.CW
open Go.RowKit Go.Shelf Go.Proofs.YtjfclkbdkafkcaaGreatDoorW.PrintWords Go.Proofs.YtjfclkbdkafkcaaGreatDoor.PF
attribute [local go_sem] Oper.semAt_some

theorem own_sameBut {W W' : World} {l base e size n : Nat} {v : Value} {xs : List Value} {o : Loop} (h : W.ownsRow base e size v n xs) (hl : W.heap[l]? = some (.loop o)) (hs : SameBut l W W') : W'.ownsRow base e size v n xs :=
  own_move h fun k hk => hs.heap k (by
    rintro rfl
    obtain ⟨cells, hc⟩ := own_typed h k hk
    rw [hl] at hc; cases hc)
/-- The string in a block of one cell. -/
def lenAt (W : World) (b : Nat) : Nat := match W.cell? ⟨b, 0, none⟩ with
  | some (.string s) => s.size
  | _ => 0
theorem lenAt_eq {W : World} {b t : Nat} {fr : Nat × Nat} {s : ByteArray} (h : W.heap[b]? = some (.cells #[.string s] t fr)) : lenAt W b = s.size := by simp [lenAt, World.cell?, h]

/-- Between two rounds of AppendSeq over groups: the limbs xs are taken, s is left. -/
structure GrM (w : World) (Bn N l D : Nat) (rec : Loop) (xs : List Int) (s : ByteArray) (W : World) : Prop where
  src : W.heap[Bn]? = some (.cells #[.string s] 9 (0, 0))
  box : ∃ v, W.heap[N]? = some (.cells #[v] 91 (0, 0)) ∧ W.ownsRow N 113 1 v xs.length (nums .u64 xs)
  rcd : W.heap[l]? = some (.loop rec)
  dfr : W.heap[D]? = some (.deferred (some []))
  size : l < W.heap.size
  os : W.os = w.os
  tape : W.tape = w.tape
  output : W.output = w.output
  keep : ∀ k, k < N → k ≠ Bn → W.heap[k]? = w.heap[k]?
structure GrV (str : ByteArray) (xs : List Int) (s : ByteArray) : Prop where
  dig : allD s.data.toList = true
  val : lv 1000000000 xs + 1000000000 ^ xs.length * dval s.data.toList = dval str.data.toList
  lim : Lim 1000000000 xs
  few : xs.length + s.size ≤ str.size
theorem GrM.below {w : World} {Bn N l D : Nat} {rec : Loop} {xs : List Int} {s : ByteArray} {W W' : World} (h : GrM w Bn N l D rec xs s W) (hb : Below W.heap.size W W') : GrM w Bn N l D rec xs s W' := by
  obtain ⟨v, hv, ho⟩ := h.box
  have lt : ∀ {k : Nat} {o : Obj}, W.heap[k]? = some o → W'.heap[k]? = some o := fun hk => (hb.block _ (blk_lt hk)).trans hk
  refine ⟨lt h.src, ⟨v, lt hv, pw_own_below ho hb⟩, lt h.rcd, lt h.dfr, Nat.lt_of_lt_of_le h.size hb.size, hb.os.trans h.os, hb.tape.trans h.tape, hb.output.trans h.output, fun k hk hne => ?_⟩
  exact (hb.block k (by have := blk_lt hv; omega)).trans (h.keep k hk hne)
theorem dval_nil : dval [] = 0 := by simp only [dval, dvalA, List.foldl]
theorem GrM.cut {w : World} {Bn N l D : Nat} {rec : Loop} {xs : List Int} {s : ByteArray} {W : World} (h : GrM w Bn N l D rec xs s W) (hB : Bn < N) (s' : ByteArray) : GrM w Bn N l D rec xs s' (W.setCell ⟨Bn, 0, none⟩ (.string s')) := by
  obtain ⟨v, hv, ho⟩ := h.box
  have far : ∀ {k : Nat} {o : Obj}, k ≠ Bn → W.heap[k]? = some o → (W.setCell ⟨Bn, 0, none⟩ (.string s')).heap[k]? = some o := fun hk hw => (Below.heap_setCell W ⟨Bn, 0, none⟩ (.string s') _ hk).trans hw
  have hsz : (W.setCell ⟨Bn, 0, none⟩ (.string s')).heap.size = W.heap.size := by simp
  refine ⟨?_, ⟨v, far (by omega) hv, own_setCell ho ?_ _⟩, far ?_ h.rcd, far ?_ h.dfr, by rw [hsz]; exact h.size, h.os, h.tape, h.output, fun k hk hne => ?_⟩
  · have := blk_set h.src 0 (.string s'); simpa using this
  · intro e
    have := own_base ho Bn (by rw [← e])
    omega
  · rintro rfl
    have := h.src; rw [h.rcd] at this; cases this
  · rintro rfl
    have := h.src; rw [h.dfr] at this; cases this
  · exact (Below.heap_setCell W ⟨Bn, 0, none⟩ (.string s') k hne).trans (h.keep k hk hne)
theorem GrV.cut {str s : ByteArray} {xs : List Int} {q : Nat} {l : List UInt8} (h : GrV str xs s) (hq : q < s.size) (hq9 : s.size - q ≤ 9) (h9 : q = 0 ∨ s.size - q = 9) (hl : l = s.data.toList.drop q) : GrV str (xs ++ [(dval l : Int)]) (s.extract 0 q) := by
  have he : (s.extract 0 q).data.toList = s.data.toList.take q := by rw [Lib.extract_data]; simp
  have hz : (s.extract 0 q).size = q := by simp; omega
  have hd := h.dig
  rw [← List.take_append_drop q s.data.toList, allD_append] at hd
  have hll : (s.data.toList.drop q).length = s.size - q := by rw [List.length_drop, list_length]
  have hlt := dval_lt _ hd.2
  rw [hll] at hlt
  subst hl
  have h10 : 10 ^ (s.size - q) ≤ 10 ^ 9 := Nat.pow_le_pow_right (by decide) hq9
  have hsv : dval s.data.toList = dval (s.data.toList.take q) * 10 ^ (s.size - q) + dval (s.data.toList.drop q) := by
    have := dval_append (s.data.toList.take q) (s.data.toList.drop q)
    rw [List.take_append_drop, hll] at this; exact this
  have hv := h.val
  have hprod : ((dval (s.data.toList.take q) * 10 ^ (s.size - q) : Nat) : Int) = 1000000000 * (dval (s.data.toList.take q) : Int) := by
    rcases h9 with rfl | h9
    · rw [List.take_zero, dval_nil, Nat.zero_mul]; omega
    · rw [h9]; omega
  refine ⟨by rw [he]; exact hd.1, ?_, ?_, by rw [hz, List.length_append]; have := h.few; simp; omega⟩
  · rw [he, lv_snoc, List.length_append, List.length_singleton, Int.pow_succ, ← hv, hsv]
    push_cast at hprod ⊢
    rw [hprod]
    grind
  · exact lim_snoc.2 ⟨h.lim, Int.natCast_nonneg _, by omega⟩
theorem putObj_keeps {w W : World} {l D : Nat} {o1 o2 : Obj} {k : Nat} (h1 : k ≠ l) (h2 : k ≠ D) : ((W.putObj l o1).putObj D o2).heap[k]? = W.heap[k]? :=
  (World.putObj_heap_other h2).trans (World.putObj_heap_other h1)
theorem GrM.done {w : World} {Bn : Nat} {rec : Loop} {str : ByteArray} {xs : List Int} {s : ByteArray} {W : World} (h : GrM w Bn w.heap.size (w.heap.size + 1 + 1) (w.heap.size + 1) rec xs s W) (hg : GrV str xs s) (hs : s.size = 0) (hB : Bn < w.heap.size) (o1 : Loop) (o2 : Obj) {v : Value} (hv : W.heap[w.heap.size]? = some (.cells #[v] 91 (0, 0))) :
    ((W.putObj (w.heap.size + 1 + 1) (.loop o1)).putObj (w.heap.size + 1) o2).ownsRow w.heap.size 113 1 v xs.length (nums .u64 xs) ∧ Lim 1000000000 xs ∧ lv 1000000000 xs = dval str.data.toList ∧ xs.length ≤ str.size ∧
      Below Bn w ((W.putObj (w.heap.size + 1 + 1) (.loop o1)).putObj (w.heap.size + 1) o2) ∧ (∀ k, k < w.heap.size → k ≠ Bn → ((W.putObj (w.heap.size + 1 + 1) (.loop o1)).putObj (w.heap.size + 1) o2).heap[k]? = w.heap[k]?) := by
  obtain ⟨v', hv', ho⟩ := h.box
  have e := hv.symm.trans hv'
  simp only [Option.some.injEq, Obj.cells.injEq, Array.mk.injEq, List.cons.injEq, and_true] at e
  subst e
  have keep : ∀ k, k < w.heap.size → k ≠ Bn → ((W.putObj (w.heap.size + 1 + 1) (.loop o1)).putObj (w.heap.size + 1) o2).heap[k]? = w.heap[k]? := fun k hk hne => (putObj_keeps (w := w) (by omega) (by omega)).trans (h.keep k hk hne)
  have hd : (W.putObj (w.heap.size + 1 + 1) (.loop o1)).heap[w.heap.size + 1]? = some (.deferred (some [])) := (World.putObj_heap_other (by omega)).trans h.dfr
  refine ⟨ownsRow_putObj (ownsRow_putObj ho _ h.rcd rfl) _ hd rfl, hg.lim, ?_, by have := hg.few; omega, ⟨h.os, h.tape, h.output, ?_, fun k hk => keep k (by omega) (by omega)⟩, keep⟩
  · have h0 := hg.val
    rw [(list_nil s).2 hs] at h0
    simpa [dval, dvalA] using h0
  · have := h.size
    simp only [World.putObj_size]; omega
theorem parse_calls (s : ByteArray) (hd : allD s.data.toList = true) (h1 : s.size ≠ 0) (h9 : s.size ≤ 9) (w : World) :
    Calls Tryz.prog 163 #[.string s, .int .i64 10, .int .i64 64] w fun e w' => e = .returned (.tuple #[.int .u64 (dval s.data.toList), .nilIface]) ∧ Below w.heap.size w w' := by
  have hl := dval_lt _ hd
  rw [list_length] at hl
  have h10 : 10 ^ s.size ≤ 10 ^ 9 := Nat.pow_le_pow_right (by decide) h9
  have hp : Lib.parseUintB 64 s.data.toList = .ok (dval s.data.toList) := by
    unfold Lib.parseUintB
    rw [if_neg (by rw [list_nil]; exact h1)]
    exact parseUintM_digits _ _ 0 hd (by show dval s.data.toList ≤ _; omega) (by decide)
  exact (Tryz.strconv_ParseUint_10_at64_ok s (by omega) _ hp w).mono fun e w' ⟨he, hw⟩ => ⟨he, by
    rcases hw with rfl | rfl
    · exact Below.refl _ _
    · exact bytes_below (Below.refl _ _) (Nat.le_refl _) _ _⟩
theorem info_u64 : (Tryz.prog.info? 113).map (fun i => (i.zero, i.size, i.bytes)) = some (some (.int .u64 0), 1, 8) := by kernel_rfl

set_option maxRecDepth 100000 in
set_option maxHeartbeats 1000000 in
theorem appendSeq_in (F : Fence) (n : Nat) (hro : F.round = none) (hF : ∀ f, F.fn f) (hC : ∀ {m f : Nat} {args : Array Value} {w : World} {R : Ending → World → Prop}, Calls Tryz.prog f args w R → CallsIn F m Tryz.prog f args w R) (hn : 5 ≤ n)
    (str : ByteArray) (hd : allD str.data.toList = true) (hs : str.size ≤ 100000) (Bn : Nat) (w : World) (hB : w.heap[Bn]? = some (.cells #[.string str] 9 (0, 0))) :
    CallsIn F n Tryz.prog 161 #[.slice none 0 0, .func (.func 162) #[] #[.pointer (some ⟨Bn, 0, none⟩)]] w fun e W => ∃ v xs, e = .returned v ∧
      W.ownsRow w.heap.size 113 1 v xs.length (nums .u64 xs) ∧ Lim 1000000000 xs ∧ lv 1000000000 xs = dval str.data.toList ∧ xs.length ≤ str.size ∧ Below Bn w W ∧ (∀ k, k < w.heap.size → k ≠ Bn → W.heap[k]? = w.heap[k]?) := by
  have h1 : 1 ≤ n := by omega
  have hlt := blk_lt hB
  obtain ⟨i0, hi, hz0, hz1, hz2⟩ := info_parts info_u64
  refine callsIn_of_wp_marks Tryz.func161 rfl (hF _) ?_ hro
  simp only [Tryz.ntmps161, List.size_toArray, List.length_cons, List.length_nil, Nat.reduceAdd, Nat.reduceSub, Array.replicate_succ, Array.replicate_zero, List.push_toArray, List.append_toArray, List.nil_append, List.cons_append]
  gi_wp2
  refine range_in hro h1 (hF _) rfl (enters_of Tryz.func162 (by kernel_rfl) rfl) ?_
  intro fn hfn
  simp only [World.size_alloc, List.append_toArray, List.cons_append, List.nil_append]
  generalize hrec : loopRec fn _ _ _ _ _ _ _ = rec
  obtain ⟨W1, hW1⟩ : ∃ W1, ((w.alloc (.cells #[.slice none 0 0] 91)).alloc (.deferred (some []))).alloc (.loop rec) = W1 := ⟨_, rfl⟩
  have hV : GrV str [] str := ⟨hd, by simp [lv], lim_nil _, by simp⟩
  have hJ : GrM w Bn w.heap.size (w.heap.size + 1 + 1) (w.heap.size + 1) rec [] str W1 := by
    have hb0 := Below.heap_alloc w (.cells #[.slice none 0 0] 91)
    have hb1 := Below.heap_alloc (w.alloc (.cells #[.slice none 0 0] 91)) (.deferred (some []))
    have hb2 := Below.heap_alloc ((w.alloc (.cells #[.slice none 0 0] 91)).alloc (.deferred (some []))) (.loop rec)
    simp only [World.size_alloc] at hb1 hb2
    rw [← hW1]
    refine ⟨?_, ⟨_, ?_, own_nil _ _ _ _⟩, ?_, ?_, ?_, rfl, rfl, rfl, ?_⟩
    · rw [hb2 _ (by omega), hb1 _ (by omega), hb0 _ hlt]; exact hB
    · rw [hb2 _ (by omega), hb1 _ (by omega)]; exact heap_alloc_new w _
    · have := heap_alloc_new ((w.alloc (.cells #[.slice none 0 0] 91)).alloc (.deferred (some []))) (.loop rec)
      simpa [World.size_alloc] using this
    · rw [hb2 _ (by omega)]
      have := heap_alloc_new (w.alloc (.cells #[.slice none 0 0] 91)) (.deferred (some []))
      simpa [World.size_alloc] using this
    · simp [World.size_alloc]
    · intro k hk _
      rw [hb2 _ (by omega), hb1 _ (by omega), hb0 _ hk]
  rw [hW1]
  clear hW1
  have Hrec := Lib.hid hrec
  clear hrec
  refine callsIn_of_wp Tryz.func162 rfl (hF _) ?_ hro
  simp only [Tryz.ntmps162, List.size_toArray, List.length_cons, List.length_nil, Nat.reduceAdd, Nat.reduceSub, Array.replicate_succ, Array.replicate_zero, List.push_toArray, List.append_toArray, List.nil_append, List.cons_append]
  gi_wp2
  gi_loopw [3] (fun _ wr => ∃ xs s, GrM w Bn w.heap.size (w.heap.size + 1 + 1) (w.heap.size + 1) rec xs s wr ∧ Hid (GrV str xs s)) (fun _ wr => lenAt wr Bn)
  case atStart => exact ⟨[], str, hJ, Lib.hid hV⟩
  case round =>
    obtain ⟨xs, s, hJs, HV⟩ := hrel
    have hc := blk_cell hJs.src 0
    simp only [List.getElem?_toArray, List.getElem?_cons_zero] at hc
    by_cases h00 : s.size = 0
    · have c1 : ¬ (0 : Int) < (s.size : Int) := by omega
      have HJ := Lib.hid hJs
      have h0 := Lib.hid h00
      clear h00
      clear hJs
      gi_wp2
      go_end0
      have J := HJ.out
      obtain ⟨v, hv, ho⟩ := J.box
      refine range_done (r := rec) J.rcd (by rw [← Hrec.out]) (by rw [← Hrec.out]) ?_
      have hv2 := (World.putObj_heap_other (w := wr) (o := .loop { rec with state := .exhausted }) (show w.heap.size ≠ w.heap.size + 1 + 1 by omega)).trans hv
      have hcv := blk_cell hv2 0
      simp only [List.getElem?_toArray, List.getElem?_cons_zero] at hcv
      have hv0 := Lib.hid hv
      clear hc hv hv2
      gi_wp2
      have hK : (wr.putObj (w.heap.size + 1 + 1) (.loop { rec with state := .exhausted })).heap[w.heap.size + 1]? = some (.deferred (some [])) := (World.putObj_heap_other (by omega)).trans J.dfr
      refine ⟨by simp, .inl ⟨_, _, rfl, run_takeDeferred hK, ?_⟩⟩
      obtain ⟨f1, f2, f3, f4, f5, f6⟩ := J.done HV.out h0.out hlt { rec with state := .exhausted } (.deferred none) hv0.out
      exact ⟨v, results_tmp (t := 4) rfl _ _ _, v, xs, rfl, f1, f2, f3, f4, f5, f6⟩
    · have c1 : (0 : Int) < (s.size : Int) := by omega
      have HJ := Lib.hid hJs
      have HSL := Lib.hid (lenAt_eq hJs.src)
      have hfew := HV.out.few
      have hsz : s.size ≤ 100000 := by omega
      clear hJs hfew
      gi_wp2_with fail
      simp only [show max (0 : Int) ((s.size : Int) - 9) = ((s.size - 9 : Nat) : Int) from by omega, Int.toNat_natCast]
      obtain ⟨q, hq, hq1, hq2, hq3⟩ : ∃ q, s.size - 9 = q ∧ q < s.size ∧ s.size - q ≤ 9 ∧ Hid (q = 0 ∨ s.size - q = 9) := ⟨_, rfl, by omega, by omega, Lib.hid (by omega)⟩
      rw [hq]
      clear hq
      have hpe : (s.extract q s.size).data.toList = s.data.toList.drop q := Lib.extract_to_end s q
      have hpd : allD (s.extract q s.size).data.toList = true := by
        have := HV.out.dig
        rw [← List.take_append_drop q s.data.toList, allD_append] at this
        rw [hpe]; exact this.2
      have hps : (s.extract q s.size).size = s.size - q := by simp
      obtain ⟨p, hp⟩ : ∃ p, s.extract q s.size = p := ⟨_, rfl⟩
      rw [hp] at hpe hpd hps
      rw [hp]
      have HP := Lib.hid hpe
      have HD := Lib.hid hpd
      have HS := Lib.hid hps
      clear hp hpe hpd hps
      refine ⟨fun _ => by omega, (hC (parse_calls p HD.out (by have := HS.out; omega) (by have := HS.out; omega) _)).mono ?_⟩
      rintro e w1 ⟨rfl, hb⟩
      have hJ1 := HJ.out.below hb
      clear hb HJ hc
      have hlen : xs.length + 1 ≤ 100001 := by have := HV.out.few; omega
      have hY : YieldAt F (n - 1 - 1) Tryz.prog (w.heap.size + 1 + 1) #[.int .u64 (dval p.data.toList)] w1 (fun e W' => e = .returned (.bool true) ∧ GrM w Bn w.heap.size (w.heap.size + 1 + 1) (w.heap.size + 1) rec (xs ++ [(dval p.data.toList : Int)]) s W') := by
        have er := Hrec.out
        subst er
        clear HP HD HS HV
        obtain ⟨v, hv, ho⟩ := hJ1.box
        have hJ2 := Lib.hid hJ1
        refine yield_round2 (hF _) hJ1.rcd rfl rfl { tmps := #[.slice none 0 0, .func (.func 162) #[] #[.pointer (some ⟨Bn, 0, none⟩)], .pointer (some ⟨w.heap.size, 0, none⟩), undef, .slice none 0 0, .int .u64 (dval p.data.toList), .func (.func 162) #[] #[.pointer (some ⟨Bn, 0, none⟩)], .int .u64 (dval p.data.toList), undef, undef, undef, undef, undef], defers := [] } ?_ ?_
        · intro K hK
          gi_wp2
          exact hK
        · intro W2 hsb hl2
          have hb1 : Boxed W2 w.heap.size 91 v := (hsb.heap _ (by omega)).trans hv
          have ho1 : W2.ownsRow w.heap.size 113 1 v xs.length (nums .u64 xs) := own_sameBut ho hJ1.rcd hsb
          have hsz2 : w.heap.size + 1 + 1 < W2.heap.size := by have := hJ1.size; have := hsb.size; omega
          have HSB := Lib.hid hsb
          have HL2 := Lib.hid hl2
          have HB1 := Lib.hid hb1
          have hcv := hb1.cell
          clear hsb hl2 hv hb1 ho
          gi_wp2_with (gi_at_builtin; refine wpListIn_append_own _ rfl _ _ 91 rfl w.heap.size 113 i0 (.int .u64 0) 1 8 Tryz.underlying91 hi hz0 hz1 hz2 rfl (by decide) _ _ _ rfl (ho1.alloc _) ⟨W2.heap.size, 0, none⟩ 1 1 [.int .u64 (dval p.data.toList)] rfl rfl (cell_one_new _ _ _) (by simp [Value.oneCell']) (by unfold maxLen; omega) (by omega) (by simp; omega) ?_; intro v' w3 hown' hgrow _; obtain ⟨g', cap', rfl⟩ := ownsRow_succ hown'; obtain ⟨hv1, hv2, hr2, hk2, hb2⟩ := HB1.out.appended (by decide) ho1 (by omega) (Nat.le_refl _) hown' hgrow; have hc1 := hv1.cell; have hf1 := hv1.frozen)
          have HJ1 := hJ2.out
          have hl4 := hk2.same _ _ HL2.out rfl
          have hd4 := hk2.same _ _ ((HSB.out.heap _ (by omega)).trans HJ1.dfr) rfl
          refine round_ends2 hl4 ?_
          intro W' hs' hl'
          have low : ∀ k, k < w.heap.size → W'.heap[k]? = w1.heap[k]? := fun k hk => (hs'.heap k (by omega)).trans ((hb2.block k hk).trans (HSB.out.heap k (by omega)))
          refine ⟨rfl, (low Bn hlt).trans HJ1.src, ⟨_, (hs'.heap _ (by omega)).trans hv2, ?_⟩, hl', (hs'.heap _ (by omega)).trans hd4, ?_, ?_, ?_, ?_, fun k hk hne => (low k hk).trans (HJ1.keep k hk hne)⟩
          · have := own_sameBut hr2 hl4 hs'
            simpa [nums] using this
          · have := hs'.size; have := hb2.size; omega
          · exact hs'.os.trans (hb2.os.trans (HSB.out.os.trans HJ1.os))
          · exact hs'.tape.trans (hb2.tape.trans (HSB.out.tape.trans HJ1.tape))
          · exact hs'.output.trans (hb2.output.trans (HSB.out.output.trans HJ1.output))
      obtain ⟨fn', tmps', assign', body', hy, hR⟩ := hY
      clear hJ1
      gi_wp2
      refine ⟨fun _ => by omega, hR.mono ?_⟩
      rintro e W3 ⟨rfl, hM3⟩
      have hc3 := blk_cell hM3.src 0
      simp only [List.getElem?_toArray, List.getElem?_cons_zero] at hc3
      have hf3 := blk_frozen hM3.src 0
      have HM3 := Lib.hid hM3
      clear hM3 hy hR
      gi_wp2
      go_roundw
      case rel => exact ⟨_, s.extract 0 q, HM3.out.cut hlt _, Lib.hid (HV.out.cut hq1 hq2 hq3.out HP.out)⟩
      case measure =>
        have e1 := lenAt_eq (HM3.out.cut hlt (s.extract 0 q)).src
        rw [e1, HSL.out]
        simp; omega
end Go.Proofs.CW
namespace Go.Proofs.CW
open Go.RowKit Go.Shelf Go.Proofs.YtjfclkbdkafkcaaGreatDoorW.PrintWords Go.Proofs.YtjfclkbdkafkcaaGreatDoor.PF

/-- A value that reads as the limbs xs, in blocks of which 'ok' holds. -/
abbrev Limbs (W : World) (ok : Nat → Prop) (v : Value) (xs : List Int) : Prop := Kd.V (Kd.int .u64) 113 W 0 ok v xs
/-- A value is the number n: its limbs, without zeros at the end; it lies in blocks of which 'ok' holds. -/
structure NumIn (W : World) (ok : Nat → Prop) (v : Value) (n : Nat) : Prop where
  mk_ ::
  ex : ∃ xs, Limbs W ok v xs ∧ Lim 1000000000 xs ∧ Norm xs ∧ lv 1000000000 xs = n
theorem NumIn.below {W W' : World} {ok : Nat → Prop} {v : Value} {n : Nat} (h : NumIn W ok v n) (hb : Below W.heap.size W W') : NumIn W' ok v n := by
  obtain ⟨xs, h1, h2⟩ := h.ex
  exact ⟨xs, Kd.V_below h1 hb, h2⟩
theorem NumIn.mono {W : World} {ok ok' : Nat → Prop} {v : Value} {n : Nat} (h : NumIn W ok v n) (hk : ∀ k, ok k → ok' k) : NumIn W ok' v n := by
  obtain ⟨xs, h1, h2⟩ := h.ex
  exact ⟨xs, Kd.V_mono h1 hk, h2⟩
/-- Anywhere. -/
abbrev Num (W : World) (v : Value) (n : Nat) : Prop := NumIn W (fun _ => True) v n
theorem NumIn.num {W : World} {ok : Nat → Prop} {v : Value} {n : Nat} (h : NumIn W ok v n) : Num W v n := h.mono fun _ _ => trivial

theorem trim_calls (W : World) (ok : Nat → Prop) (v : Value) (xs : List Int) (h : Limbs W ok v xs) (hl : Lim 1000000000 xs) (hn : xs.length ≤ 1000000) :
    Calls Tryz.prog 120 #[v] W fun e W' => ∃ u, e = .returned u ∧ NumIn W' (fun k => ok k ∨ W.heap.size ≤ k) u (lv 1000000000 xs).toNat ∧ Below W.heap.size W W' := by
  obtain ⟨A, c, rfl⟩ := Kd.V_slice h
  obtain ⟨k, hk⟩ := (wtrim_ev _ xs rfl hn).rounds
  refine (weight_number_trim.calls k ok A c xs _ W h hk).mono ?_
  rintro e W' ⟨u, rfl, hv, hb⟩
  refine ⟨u, rfl, ⟨_, hv, lim_trimL hl, trimL_norm _, ?_⟩, hb⟩
  rw [lv_trimL]
  have := lv_nonneg (B := 1000000000) (by decide) hl
  omega
theorem groups_calls (s : ByteArray) (w : World) :
    Calls Tryz.prog 136 #[.string s] w fun e w' => e = .returned (.func (.func 162) #[] #[.pointer (some ⟨w.heap.size, 0, none⟩)]) ∧ w' = w.alloc (.cells #[.string s] 9) := by
  have hmf : ∀ (fn : Fn) (first cap : Array Value) (w : World), (Instr.makeFunc fn first cap).run Tryz.prog w = .ok (.func fn first cap) w := fun _ _ _ _ => rfl
  go_enter Tryz.func136, Tryz.ntmps136
  go_wp2
  go_ret
  exact ⟨rfl, rfl⟩
theorem collect_calls (str : ByteArray) (hd : allD str.data.toList = true) (hs : str.size ≤ 100000) (Bn : Nat) (w : World) (hB : w.heap[Bn]? = some (.cells #[.string str] 9 (0, 0))) :
    Calls Tryz.prog 135 #[.func (.func 162) #[] #[.pointer (some ⟨Bn, 0, none⟩)]] w fun e W => ∃ v xs, e = .returned v ∧
      W.ownsRow w.heap.size 113 1 v xs.length (nums .u64 xs) ∧ Lim 1000000000 xs ∧ lv 1000000000 xs = dval str.data.toList ∧ xs.length ≤ str.size ∧ Below Bn w W ∧ (∀ k, k < w.heap.size → k ≠ Bn → W.heap[k]? = w.heap[k]?) := by
  have HB := Lib.hid hB
  clear hB
  go_enter Tryz.func135, Tryz.ntmps135
  go_wp2_with fail
  refine (callsIn_wide.1 (appendSeq_in Fence.wide 9 rfl (fun _ => trivial) (fun h => callsIn_wide.2 h) (by omega) str hd hs Bn _ HB.out)).mono ?_
  rintro e W ⟨v, xs, rfl, f1, f2, f3, f4, f5, f6⟩
  have F := Lib.hid (And.intro f1 (And.intro f2 (And.intro f3 (And.intro f4 (And.intro f5 f6)))))
  clear f1 f2 f3 f4 f5 f6
  go_wp2_with fail
  go_ret
  exact ⟨v, xs, rfl, F.out⟩
theorem of_calls (s : ByteArray) (hd : allD s.data.toList = true) (hs : s.size ≤ 100000) (w : World) :
    Calls Tryz.prog 101 #[.string s] w fun e w' => ∃ v, e = .returned v ∧ NumIn w' (fun k => w.heap.size ≤ k) v (dval s.data.toList) ∧ Below w.heap.size w w' := by
  go_enter Tryz.func101, Tryz.ntmps101
  go_wp2_with fail
  refine (groups_calls s _).mono ?_
  rintro e w1 ⟨rfl, rfl⟩
  go_wp2_with fail
  refine (collect_calls s hd hs _ _ (heap_alloc_new w _)).mono ?_
  rintro e W ⟨v, xs, rfl, f1, f2, f3, f4, f5, f6⟩
  have HV := Lib.hid (show Limbs W (fun k => w.heap.size ≤ k) v xs from Kd.R_V (Kd.R_of_own f1 (fun k hk => by have := own_base f1 k hk; simp at this; omega)))
  have hsz : w.heap.size ≤ W.heap.size := by have := f5.size; simp at this; omega
  have HBW := Lib.hid (show Below w.heap.size w W from (Below.alloc (Below.refl _ _) (Nat.le_refl _) _).trans f5)
  have F := Lib.hid (And.intro f2 (And.intro f3 (And.intro f4 (And.intro f5 f6))))
  clear f1 f2 f3 f4 f5 f6
  go_wp2_with fail
  refine (trim_calls W _ v xs HV.out F.out.1 (by have := F.out.2.2.1; omega)).mono ?_
  rintro e W2 ⟨u, rfl, hu, hb⟩
  have HU := Lib.hid (And.intro hu hb)
  clear hu hb
  go_wp2_with fail
  go_ret
  refine ⟨u, rfl, ?_, ?_⟩
  · have h1 := HU.out.1
    rw [F.out.2.1, Int.toNat_natCast] at h1
    exact h1.mono fun k hk => by omega
  · exact HBW.out.trans (HU.out.2.mono hsz)
end Go.Proofs.CW
namespace Go.Proofs.CW
open Go.RowKit Go.Shelf Go.Proofs.YtjfclkbdkafkcaaGreatDoorW.PrintWords Go.Proofs.YtjfclkbdkafkcaaGreatDoor.PF
attribute [local go_sem] Oper.semAt_some

set_option maxRecDepth 100000 in
set_option maxHeartbeats 1000000 in
/-- slices.Backward's iterator: J i: the rounds down to i are over. -/
theorem backward_in (F : Fence) (n : Nat) (hro : F.round = none) (hF : ∀ f, F.fn f) (hn : 3 ≤ n) (l Bn c : Nat) (A : Option Addr) (xs : List Int) (hlen : xs.length ≤ 1000000) (J : Nat → World → Prop) (Jx : World → Prop)
    (hsrc : ∀ i W, J i W → W.heap[Bn]? = some (.cells #[.slice A xs.length c] 92 (0, 0)) ∧ Kd.C (Kd.int .u64) W A xs.length xs)
    (hY : ∀ i W, i < xs.length → J (i + 1) W → YieldAt F (n - 1) Tryz.prog l #[.int .i64 i, .int .u64 (xs.getD i 0)] W (fun e W' => (e = .returned (.bool true) ∧ J i W') ∨ (e = .returned (.bool false) ∧ Jx W')))
    (W : World) (h0 : J xs.length W) :
    CallsIn F n Tryz.prog 154 #[.func (.yield l) #[] #[], .pointer (some ⟨Bn, 0, none⟩)] W fun e W' => (∃ v, e = .returned v) ∧ (J 0 W' ∨ Jx W') := by
  have HS := Lib.hid hsrc
  have HY := Lib.hid hY
  have H0 := Lib.hid h0
  have hc := blk_cell (hsrc _ _ h0).1 0
  simp only [List.getElem?_toArray, List.getElem?_cons_zero] at hc
  clear hsrc hY h0
  (refine callsIn_of_wp Tryz.func154 rfl (hF _) ?_ hro; simp only [Tryz.ntmps154, List.size_toArray, List.length_cons, List.length_nil, Nat.reduceAdd, Nat.reduceSub, Array.replicate_succ, Array.replicate_zero, List.push_toArray, List.append_toArray, List.nil_append, List.cons_append])
  gi_wp2
  gi_loopw [3] (fun v wr => ∃ i : Nat, i ≤ xs.length ∧ v = .int .i64 ((i : Int) - 1) ∧ Hid (J i wr)) (fun v _ => (intOf v + 1).toNat)
  case atStart => exact ⟨xs.length, Nat.le_refl _, by rfl, H0⟩
  case round =>
    obtain ⟨i, hi, rfl, HJ⟩ := hrel
    cases i with
    | zero =>
      gi_wp2
      go_end0
      exact ⟨⟨_, rfl⟩, .inl HJ.out⟩
    | succ i =>
      have e1 : ((i + 1 : Nat) : Int) - 1 = (i : Int) := by omega
      rw [e1]
      clear e1
      obtain ⟨hb, hr⟩ := HS.out _ _ HJ.out
      have hc := blk_cell hb 0
      simp only [List.getElem?_toArray, List.getElem?_cons_zero] at hc
      obtain ⟨ad, rfl, hx⟩ := Kd.at_int hr (i : Int) (by omega) (by omega)
      rw [rd_nat, Int.toNat_natCast] at hx
      obtain ⟨fn', tmps', assign', body', hy, hR⟩ := HY.out i wr (by omega) HJ.out
      obtain ⟨x, hxv⟩ : ∃ x, xs.getD i 0 = x := ⟨_, rfl⟩
      rw [hxv] at hx hy
      clear hxv
      have c1 : (0 : Int) ≤ (i : Int) := by omega
      have c2 : (i : Int) < (xs.length : Int) := by omega
      clear hb hr
      gi_wp2
      refine ⟨fun _ => by omega, hR.mono ?_⟩
      clear hy hR
      rintro e W3 (⟨rfl, hJ3⟩ | ⟨rfl, hx3⟩)
      · have HJ3 := Lib.hid hJ3
        clear hJ3
        gi_wp2
        go_roundw
        case rel => exact ⟨i, by omega, by rfl, HJ3⟩
        case measure => simp [intOf]
      · have HX3 := Lib.hid hx3
        clear hx3
        gi_wp2
        refine bodyPost_ret (results_none rfl _ _ _) rfl ?_
        exact ⟨⟨_, rfl⟩, .inr HX3.out⟩
end Go.Proofs.CW
namespace Go.Proofs.CW
open Go.RowKit Go.Shelf Go.Proofs.YtjfclkbdkafkcaaGreatDoorW.PrintWords Go.Proofs.YtjfclkbdkafkcaaGreatDoor.PF
attribute [local go_sem] Oper.semAt_some

theorem backward_calls (A : Option Addr) (n c : Nat) (w : World) :
    Calls Tryz.prog 130 #[.slice A n c] w fun e w' => e = .returned (.func (.func 154) #[] #[.pointer (some ⟨w.heap.size, 0, none⟩)]) ∧ w' = w.alloc (.cells #[.slice A n c] 92) := by
  have hmf : ∀ (fn : Fn) (first cap : Array Value) (w : World), (Instr.makeFunc fn first cap).run Tryz.prog w = .ok (.func fn first cap) w := fun _ _ _ _ => rfl
  go_enter Tryz.func130, Tryz.ntmps130
  go_wp2
  go_ret
  exact ⟨rfl, rfl⟩

theorem results91 (tmps : Array Value) (W : World) (g : Nat) (r : Int) (ht : tmps.getD 4 undef = .pointer (some ⟨g, 0, none⟩)) (h : W.heap[g]? = some (.cells #[.int .i64 r] 3 (0, 0))) :
    (results Tryz.f91 tmps).run Tryz.prog W = .ok (.int .i64 r) W := by
  have hc := blk_cell h 0
  simp only [List.getElem?_toArray, List.getElem?_cons_zero] at hc
  simp only [results, Tryz.results91]
  have ht' : tmps[4]?.getD undef = .pointer (some ⟨g, 0, none⟩) := by simpa using ht
  simp [go_sem, ht', hc]
/-- Between two rounds of compare. -/
structure CmM (w : World) (N : Nat) (A : Option Addr) (c : Nat) (xs : List Int) (B : Option Addr) (d : Nat) (ys : List Int) (rec : Loop) (r : Int) (W : World) : Prop where
  src : W.heap[N + 1 + 1]? = some (.cells #[.slice A xs.length c] 92 (0, 0))
  oth : W.heap[N]? = some (.cells #[.slice B ys.length d] 92 (0, 0))
  res : W.heap[N + 1]? = some (.cells #[.int .i64 r] 3 (0, 0))
  rcd : W.heap[N + 1 + 1 + 1 + 1]? = some (.loop rec)
  dfr : W.heap[N + 1 + 1 + 1]? = some (.deferred (some []))
  size : N + 1 + 1 + 1 + 1 < W.heap.size
  bel : Below N w W

theorem CmM.turn {w : World} {N : Nat} {A : Option Addr} {c : Nat} {xs : List Int} {B : Option Addr} {d : Nat} {ys : List Int} {rec rec' : Loop} {r r' : Int} {W W' : World} (J : CmM w N A c xs B d ys rec r W)
    (hh : ∀ k, k ≠ N + 1 → k ≠ N + 1 + 1 + 1 + 1 → W'.heap[k]? = W.heap[k]?) (hr : W'.heap[N + 1]? = some (.cells #[.int .i64 r'] 3 (0, 0))) (hl : W'.heap[N + 1 + 1 + 1 + 1]? = some (.loop rec'))
    (hs : W'.heap.size = W.heap.size) (h1 : W'.os = W.os) (h2 : W'.tape = W.tape) (h3 : W'.output = W.output) : CmM w N A c xs B d ys rec' r' W' :=
  ⟨(hh _ (by omega) (by omega)).trans J.src, (hh _ (by omega) (by omega)).trans J.oth, hr, hl, (hh _ (by omega) (by omega)).trans J.dfr, by rw [hs]; exact J.size,
    ⟨h1.trans J.bel.os, h2.trans J.bel.tape, h3.trans J.bel.output, by rw [hs]; exact J.bel.size, fun k hk => (hh k (by omega) (by omega)).trans (J.bel.block k hk)⟩⟩
/-- Without a store. -/
theorem CmM.turn0 {w : World} {N : Nat} {A : Option Addr} {c : Nat} {xs : List Int} {B : Option Addr} {d : Nat} {ys : List Int} {rec rec' : Loop} {r : Int} {W W2 W' : World} (J : CmM w N A c xs B d ys rec r W)
    (s1 : SameBut (N + 1 + 1 + 1 + 1) W W2) (s2 : SameBut (N + 1 + 1 + 1 + 1) W2 W') (hl : W'.heap[N + 1 + 1 + 1 + 1]? = some (.loop rec')) : CmM w N A c xs B d ys rec' r W' :=
  J.turn (fun k _ h => (s2.heap k h).trans (s1.heap k h)) ((s2.heap _ (by omega)).trans ((s1.heap _ (by omega)).trans J.res)) hl (s2.size.trans s1.size) (s2.os.trans s1.os) (s2.tape.trans s1.tape) (s2.output.trans s1.output)
/-- With a store of the result. -/
theorem CmM.turn1 {w : World} {N : Nat} {A : Option Addr} {c : Nat} {xs : List Int} {B : Option Addr} {d : Nat} {ys : List Int} {rec rec' : Loop} {r : Int} {W W2 W' : World} (J : CmM w N A c xs B d ys rec r W) (r' : Int)
    (s1 : SameBut (N + 1 + 1 + 1 + 1) W W2) (s2 : SameBut (N + 1 + 1 + 1 + 1) (W2.setCell ⟨N + 1, 0, none⟩ (.int .i64 r')) W') (hl : W'.heap[N + 1 + 1 + 1 + 1]? = some (.loop rec')) : CmM w N A c xs B d ys rec' r' W' := by
  have hset := blk_set ((s1.heap _ (by omega)).trans J.res) 0 (.int .i64 r')
  refine J.turn (fun k h1 h => (s2.heap k h).trans ((Below.heap_setCell W2 ⟨N + 1, 0, none⟩ _ k h1).trans (s1.heap k h))) ((s2.heap _ (by omega)).trans (by simpa using hset)) hl ?_ (s2.os.trans s1.os) (s2.tape.trans s1.tape) (s2.output.trans s1.output)
  rw [s2.size, ← s1.size]; simp
set_option maxRecDepth 100000 in
set_option maxHeartbeats 1000000 in
theorem compare_in (F : Fence) (n : Nat) (hro : F.round = none) (hF : ∀ f, F.fn f) (hC : ∀ {m f : Nat} {args : Array Value} {w : World} {R : Ending → World → Prop}, Calls Tryz.prog f args w R → CallsIn F m Tryz.prog f args w R) (hn : 5 ≤ n)
    (A B : Option Addr) (c d : Nat) (xs ys : List Int) (hl : xs.length = ys.length) (hlen : xs.length ≤ 1000000) (w : World) (hx : Kd.C (Kd.int .u64) w A xs.length xs) (hy : Kd.C (Kd.int .u64) w B ys.length ys) :
    CallsIn F n Tryz.prog 91 #[.slice A xs.length c, .slice B ys.length d] w fun e W => ∃ r : Int, e = .returned (.int .i64 r) ∧ ((r = -1 ∧ ∃ i, i < xs.length ∧ (∀ j, i + 1 ≤ j → xs.getD j 0 = ys.getD j 0) ∧ xs.getD i 0 < ys.getD i 0) ∨ (r = 1 ∧ ∃ i, i < xs.length ∧ (∀ j, i + 1 ≤ j → xs.getD j 0 = ys.getD j 0) ∧ ys.getD i 0 < xs.getD i 0) ∨ (r = 0 ∧ ∀ j, xs.getD j 0 = ys.getD j 0)) ∧ Below w.heap.size w W := by
  have h1 : 1 ≤ n := by omega
  have c1 : ((xs.length : Int) != (ys.length : Int)) = false := by rw [hl]; simp
  have HX := Lib.hid hx
  have HY := Lib.hid hy
  have HL := Lib.hid hl
  clear hl hx hy
  (refine callsIn_of_wp_marks Tryz.func91 rfl (hF _) ?_ hro; simp only [Tryz.ntmps91, List.size_toArray, List.length_cons, List.length_nil, Nat.reduceAdd, Nat.reduceSub, Array.replicate_succ, Array.replicate_zero, List.push_toArray, List.append_toArray, List.nil_append, List.cons_append])
  gi_wp2_with fail
  refine (hC (backward_calls A xs.length c _)).mono ?_
  rintro e w1 ⟨rfl, rfl⟩
  gi_wp2_with fail
  refine range_in hro h1 (hF _) rfl (enters_of Tryz.func154 (by kernel_rfl) rfl) ?_
  intro fn hfn
  simp only [World.size_alloc, List.append_toArray, List.cons_append, List.nil_append]
  generalize hrec : loopRec fn _ _ _ _ _ _ _ = rec
  generalize hW1 : World.alloc _ (.loop rec) = W1
  have hM : CmM w w.heap.size A c xs B d ys rec 0 W1 := by
    rw [← hW1]
    obtain ⟨f0, f1, f2, f3, f4, f5, f6⟩ := allocs5 w (.cells #[.slice B ys.length d] 92) (.cells #[.int .i64 0] 3) (.cells #[.slice A xs.length c] 92) (.deferred (some [])) (.loop rec)
    exact ⟨f2, f0, f1, f4, f3, by rw [f6]; omega, f5⟩
  clear hW1
  have Hrec := Lib.hid hrec
  clear hrec
  refine (backward_in F (n - 1) hro hF (by omega) _ _ c A xs hlen (fun i W => CmM w w.heap.size A c xs B d ys rec 0 W ∧ ∀ j, i ≤ j → xs.getD j 0 = ys.getD j 0)
    (fun W => ∃ r, CmM w w.heap.size A c xs B d ys { rec with state := .done, pending := some .ret } r W ∧ ((r = -1 ∧ ∃ i, i < xs.length ∧ (∀ j, i + 1 ≤ j → xs.getD j 0 = ys.getD j 0) ∧ xs.getD i 0 < ys.getD i 0) ∨ (r = 1 ∧ ∃ i, i < xs.length ∧ (∀ j, i + 1 ≤ j → xs.getD j 0 = ys.getD j 0) ∧ ys.getD i 0 < xs.getD i 0)))
    (fun i W h => ⟨h.1.src, Kd.C_below HX.out h.1.bel⟩) ?round W1 ⟨hM, fun j hj => by rw [getD_ge hj, getD_ge (by have := HL.out; omega)]⟩).mono ?done
  case round =>
    rintro i W hi ⟨hJ, hag⟩
    have er := Hrec.out
    subst er
    have HA := Lib.hid hag
    have HJ := Lib.hid hJ
    have hil : i < ys.length := by have := HL.out; omega
    obtain ⟨xi, hxi⟩ : ∃ x, xs.getD i 0 = x := ⟨_, rfl⟩
    obtain ⟨yi, hyi⟩ : ∃ y, ys.getD i 0 = y := ⟨_, rfl⟩
    rw [hxi]
    have HXI := Lib.hid hxi
    have HYI := Lib.hid hyi
    obtain ⟨ad, e, hcy⟩ := Kd.at_int (Kd.C_below HY.out hJ.bel) (i : Int) (by omega) (by omega)
    subst e
    rw [rd_nat, Int.toNat_natCast, hyi] at hcy
    have HCY := Lib.hid hcy
    clear hag hJ hxi hyi hcy
    refine yield_round2 (hF _) HJ.out.rcd rfl rfl { tmps := #[.slice A xs.length c, .slice (some ad) ys.length d, undef, .pointer (some ⟨w.heap.size, 0, none⟩), .pointer (some ⟨w.heap.size + 1, 0, none⟩), .int .i64 i, .int .u64 xi, .slice A xs.length c, .int .i64 xs.length, .slice (some ad) ys.length d, .int .i64 ys.length, .bool false, undef, undef, undef, undef, undef, .slice A xs.length c, .func (.func 154) #[] #[.pointer (some ⟨w.heap.size + 1 + 1, 0, none⟩)], .int .i64 i, .int .u64 xi, undef, undef, undef, undef, undef, undef, undef, undef, undef, undef, undef, undef], defers := [] } ?_ ?_
    · intro K hK
      gi_wp2
      exact hK
    · intro W2 hsb hl2
      have J := HJ.out
      have hm := (hsb.heap _ (by omega)).trans J.oth
      have hcm := blk_cell hm 0
      simp only [List.getElem?_toArray, List.getElem?_cons_zero] at hcm
      have hcy2 : W2.cell? (ad.add i) = some (.int .u64 yi) := cell_sameBut HCY.out J.rcd hsb
      have hres := (hsb.heap _ (by omega)).trans J.res
      have hf := blk_frozen hres 0
      have hcr := blk_cell hres 0
      simp only [List.getElem?_toArray, List.getElem?_cons_zero] at hcr
      have HSB := Lib.hid hsb
      have HL2 := Lib.hid hl2
      have HRES := Lib.hid hres
      have k1 : (0 : Int) ≤ (i : Int) := by omega
      have k2 : (i : Int) < (ys.length : Int) := by omega
      have hsz := J.size
      clear hsb hl2 hm hres J
      rcases Int.lt_trichotomy xi yi with hlt | heq | hgt
      · have t1 : (xi != yi) = true := by rw [bne_iff_ne]; omega
        gi_wp2
        refine round_rets2 ((Below.heap_setCell W2 ⟨w.heap.size + 1, 0, none⟩ _ _ (by show _ ≠ w.heap.size + 1; omega)).trans HL2.out) ?_
        intro W' hs' hl'
        exact .inr ⟨rfl, -1, HJ.out.turn1 (-1) HSB.out hs' hl', .inl ⟨rfl, i, hi, HA.out, by show xs.getD i 0 < ys.getD i 0; rw [HXI.out, HYI.out]; exact hlt⟩⟩
      · have t1 : (xi != yi) = false := by simp [heq]
        have HEQ := Lib.hid heq
        clear heq
        gi_wp2
        refine round_ends2 HL2.out ?_
        intro W' hs' hl'
        refine .inl ⟨rfl, HJ.out.turn0 HSB.out hs' hl', fun j hj => ?_⟩
        by_cases e : j = i
        · subst e; show xs.getD j 0 = ys.getD j 0; rw [HXI.out, HYI.out]; exact HEQ.out
        · exact HA.out j (by omega)
      · have t1 : (xi != yi) = true := by rw [bne_iff_ne]; omega
        have t2 : ¬ xi < yi := by omega
        gi_wp2
        refine round_rets2 ((Below.heap_setCell W2 ⟨w.heap.size + 1, 0, none⟩ _ _ (by show _ ≠ w.heap.size + 1; omega)).trans HL2.out) ?_
        intro W' hs' hl'
        exact .inr ⟨rfl, 1, HJ.out.turn1 1 HSB.out hs' hl', .inr ⟨rfl, i, hi, HA.out, by show ys.getD i 0 < xs.getD i 0; rw [HXI.out, HYI.out]; exact hgt⟩⟩
  case done =>
    rintro e W ⟨⟨v, rfl⟩, (⟨hJ, hag⟩ | ⟨r, hJ, hr⟩)⟩
    · have HA := Lib.hid hag
      have HJ := Lib.hid hJ
      refine range_done (r := rec) hJ.rcd (by rw [← Hrec.out]) (by rw [← Hrec.out]) ?_
      have hres := (World.putObj_heap_other (w := W) (o := .loop { rec with state := .exhausted }) (show w.heap.size + 1 ≠ w.heap.size + 1 + 1 + 1 + 1 by omega)).trans hJ.res
      have hc := blk_cell hres 0
      have hf := blk_frozen hres 0
      simp only [List.getElem?_toArray, List.getElem?_cons_zero] at hc
      clear hag hJ hres
      gi_wp2
      have J := HJ.out
      have hK : ((W.putObj (w.heap.size + 1 + 1 + 1 + 1) (.loop { rec with state := .exhausted })).setCell ⟨w.heap.size + 1, 0, none⟩ (.int .i64 0)).heap[w.heap.size + 1 + 1 + 1]? = some (.deferred (some [])) :=
        (Below.heap_setCell _ _ _ _ (by show _ ≠ w.heap.size + 1; omega)).trans ((World.putObj_heap_other (by omega)).trans J.dfr)
      refine ⟨by simp, .inl ⟨_, _, rfl, run_takeDeferred hK, ?_⟩⟩
      have hr2 : (((W.putObj (w.heap.size + 1 + 1 + 1 + 1) (.loop { rec with state := .exhausted })).setCell ⟨w.heap.size + 1, 0, none⟩ (.int .i64 0)).putObj (w.heap.size + 1 + 1 + 1) (.deferred none)).heap[w.heap.size + 1]? = some (.cells #[.int .i64 0] 3 (0, 0)) :=
        (World.putObj_heap_other (by omega)).trans (by have := blk_set ((World.putObj_heap_other (w := W) (o := .loop { rec with state := .exhausted }) (show w.heap.size + 1 ≠ w.heap.size + 1 + 1 + 1 + 1 by omega)).trans J.res) 0 (.int .i64 0); simpa using this)
      refine ⟨_, results91 _ _ _ 0 rfl hr2, 0, rfl, .inr (.inr ⟨rfl, fun j => HA.out j (Nat.zero_le _)⟩), ?_⟩
      exact ((J.bel.grown (grownBy_putObj' W _ _) J.bel.size (fun k e => by cases e; omega)).setCell (p := ⟨w.heap.size + 1, 0, none⟩) (by show _ ≤ w.heap.size + 1; omega) _).grown (grownBy_putObj' _ _ _) (by have := J.bel.size; simp; omega) (fun k e => by cases e; omega)
    · have HR := Lib.hid hr
      have HJ := Lib.hid hJ
      refine range_returns (r := { rec with state := .done, pending := some .ret }) hJ.rcd rfl rfl ?_
      clear hr hJ
      gi_wp2
      have J := HJ.out
      have hK : (W.putObj (w.heap.size + 1 + 1 + 1 + 1) (.loop { rec with state := .exhausted, pending := some .ret })).heap[w.heap.size + 1 + 1 + 1]? = some (.deferred (some [])) :=
        (World.putObj_heap_other (by omega)).trans J.dfr
      refine ⟨by simp, .inl ⟨_, _, rfl, run_takeDeferred hK, ?_⟩⟩
      have hr2 : ((W.putObj (w.heap.size + 1 + 1 + 1 + 1) (.loop { rec with state := .exhausted, pending := some .ret })).putObj (w.heap.size + 1 + 1 + 1) (.deferred none)).heap[w.heap.size + 1]? = some (.cells #[.int .i64 r] 3 (0, 0)) :=
        (World.putObj_heap_other (by omega)).trans ((World.putObj_heap_other (by omega)).trans J.res)
      refine ⟨_, results91 _ _ _ r rfl hr2, r, rfl, by rcases HR.out with h | h; exact .inl h; exact .inr (.inl h), ?_⟩
      exact (J.bel.grown (grownBy_putObj' W _ _) J.bel.size (fun k e => by cases e; omega)).grown (grownBy_putObj' _ _ _) (by have := J.bel.size; simp; omega) (fun k e => by cases e; omega)

set_option maxHeartbeats 1000000 in
theorem compare_calls (u v : Value) (a b : Nat) (w : World) (ha : Num w u a) (hb : Num w v b) (hA : (a : Int) < 1000000000 ^ 1000) (hB : (b : Int) < 1000000000 ^ 1000) :
    Calls Tryz.prog 91 #[u, v] w fun e W => ∃ r : Int, e = .returned (.int .i64 r) ∧ Cmp r a b ∧ Below w.heap.size w W := by
  obtain ⟨xs, h1, h2, h3, h4⟩ := ha.ex
  obtain ⟨ys, k1, k2, k3, k4⟩ := hb.ex
  obtain ⟨A, c, rfl⟩ := Kd.V_slice h1
  obtain ⟨B, d, rfl⟩ := Kd.V_slice k1
  have hC1 := (Kd.V_reads' h1).2.2
  have hC2 := (Kd.V_reads' k1).2.2
  have hl1 : xs.length ≤ 1000 := length_le_of_lt b9 h2 h3 (by rw [h4]; exact hA)
  have hl2 : ys.length ≤ 1000 := length_le_of_lt b9 k2 k3 (by rw [k4]; exact hB)
  by_cases hl : xs.length = ys.length
  · refine (callsIn_wide.1 (compare_in Fence.wide 9 rfl (fun _ => trivial) (fun h => callsIn_wide.2 h) (by omega) A B c d xs ys hl (by omega) w hC1 hC2)).mono ?_
    rintro e W ⟨r, rfl, hr, hb⟩
    refine ⟨r, rfl, ?_, hb⟩
    rw [← h4, ← k4]
    rcases hr with ⟨rfl, i, hi, hag, hlt⟩ | ⟨rfl, i, hi, hag, hgt⟩ | ⟨rfl, hag⟩
    · exact cmp_lt (lv_lt_at b9 h2 k2 hl hi hag hlt)
    · exact cmp_gt (lv_lt_at b9 k2 h2 hl.symm (by omega) (fun j hj => (hag j hj).symm) hgt)
    · refine cmp_eq ?_
      have := drop_eq_of hl 0 (fun j _ => hag j)
      simp only [List.drop_zero] at this
      rw [this]
  · have t1 : ((xs.length : Int) != (ys.length : Int)) = true := by rw [bne_iff_ne]; omega
    have HF := Lib.hid (cmp_len b9 h2 k2 h3 k3 hl (by omega) (by omega))
    rw [h4, k4] at HF
    clear hl h1 k1 h4 k4 hC1 hC2
    go_enter Tryz.func91, Tryz.ntmps91
    go_wp2_with fail
    refine bodyPost_ret (results91 _ _ (w.heap.size + 1) ((xs.length : Int) - (ys.length : Int)) rfl ?_) rfl ⟨_, rfl, HF.out, ?_⟩
    · exact alloc_new (by simp) _
    · exact ((Below.refl _ w).alloc (Nat.le_refl _) _).alloc (by simp) _
end Go.Proofs.CW
namespace Go.Proofs.CW
open Go.RowKit Go.Shelf Go.Proofs.YtjfclkbdkafkcaaGreatDoorW.PrintWords Go.Proofs.YtjfclkbdkafkcaaGreatDoor.PF

/-- A sum, so far. -/
structure Plus (xs ys zs : List Int) (k : Nat) (c : Int) : Prop where
  len : zs.length = k
  lim : Lim 1000000000 zs
  car : 0 ≤ c ∧ c ≤ 1
  val : lv 1000000000 zs + 1000000000 ^ k * c = lv 1000000000 (xs.take k) + lv 1000000000 (ys.take k)
theorem Plus.start (xs ys : List Int) : Plus xs ys [] 0 0 := ⟨rfl, lim_nil _, by omega, by simp [lv]⟩
theorem lv_take_succ' (B : Int) (ys : List Int) (k : Nat) : lv B (ys.take (k + 1)) = lv B (ys.take k) + B ^ k * ys.getD k 0 := by
  by_cases h : k < ys.length
  · exact lv_take_succ B h
  · rw [List.take_of_length_le (by omega), List.take_of_length_le (by omega), getD_ge (by omega)]; simp
theorem Plus.step {xs ys zs : List Int} {k : Nat} {c : Int} (h : Plus xs ys zs k c) (hx : Lim 1000000000 xs) (hy : Lim 1000000000 ys) :
    Plus xs ys (zs ++ [(xs.getD k 0 + c + ys.getD k 0) % 1000000000]) (k + 1) ((xs.getD k 0 + c + ys.getD k 0) / 1000000000) := by
  have h1 := lim_getD b9 hx k
  have h2 := lim_getD b9 hy k
  have h3 := h.car
  refine ⟨by simp [h.len], lim_snoc.2 ⟨h.lim, by omega, by omega⟩, by omega, ?_⟩
  rw [lv_snoc, h.len, lv_take_succ', lv_take_succ', Int.pow_succ]
  have h4 := h.val
  have h5 := Int.emod_add_mul_ediv (xs.getD k 0 + c + ys.getD k 0) 1000000000
  generalize (xs.getD k 0 + c + ys.getD k 0) % 1000000000 = r at h5 ⊢
  generalize (xs.getD k 0 + c + ys.getD k 0) / 1000000000 = q at h5 ⊢
  generalize (1000000000 : Int) ^ k = p at h4 ⊢
  grind
theorem Plus.done {xs ys zs : List Int} {c : Int} (h : Plus xs ys zs xs.length c) (hl : ys.length ≤ xs.length) : lv 1000000000 (zs ++ [c]) = lv 1000000000 xs + lv 1000000000 ys ∧ Lim 1000000000 (zs ++ [c]) := by
  refine ⟨?_, lim_snoc.2 ⟨h.lim, h.car.1, by have := h.car; omega⟩⟩
  have h1 := h.val
  rw [List.take_length, List.take_of_length_le hl] at h1
  rw [lv_snoc, h.len, h1]
theorem row_limbs {W : World} {base : Nat} {v : Value} {xs : List Int} {ok : Nat → Prop} (h : W.ownsRow base 113 1 v xs.length (nums .u64 xs)) (hok : ∀ k, base ≤ k → ok k) : Limbs W ok v xs :=
  Kd.R_V (Kd.R_of_own h (fun k hk => hok k (own_base h k hk)))

set_option maxRecDepth 100000 in
set_option maxHeartbeats 1000000 in
theorem plus_long (A B : Option Addr) (c d : Nat) (xs ys : List Int) (hl : ¬ xs.length < ys.length) (h1 : xs.length ≤ 100000) (h2 : ys.length ≤ 100000) (hx : Lim 1000000000 xs) (hy : Lim 1000000000 ys) (w : World) (hcx : Kd.C (Kd.int .u64) w A xs.length xs) (hcy : Kd.C (Kd.int .u64) w B ys.length ys) :
    Calls Tryz.prog 89 #[.slice A xs.length c, .slice B ys.length d] w fun e W => ∃ v, e = .returned v ∧ NumIn W (fun k => w.heap.size ≤ k) v (lv 1000000000 xs + lv 1000000000 ys).toNat ∧ Below w.heap.size w W := by
  obtain ⟨i0, hi, hz0, hz1, hz2⟩ := info_parts info_u64
  have HX := Lib.hid hx
  have HY := Lib.hid hy
  have HCX := Lib.hid hcx
  have HCY := Lib.hid hcy
  clear hx hy hcx hcy
  go_enter Tryz.func89, Tryz.ntmps89
  go_wp2_with (refine wpList_make_own _ rfl (.const (.int .i64 0)) (.tmp 18) 92 rfl w.heap.size 113 i0 (.int .u64 0) 1 Tryz.underlying92 hi hz0 hz1 .i64 .i64 ((xs.length : Int) + 1) (xs.length + 1) rfl rfl (by omega) (by rw [hz2]; omega) (by unfold maxLen; omega) (Nat.le_refl _) ?_; intro w1 hown1 hgr1)
  have HO1 := Lib.hid hown1
  have HB1 := Lib.hid (show Below w.heap.size w w1 from (Below.refl _ w).grown hgr1 (Nat.le_refl _) (fun k e => by cases e))
  clear hown1 hgr1
  go_loopw [5, 6, 22] (fun out car idx wr => ∃ (k : Nat) (zs : List Int) (cr : Int), k ≤ xs.length ∧ idx = .int .i64 k ∧ car = .int .u64 cr ∧ Hid (Plus xs ys zs k cr) ∧ Hid (wr.ownsRow w.heap.size 113 1 out zs.length (nums .u64 zs)) ∧ Hid (Below w.heap.size w wr)) (fun _ _ idx _ => xs.length - (intOf idx).toNat)
  case atStart => exact ⟨0, [], 0, Nat.zero_le _, rfl, rfl, Lib.hid (Plus.start _ _), HO1, HB1⟩
  case round =>
    obtain ⟨k, zs, cr, hk, rfl, rfl, HP, HO, HB⟩ := hrel
    have hcr := HP.out.car
    obtain ⟨hcr1, hcr2⟩ := hcr
    have hzl : zs.length ≤ 100000 := by have := HP.out.len; omega
    by_cases hlt : k < xs.length
    · have c1 : (k : Int) < (xs.length : Int) := by omega
      have c0 : (0 : Int) ≤ (k : Int) := by omega
      obtain ⟨ad, e, hxc⟩ := Kd.at_int (Kd.C_below HCX.out HB.out) (k : Int) (by omega) (by omega)
      subst e
      rw [rd_nat, Int.toNat_natCast] at hxc
      have hxr := lim_getD b9 HX.out k
      have hyr := lim_getD b9 HY.out k
      have hst := HP.out.step HX.out HY.out
      obtain ⟨x, hxe⟩ : ∃ x, xs.getD k 0 = x := ⟨_, rfl⟩
      rw [hxe] at hxc hxr hst
      obtain ⟨hx1, hx2⟩ := hxr
      by_cases hs : k < ys.length
      · have c2 : (k : Int) < (ys.length : Int) := by omega
        obtain ⟨bd, e, hyc⟩ := Kd.at_int (Kd.C_below HCY.out HB.out) (k : Int) (by omega) (by omega)
        subst e
        rw [rd_nat, Int.toNat_natCast] at hyc
        obtain ⟨y, hye⟩ : ∃ y, ys.getD k 0 = y := ⟨_, rfl⟩
        rw [hye] at hyc hyr hst
        obtain ⟨hy1, hy2⟩ := hyr
        have HST := Lib.hid hst
        clear hst hxe hye
        have ho := HO.out
        go_wp2_with (at_builtin; refine wpList_append_own _ rfl _ _ 92 rfl w.heap.size 113 i0 (.int .u64 0) 1 8 Tryz.underlying92 hi hz0 hz1 hz2 rfl (by decide) _ _ _ rfl (ho.alloc _) ⟨wr.heap.size, 0, none⟩ 1 1 [.int .u64 ((x + cr + y) % 1000000000)] rfl rfl (cell_one_new _ _ _) (by simp [Value.oneCell']) (by unfold maxLen; omega) (by omega) (by have := HB.out.size; simp; omega) ?_; intro v' w3 hown' hgrow _; clear ho)
        have HO3 := Lib.hid hown'
        have HB3 := Lib.hid (show Below w.heap.size w w3 from ((HB.out.alloc HB.out.size _).grown hgrow (by have := HB.out.size; simp; omega) (fun j hj => own_base HO.out j hj)))
        clear hown' hgrow
        go_wp2
        go_roundw
        case rel => exact ⟨k + 1, _, _, by omega, by go_num, rfl, HST, by have := HO3.out; simpa [nums] using Lib.hid this, HB3⟩
        case measure => simp [intOf]; omega
      · have c2 : ¬ (k : Int) < (ys.length : Int) := by omega
        rw [getD_ge (xs := ys) (by omega), Int.add_zero] at hst
        have HST := Lib.hid hst
        clear hst hxe hyr
        have ho := HO.out
        go_wp2_with (at_builtin; refine wpList_append_own _ rfl _ _ 92 rfl w.heap.size 113 i0 (.int .u64 0) 1 8 Tryz.underlying92 hi hz0 hz1 hz2 rfl (by decide) _ _ _ rfl (ho.alloc _) ⟨wr.heap.size, 0, none⟩ 1 1 [.int .u64 ((x + cr) % 1000000000)] rfl rfl (cell_one_new _ _ _) (by simp [Value.oneCell']) (by unfold maxLen; omega) (by omega) (by have := HB.out.size; simp; omega) ?_; intro v' w3 hown' hgrow _; clear ho)
        have HO3 := Lib.hid hown'
        have HB3 := Lib.hid (show Below w.heap.size w w3 from ((HB.out.alloc HB.out.size _).grown hgrow (by have := HB.out.size; simp; omega) (fun j hj => own_base HO.out j hj)))
        clear hown' hgrow
        go_wp2
        go_roundw
        case rel => exact ⟨k + 1, _, _, by omega, by go_num, rfl, HST, by have := HO3.out; simpa [nums] using Lib.hid this, HB3⟩
        case measure => simp [intOf]; omega
    · obtain rfl : k = xs.length := by omega
      have ho := HO.out
      go_wp2_with (at_builtin; refine wpList_append_own _ rfl _ _ 92 rfl w.heap.size 113 i0 (.int .u64 0) 1 8 Tryz.underlying92 hi hz0 hz1 hz2 rfl (by decide) _ _ _ rfl (ho.alloc _) ⟨wr.heap.size, 0, none⟩ 1 1 [.int .u64 cr] rfl rfl (cell_one_new _ _ _) (by simp [Value.oneCell']) (by unfold maxLen; omega) (by omega) (by have := HB.out.size; simp; omega) ?_; intro v' w3 hown' hgrow _; clear ho)
      have HO3 := Lib.hid (show w3.ownsRow w.heap.size 113 1 v' (zs ++ [cr]).length (nums .u64 (zs ++ [cr])) by simpa [nums] using hown')
      have HB3 := Lib.hid (show Below w.heap.size w w3 from ((HB.out.alloc HB.out.size _).grown hgrow (by have := HB.out.size; simp; omega) (fun j hj => own_base HO.out j hj)))
      clear hown' hgrow
      go_wp2_with fail
      refine (trim_calls w3 _ v' (zs ++ [cr]) (row_limbs HO3.out (ok := fun k => w.heap.size ≤ k) (fun _ h => h)) (HP.out.done (by omega)).2 (by simp; omega)).mono ?_
      rintro e W ⟨u, rfl, hu, hb⟩
      have HU := Lib.hid (And.intro hu hb)
      clear hu hb
      go_wp2_with fail
      go_ret
      refine ⟨u, rfl, ?_, HB3.out.trans (HU.out.2.mono HB3.out.size)⟩
      have h3 := HU.out.1
      rw [(HP.out.done (by omega)).1] at h3
      exact (h3).mono fun k hk => by have := HB3.out.size; omega

set_option maxRecDepth 100000 in
set_option maxHeartbeats 1000000 in
theorem plus_short (A B : Option Addr) (c d : Nat) (xs ys : List Int) (hl : xs.length < ys.length) (h1 : xs.length ≤ 100000) (h2 : ys.length ≤ 100000) (hx : Lim 1000000000 xs) (hy : Lim 1000000000 ys) (w : World) (hcx : Kd.C (Kd.int .u64) w A xs.length xs) (hcy : Kd.C (Kd.int .u64) w B ys.length ys) :
    Calls Tryz.prog 89 #[.slice A xs.length c, .slice B ys.length d] w fun e W => ∃ v, e = .returned v ∧ NumIn W (fun k => w.heap.size ≤ k) v (lv 1000000000 xs + lv 1000000000 ys).toNat ∧ Below w.heap.size w W := by
  obtain ⟨i0, hi, hz0, hz1, hz2⟩ := info_parts info_u64
  have HX := Lib.hid hx
  have HY := Lib.hid hy
  have HCX := Lib.hid hcx
  have HCY := Lib.hid hcy
  clear hx hy hcx hcy
  go_enter Tryz.func89, Tryz.ntmps89
  go_wp2_with (refine wpList_make_own _ rfl (.const (.int .i64 0)) (.tmp 18) 92 rfl w.heap.size 113 i0 (.int .u64 0) 1 Tryz.underlying92 hi hz0 hz1 .i64 .i64 ((ys.length : Int) + 1) (ys.length + 1) rfl rfl (by omega) (by rw [hz2]; omega) (by unfold maxLen; omega) (Nat.le_refl _) ?_; intro w1 hown1 hgr1)
  have HO1 := Lib.hid hown1
  have HB1 := Lib.hid (show Below w.heap.size w w1 from (Below.refl _ w).grown hgr1 (Nat.le_refl _) (fun k e => by cases e))
  clear hown1 hgr1
  go_loopw [5, 6, 22] (fun out car idx wr => ∃ (k : Nat) (zs : List Int) (cr : Int), k ≤ ys.length ∧ idx = .int .i64 k ∧ car = .int .u64 cr ∧ Hid (Plus ys xs zs k cr) ∧ Hid (wr.ownsRow w.heap.size 113 1 out zs.length (nums .u64 zs)) ∧ Hid (Below w.heap.size w wr)) (fun _ _ idx _ => ys.length - (intOf idx).toNat)
  case atStart => exact ⟨0, [], 0, Nat.zero_le _, rfl, rfl, Lib.hid (Plus.start _ _), HO1, HB1⟩
  case round =>
    obtain ⟨k, zs, cr, hk, rfl, rfl, HP, HO, HB⟩ := hrel
    have hcr := HP.out.car
    obtain ⟨hcr1, hcr2⟩ := hcr
    have hzl : zs.length ≤ 100000 := by have := HP.out.len; omega
    by_cases hlt : k < ys.length
    · have c1 : (k : Int) < (ys.length : Int) := by omega
      have c0 : (0 : Int) ≤ (k : Int) := by omega
      obtain ⟨ad, e, hxc⟩ := Kd.at_int (Kd.C_below HCY.out HB.out) (k : Int) (by omega) (by omega)
      subst e
      rw [rd_nat, Int.toNat_natCast] at hxc
      have hxr := lim_getD b9 HY.out k
      have hyr := lim_getD b9 HX.out k
      have hst := HP.out.step HY.out HX.out
      obtain ⟨x, hxe⟩ : ∃ x, ys.getD k 0 = x := ⟨_, rfl⟩
      rw [hxe] at hxc hxr hst
      obtain ⟨hx1, hx2⟩ := hxr
      by_cases hs : k < xs.length
      · have c2 : (k : Int) < (xs.length : Int) := by omega
        obtain ⟨bd, e, hyc⟩ := Kd.at_int (Kd.C_below HCX.out HB.out) (k : Int) (by omega) (by omega)
        subst e
        rw [rd_nat, Int.toNat_natCast] at hyc
        obtain ⟨y, hye⟩ : ∃ y, xs.getD k 0 = y := ⟨_, rfl⟩
        rw [hye] at hyc hyr hst
        obtain ⟨hy1, hy2⟩ := hyr
        have HST := Lib.hid hst
        clear hst hxe hye
        have ho := HO.out
        go_wp2_with (at_builtin; refine wpList_append_own _ rfl _ _ 92 rfl w.heap.size 113 i0 (.int .u64 0) 1 8 Tryz.underlying92 hi hz0 hz1 hz2 rfl (by decide) _ _ _ rfl (ho.alloc _) ⟨wr.heap.size, 0, none⟩ 1 1 [.int .u64 ((x + cr + y) % 1000000000)] rfl rfl (cell_one_new _ _ _) (by simp [Value.oneCell']) (by unfold maxLen; omega) (by omega) (by have := HB.out.size; simp; omega) ?_; intro v' w3 hown' hgrow _; clear ho)
        have HO3 := Lib.hid hown'
        have HB3 := Lib.hid (show Below w.heap.size w w3 from ((HB.out.alloc HB.out.size _).grown hgrow (by have := HB.out.size; simp; omega) (fun j hj => own_base HO.out j hj)))
        clear hown' hgrow
        go_wp2
        go_roundw
        case rel => exact ⟨k + 1, _, _, by omega, by go_num, rfl, HST, by have := HO3.out; simpa [nums] using Lib.hid this, HB3⟩
        case measure => simp [intOf]; omega
      · have c2 : ¬ (k : Int) < (xs.length : Int) := by omega
        rw [getD_ge (xs := xs) (by omega), Int.add_zero] at hst
        have HST := Lib.hid hst
        clear hst hxe hyr
        have ho := HO.out
        go_wp2_with (at_builtin; refine wpList_append_own _ rfl _ _ 92 rfl w.heap.size 113 i0 (.int .u64 0) 1 8 Tryz.underlying92 hi hz0 hz1 hz2 rfl (by decide) _ _ _ rfl (ho.alloc _) ⟨wr.heap.size, 0, none⟩ 1 1 [.int .u64 ((x + cr) % 1000000000)] rfl rfl (cell_one_new _ _ _) (by simp [Value.oneCell']) (by unfold maxLen; omega) (by omega) (by have := HB.out.size; simp; omega) ?_; intro v' w3 hown' hgrow _; clear ho)
        have HO3 := Lib.hid hown'
        have HB3 := Lib.hid (show Below w.heap.size w w3 from ((HB.out.alloc HB.out.size _).grown hgrow (by have := HB.out.size; simp; omega) (fun j hj => own_base HO.out j hj)))
        clear hown' hgrow
        go_wp2
        go_roundw
        case rel => exact ⟨k + 1, _, _, by omega, by go_num, rfl, HST, by have := HO3.out; simpa [nums] using Lib.hid this, HB3⟩
        case measure => simp [intOf]; omega
    · obtain rfl : k = ys.length := by omega
      have ho := HO.out
      go_wp2_with (at_builtin; refine wpList_append_own _ rfl _ _ 92 rfl w.heap.size 113 i0 (.int .u64 0) 1 8 Tryz.underlying92 hi hz0 hz1 hz2 rfl (by decide) _ _ _ rfl (ho.alloc _) ⟨wr.heap.size, 0, none⟩ 1 1 [.int .u64 cr] rfl rfl (cell_one_new _ _ _) (by simp [Value.oneCell']) (by unfold maxLen; omega) (by omega) (by have := HB.out.size; simp; omega) ?_; intro v' w3 hown' hgrow _; clear ho)
      have HO3 := Lib.hid (show w3.ownsRow w.heap.size 113 1 v' (zs ++ [cr]).length (nums .u64 (zs ++ [cr])) by simpa [nums] using hown')
      have HB3 := Lib.hid (show Below w.heap.size w w3 from ((HB.out.alloc HB.out.size _).grown hgrow (by have := HB.out.size; simp; omega) (fun j hj => own_base HO.out j hj)))
      clear hown' hgrow
      go_wp2_with fail
      refine (trim_calls w3 _ v' (zs ++ [cr]) (row_limbs HO3.out (ok := fun k => w.heap.size ≤ k) (fun _ h => h)) (HP.out.done (by omega)).2 (by simp; omega)).mono ?_
      rintro e W ⟨u, rfl, hu, hb⟩
      have HU := Lib.hid (And.intro hu hb)
      clear hu hb
      go_wp2_with fail
      go_ret
      refine ⟨u, rfl, ?_, HB3.out.trans (HU.out.2.mono HB3.out.size)⟩
      have h3 := HU.out.1
      rw [(HP.out.done (by omega)).1] at h3
      exact (Int.add_comm (lv 1000000000 xs) (lv 1000000000 ys) ▸ h3).mono fun k hk => by have := HB3.out.size; omega

theorem plus_calls (u v : Value) (a b : Nat) (w : World) (ha : Num w u a) (hb : Num w v b) (hA : (a : Int) < 1000000000 ^ 1000) (hB : (b : Int) < 1000000000 ^ 1000) :
    Calls Tryz.prog 89 #[u, v] w fun e W => ∃ r, e = .returned r ∧ NumIn W (fun k => w.heap.size ≤ k) r (a + b) ∧ Below w.heap.size w W := by
  obtain ⟨xs, h1, h2, h3, h4⟩ := ha.ex
  obtain ⟨ys, k1, k2, k3, k4⟩ := hb.ex
  obtain ⟨A, c, rfl⟩ := Kd.V_slice h1
  obtain ⟨B, d, rfl⟩ := Kd.V_slice k1
  have hl1 : xs.length ≤ 1000 := length_le_of_lt b9 h2 h3 (by rw [h4]; exact hA)
  have hl2 : ys.length ≤ 1000 := length_le_of_lt b9 k2 k3 (by rw [k4]; exact hB)
  have he : (lv 1000000000 xs + lv 1000000000 ys).toNat = a + b := by rw [h4, k4]; omega
  by_cases hl : xs.length < ys.length
  · have := plus_short A B c d xs ys hl (by omega) (by omega) h2 k2 w (Kd.V_reads' h1).2.2 (Kd.V_reads' k1).2.2
    rw [he] at this; exact this
  · have := plus_long A B c d xs ys hl (by omega) (by omega) h2 k2 w (Kd.V_reads' h1).2.2 (Kd.V_reads' k1).2.2
    rw [he] at this; exact this
end Go.Proofs.CW
namespace Go.Proofs.CW
open Go.RowKit Go.Shelf Go.Proofs.YtjfclkbdkafkcaaGreatDoorW.PrintWords Go.Proofs.YtjfclkbdkafkcaaGreatDoor.PF

/-- A row of limbs of the call's own. -/
abbrev Own (W : World) (base : Nat) (v : Value) (xs : List Int) : Prop := W.ownsRow base 113 1 v xs.length (nums .u64 xs)
theorem nums_rd {W : World} {ad : Addr} {xs : List Int} (h : Kd.C (Kd.int .u64) W (some ad) xs.length xs) (j : Nat) (u : Value) (hu : (nums .u64 xs)[j]? = some u) : W.cell? (ad.add j) = some u := by
  have hj : j < xs.length := by
    apply Classical.byContradiction; intro hn
    simp [nums, List.getElem?_eq_none (by omega : xs.length ≤ j)] at hu
  obtain ⟨bd, e, hx⟩ := Kd.at_int h (j : Int) (by omega) (by omega)
  cases e
  rw [rd_nat, Int.toNat_natCast, getD_lt hj] at hx
  simp [nums, hj] at hu
  rw [← hu]; exact hx
theorem nums_one (xs : List Int) : ∀ u ∈ nums .u64 xs, u.oneCell' = true := by
  intro u hu
  obtain ⟨x, _, rfl⟩ := List.mem_map.1 hu
  rfl
set_option maxRecDepth 100000 in
set_option maxHeartbeats 400000 in
theorem clone_calls (A : Option Addr) (c : Nat) (xs : List Int) (hl : xs.length ≤ 1000000) (w : World) (hx : Kd.C (Kd.int .u64) w A xs.length xs) :
    Calls Tryz.prog 131 #[.slice A xs.length c] w fun e W => ∃ v, e = .returned v ∧ Own W w.heap.size v xs ∧ Below w.heap.size w W := by
  obtain ⟨i0, hi, hz0, hz1, hz2⟩ := info_parts info_u64
  have HX := Lib.hid hx
  have qT : ∀ (w : World) (a : Option Addr) (n c n' c' : Nat), (binOp .eql 92 (.slice a n c) (.slice none n' c')).run Tryz.prog w = .ok (.bool a.isNone) w := fun w a n c n' c' => Lib.run_eql_slice_nil w _ _ a n c n' c' Tryz.underlying92
  cases A with
  | none =>
    have h0 : xs = [] := by
      apply Classical.byContradiction
      intro hne
      obtain ⟨ad, e, _⟩ := hx.2.2 (List.length_pos_iff.2 hne)
      cases e
    subst h0
    clear hx
    go_enter Tryz.func131, Tryz.ntmps131
    go_wp2
    go_ret
    exact ⟨_, rfl, World.ownsRow_nil _ _ _ _, Below.refl _ _⟩
  | some ad =>
    clear hx
    have H0 := Lib.hid (show (w.alloc (.cells #[] 113)).ownsRow w.heap.size 113 1 (.slice (some ⟨w.heap.size, 0, none⟩) 0 0) 0 [] from World.ownsRow_made w #[] 0 (Nat.le_refl _) (by unfold maxLen; omega) rfl)
    have H1 := Lib.hid (show ∀ (j : Nat) (u : Value), (nums .u64 xs)[j]? = some u → (w.alloc (.cells #[] 113)).cell? (ad.add j) = some u from nums_rd (Kd.C_below HX.out ((Below.refl _ w).alloc (Nat.le_refl _) _)))
    have hsl : w.heap.size ≤ (w.alloc (.cells #[] 113)).heap.size := by simp
    go_enter Tryz.func131, Tryz.ntmps131
    go_wp2_with (at_builtin; refine wpList_append_own _ rfl _ _ 92 rfl w.heap.size 113 i0 (.int .u64 0) 1 8 Tryz.underlying92 hi hz0 hz1 hz2 rfl (by decide) _ _ _ rfl H0.out ad xs.length c (nums .u64 xs) rfl (by simp [nums]) H1.out (nums_one xs) (by unfold maxLen; omega) (by omega) (by simp) ?_; intro v' w3 hown' hgrow _)
    have HO3 := Lib.hid (show Own w3 w.heap.size v' xs by simpa [Own, nums] using hown')
    have HB3 := Lib.hid (show Below w.heap.size w w3 from ((Below.refl _ w).alloc (Nat.le_refl _) _).grown hgrow hsl (fun j hj => own_base H0.out j hj))
    clear hown' hgrow
    go_wp2
    go_ret
    exact ⟨_, rfl, HO3.out, HB3.out⟩
end Go.Proofs.CW
namespace Go.Proofs.CW

theorem lv_take_set (B : Int) {zs : List Int} {k : Nat} (v : Int) (h : k < zs.length) : lv B ((zs.set k v).take (k + 1)) = lv B (zs.take k) + B ^ k * v := by
  rw [lv_take_succ B (by rw [List.length_set]; exact h), getD_set_self v h]
  congr 2
  rw [List.take_set, List.set_eq_of_length_le (by rw [List.length_take]; omega)]
/-- A difference, so far. -/
structure Minus (xs ys zs : List Int) (k : Nat) (b : Int) : Prop where
  len : zs.length = xs.length
  lim : Lim 1000000000 zs
  car : 0 ≤ b ∧ b ≤ 1
  rest : ∀ j, k ≤ j → zs.getD j 0 = xs.getD j 0
  val : lv 1000000000 (zs.take k) - 1000000000 ^ k * b = lv 1000000000 (xs.take k) - lv 1000000000 (ys.take k)
theorem Minus.start {xs : List Int} (h : Lim 1000000000 xs) (ys : List Int) : Minus xs ys xs 0 0 := ⟨rfl, h, by omega, fun _ _ => rfl, by simp [lv]⟩
theorem Minus.step {xs ys zs : List Int} {k : Nat} {b x y v b' : Int} (h : Minus xs ys zs k b) (hy : Lim 1000000000 ys) (hk : k < xs.length) (hx : xs.getD k 0 = x) (hyk : ys.getD k 0 = y)
    (hv : v = x - (b + y) + 1000000000 * b') (hb : 0 ≤ b' ∧ b' ≤ 1) (hr : 0 ≤ v ∧ v < 1000000000) : Minus xs ys (zs.set k v) (k + 1) b' := by
  have hl := h.len
  refine ⟨by rw [List.length_set]; exact hl, lim_set h.lim _ hr.1 hr.2, hb, fun j hj => ?_, ?_⟩
  · rw [getD_set_ne v (by omega)]; exact h.rest j (by omega)
  · rw [lv_take_set _ v (by omega), lv_take_succ', lv_take_succ', Int.pow_succ, hx, hyk]
    have h4 := h.val
    generalize (1000000000 : Int) ^ k = p at h4 ⊢
    subst hv
    grind
theorem Minus.done {xs ys zs : List Int} {b : Int} (h : Minus xs ys zs xs.length b) (hx : Lim 1000000000 xs) (hy : Lim 1000000000 ys) (ny : Norm ys) (hle : lv 1000000000 ys ≤ lv 1000000000 xs) : lv 1000000000 zs = lv 1000000000 xs - lv 1000000000 ys := by
  have hl : ys.length ≤ xs.length := by
    apply Classical.byContradiction; intro hn
    have := lv_lt_of_length b9 hx hy ny (by omega); omega
  have h1 := h.val
  rw [List.take_length, List.take_of_length_le hl, List.take_of_length_le (by rw [h.len]; exact Nat.le_refl _)] at h1
  have h2 := lv_lt b9 h.lim
  rw [h.len] at h2
  have h3 := h.car
  have : b = 0 ∨ b = 1 := by omega
  rcases this with rfl | rfl
  · simpa using h1
  · omega
theorem lv_drop_getD (B : Int) {xs : List Int} {i : Nat} (h : i < xs.length) : lv B (xs.drop i) = xs.getD i 0 + B * lv B (xs.drop (i + 1)) := by
  rw [List.drop_eq_getElem_cons h, lv_cons, getD_lt h]
theorem drop_set_succ {zs : List Int} {i : Nat} (v : Int) : (zs.set i v).drop (i + 1) = zs.drop (i + 1) := by
  rw [List.drop_set, if_pos (by omega)]
/-- A division by a limb, so far. -/
structure Short (d : Int) (xs zs : List Int) (i : Nat) (r : Int) : Prop where
  len : zs.length = xs.length
  lim : Lim 1000000000 zs
  car : 0 ≤ r ∧ r < d
  val : lv 1000000000 (xs.drop i) = lv 1000000000 (zs.drop i) * d + r
theorem Short.start {d : Int} (hd : 0 < d) (xs : List Int) : Short d xs (List.replicate xs.length 0) xs.length 0 :=
  ⟨by simp, fun x hx => by rw [List.eq_of_mem_replicate hx]; omega, by omega, by simp [lv]⟩
theorem Short.step {d : Int} {xs zs : List Int} {i : Nat} {r x : Int} (h : Short d xs zs (i + 1) r) (hi : i < xs.length) (hx : xs.getD i 0 = x) (hr : 0 ≤ x ∧ x < 1000000000) :
    Short d xs (zs.set i ((r * 1000000000 + x) / d)) i ((r * 1000000000 + x) % d) := by
  have hl := h.len
  obtain ⟨r1, r2⟩ := h.car
  have hd : 0 < d := by omega
  have q1 : 0 ≤ (r * 1000000000 + x) / d := Int.ediv_nonneg (by omega) (by omega)
  have q2 : (r * 1000000000 + x) / d < 1000000000 := Int.ediv_lt_of_lt_mul hd (by
    have : (r + 1) * 1000000000 ≤ d * 1000000000 := Int.mul_le_mul_of_nonneg_right (by omega) (by omega)
    have e : 1000000000 * d = d * 1000000000 := Int.mul_comm _ _
    omega)
  refine ⟨by rw [List.length_set]; exact hl, lim_set h.lim _ q1 q2, ⟨Int.emod_nonneg _ (by omega), Int.emod_lt_of_pos _ hd⟩, ?_⟩
  rw [lv_drop_getD _ hi, lv_drop_getD (xs := zs.set i _) _ (by rw [List.length_set]; omega), drop_set_succ, getD_set_self _ (by omega), hx]
  have h4 := h.val
  have h5 := Int.emod_add_mul_ediv (r * 1000000000 + x) d
  generalize (r * 1000000000 + x) / d = q at h5 ⊢
  generalize (r * 1000000000 + x) % d = m at h5 ⊢
  rw [h4]
  grind
theorem short_range {d r x : Int} (hd : d ≤ 1000000000) (hr : 0 ≤ r ∧ r < d) (hx : 0 ≤ x ∧ x < 1000000000) : 0 ≤ r * 1000000000 ∧ r * 1000000000 < 18446744073709551616 ∧ 0 ≤ r * 1000000000 + x ∧ r * 1000000000 + x < 18446744073709551616 := by omega
theorem short_q {d a : Int} (hd : 0 < d) (h0 : 0 ≤ a) (h1 : a < 18446744073709551616) : 0 ≤ a / d ∧ a / d ≤ 18446744073709551615 := by
  have := Int.ediv_le_self d h0
  exact ⟨Int.ediv_nonneg h0 (by omega), by omega⟩
theorem Short.done {d : Int} {xs zs : List Int} {r : Int} (h : Short d xs zs 0 r) : lv 1000000000 zs = lv 1000000000 xs / d ∧ r = lv 1000000000 xs % d := by
  have h1 := h.val
  have h2 := h.car
  simp only [List.drop_zero] at h1
  have hd : 0 < d := by omega
  rw [h1]
  constructor
  · rw [Int.add_comm, Int.add_mul_ediv_right _ _ (by omega), Int.ediv_eq_zero_of_lt h2.1 h2.2, Int.zero_add]
  · rw [Int.add_comm, Int.add_mul_emod_self_right, Int.emod_eq_of_lt h2.1 h2.2]
end Go.Proofs.CW
namespace Go.Proofs.CW
open Go.RowKit Go.Shelf Go.Proofs.YtjfclkbdkafkcaaGreatDoorW.PrintWords Go.Proofs.YtjfclkbdkafkcaaGreatDoor.PF
attribute [local go_sem] Oper.semAt_some

/-- A row that is written in place. -/
abbrev Mut (W : World) (base : Nat) (v : Value) (xs : List Int) : Prop := Kd.R (Kd.int .u64) 113 W base (fun k => base ≤ k) v xs
/-- .. in its own block. -/
structure InPlace (W : World) (base g n cap : Nat) (xs : List Int) : Prop where
  row : Mut W base (.slice (some ⟨g, 0, none⟩) n cap) xs
  len : n = xs.length
  low : base ≤ g
theorem InPlace.set {W : World} {base g n cap : Nat} {xs : List Int} (h : InPlace W base g n cap xs) (i : Nat) (x : Int) (w0 : World) (n0 : Nat) (hb : Below n0 w0 W) (hn : n0 ≤ base) :
    InPlace (W.setCell ⟨g, i, none⟩ (.int .u64 x)) base g n cap (xs.set i x) ∧ Below n0 w0 (W.setCell ⟨g, i, none⟩ (.int .u64 x)) := by
  have h1 := Kd.R_putg h.row (i : Int) x
  rw [Int.toNat_natCast] at h1
  exact ⟨⟨h1.1, by rw [List.length_set]; exact h.len, h.low⟩, hb.setCell (p := ⟨g, i, none⟩) (by have := h.low; show n0 ≤ g; omega) _⟩
theorem InPlace.get {W : World} {base g n cap : Nat} {xs : List Int} (h : InPlace W base g n cap xs) (i : Nat) (hi : i < n) :
    W.cell? ⟨g, i, none⟩ = some (.int .u64 (xs.getD i 0)) ∧ W.frozen? ⟨g, i, none⟩ = false := by
  have h1 := Kd.R_celln 0 h.row (i : Int) (by omega) (by omega)
  rw [Int.toNat_natCast] at h1
  refine ⟨h1.1.trans ?_, h1.2⟩
  rw [← rd_nat xs i]; rfl
theorem InPlace.limbs {W : World} {base g n cap : Nat} {xs : List Int} (h : InPlace W base g n cap xs) : Limbs W (fun k => base ≤ k) (.slice (some ⟨g, 0, none⟩) n cap) xs := Kd.R_V h.row
theorem InPlace.of {W : World} {base : Nat} {v : Value} {xs : List Int} (h : Own W base v xs) (hp : 0 < xs.length) : ∃ g cap, v = .slice (some ⟨g, 0, none⟩) xs.length cap ∧ InPlace W base g xs.length cap xs := by
  have h1 : Mut W base v xs := Kd.R_of_own h (fun _ hk => own_base h _ hk)
  obtain ⟨g, cap, rfl, h2, _⟩ := Kd.R_form h1 hp
  exact ⟨g, cap, rfl, h1, rfl, h2⟩
set_option maxRecDepth 100000 in
set_option maxHeartbeats 1000000 in
theorem minus_in (A B : Option Addr) (c d : Nat) (xs ys : List Int) (hp : 0 < xs.length) (hl : xs.length ≤ 100000) (hly : ys.length ≤ 100000) (hx : Lim 1000000000 xs) (hy : Lim 1000000000 ys) (ny : Norm ys) (hle : lv 1000000000 ys ≤ lv 1000000000 xs)
    (w : World) (hcx : Kd.C (Kd.int .u64) w A xs.length xs) (hcy : Kd.C (Kd.int .u64) w B ys.length ys) :
    Calls Tryz.prog 92 #[.slice A xs.length c, .slice B ys.length d] w fun e W => ∃ v, e = .returned v ∧ NumIn W (fun k => w.heap.size ≤ k) v (lv 1000000000 xs - lv 1000000000 ys).toNat ∧ Below w.heap.size w W := by
  have HX := Lib.hid hx
  have HY := Lib.hid hy
  have HCX := Lib.hid hcx
  have HCY := Lib.hid hcy
  have HNL := Lib.hid (And.intro ny hle)
  clear hx hy hcx hcy ny hle
  go_enter Tryz.func92, Tryz.ntmps92
  go_wp2_with fail
  refine (clone_calls A c xs (by omega) w HCX.out).mono ?_
  rintro e w1 ⟨v, rfl, ho, hb⟩
  obtain ⟨g, cap, rfl, hip⟩ := InPlace.of ho hp
  have HO := Lib.hid hip
  have HB := Lib.hid hb
  clear ho hb hip
  go_wp2_with fail
  go_loopw [6, 13] (fun bo idx wr => ∃ (k : Nat) (zs : List Int) (b : Int), k ≤ xs.length ∧ bo = .int .u64 b ∧ idx = .int .i64 k ∧ Hid (Minus xs ys zs k b) ∧ Hid (InPlace wr w.heap.size g xs.length cap zs) ∧ Hid (Below w.heap.size w wr)) (fun _ idx _ => xs.length - (intOf idx).toNat)
  case atStart => exact ⟨0, xs, 0, Nat.zero_le _, rfl, rfl, Lib.hid (Minus.start HX.out _), HO, HB⟩
  case round =>
    obtain ⟨k, zs, b, hk, rfl, rfl, HM, HI, HBr⟩ := hrel
    have hcr := HM.out.car
    obtain ⟨hcr1, hcr2⟩ := hcr
    by_cases hlt : k < xs.length
    · have c1 : (k : Int) < (xs.length : Int) := by omega
      have c0 : (0 : Int) ≤ (k : Int) := by omega
      have hxr := lim_getD b9 HX.out k
      have hyr := lim_getD b9 HY.out k
      obtain ⟨hg, hf⟩ := HI.out.get k hlt
      rw [HM.out.rest k (Nat.le_refl _)] at hg
      have hst := fun v b' => HM.out.step (x := xs.getD k 0) (y := ys.getD k 0) (v := v) (b' := b') HY.out hlt rfl rfl
      obtain ⟨x, hxe⟩ : ∃ x, xs.getD k 0 = x := ⟨_, rfl⟩
      rw [hxe] at hg hxr
      simp only [hxe] at hst
      obtain ⟨hx1, hx2⟩ := hxr
      by_cases hs : k < ys.length
      · have c2 : (k : Int) < (ys.length : Int) := by omega
        obtain ⟨bd, e, hyc⟩ := Kd.at_int (Kd.C_below HCY.out HBr.out) (k : Int) (by omega) (by omega)
        subst e
        rw [rd_nat, Int.toNat_natCast] at hyc
        obtain ⟨y, hye⟩ : ∃ y, ys.getD k 0 = y := ⟨_, rfl⟩
        rw [hye] at hyc hyr
        simp only [hye] at hst
        obtain ⟨hy1, hy2⟩ := hyr
        have HST := Lib.hid hst
        clear hst hxe hye
        by_cases hles : x < b + y
        · go_wp2
          refine ⟨?_, by simp [intOf]; omega⟩
          have hq := HI.out.set k (x + 1000000000) w w.heap.size HBr.out (Nat.le_refl _)
          have hq2 := hq.1.set k (x + 1000000000 - (b + y)) w w.heap.size hq.2 (Nat.le_refl _)
          rw [List.set_set] at hq2
          exact ⟨k + 1, _, _, by omega, rfl, by go_num, Lib.hid (HST.out _ 1 (by omega) (by omega) (by omega)), Lib.hid hq2.1, Lib.hid hq2.2⟩
        · go_wp2
          refine ⟨?_, by simp [intOf]; omega⟩
          have hq := HI.out.set k (x - (b + y)) w w.heap.size HBr.out (Nat.le_refl _)
          exact ⟨k + 1, _, _, by omega, rfl, by go_num, Lib.hid (HST.out _ 0 (by omega) (by omega) (by omega)), Lib.hid hq.1, Lib.hid hq.2⟩
      · have c2 : ¬ (k : Int) < (ys.length : Int) := by omega
        have hye : ys.getD k 0 = 0 := getD_ge (by omega)
        simp only [hye, Int.add_zero] at hst
        have HST := Lib.hid hst
        clear hst hxe hye hyr
        by_cases hles : x < b
        · go_wp2
          refine ⟨?_, by simp [intOf]; omega⟩
          have hq := HI.out.set k (x + 1000000000) w w.heap.size HBr.out (Nat.le_refl _)
          have hq2 := hq.1.set k (x + 1000000000 - b) w w.heap.size hq.2 (Nat.le_refl _)
          rw [List.set_set] at hq2
          exact ⟨k + 1, _, _, by omega, rfl, by go_num, Lib.hid (HST.out _ 1 (by omega) (by omega) (by omega)), Lib.hid hq2.1, Lib.hid hq2.2⟩
        · go_wp2
          refine ⟨?_, by simp [intOf]; omega⟩
          have hq := HI.out.set k (x - b) w w.heap.size HBr.out (Nat.le_refl _)
          exact ⟨k + 1, _, _, by omega, rfl, by go_num, Lib.hid (HST.out _ 0 (by omega) (by omega) (by omega)), Lib.hid hq.1, Lib.hid hq.2⟩
    · obtain rfl : k = xs.length := by omega
      go_wp2_with fail
      refine (trim_calls wr _ _ zs HI.out.limbs HM.out.lim (by have := HM.out.len; omega)).mono ?_
      rintro e W ⟨u, rfl, hu, hb⟩
      have HU := Lib.hid (And.intro hu hb)
      clear hu hb
      go_wp2_with fail
      go_ret
      refine ⟨u, rfl, ?_, HBr.out.trans (HU.out.2.mono HBr.out.size)⟩
      have h3 := HU.out.1
      rw [HM.out.done HX.out HY.out HNL.out.1 HNL.out.2] at h3
      exact h3.mono fun k hk => by have := HBr.out.size; omega

set_option maxRecDepth 100000 in
set_option maxHeartbeats 400000 in
/-- Nothing from nothing. -/
theorem minus_nil (A B : Option Addr) (c d : Nat) (w : World) (hcx : Kd.C (Kd.int .u64) w A 0 []) :
    Calls Tryz.prog 92 #[.slice A 0 c, .slice B 0 d] w fun e W => ∃ v, e = .returned v ∧ NumIn W (fun k => w.heap.size ≤ k) v 0 ∧ Below w.heap.size w W := by
  have HCX := Lib.hid hcx
  clear hcx
  go_enter Tryz.func92, Tryz.ntmps92
  go_wp2_with fail
  refine (clone_calls A c [] (by simp) w HCX.out).mono ?_
  rintro e w1 ⟨v, rfl, ho, hb⟩
  have hl : Limbs w1 (fun k => w.heap.size ≤ k) v [] := Kd.R_V (Kd.R_of_own ho (fun _ hk => own_base ho _ hk))
  obtain ⟨a, c1, rfl⟩ := Kd.V_slice hl
  have HL := Lib.hid hl
  have HB := Lib.hid hb
  clear ho hb hl
  go_wp2_with fail
  go_loopw [6, 13] (fun bo idx wr => idx = .int .i64 0 ∧ bo = .int .u64 0 ∧ Hid (Limbs wr (fun k => w.heap.size ≤ k) (.slice a 0 c1) []) ∧ Hid (Below w.heap.size w wr)) (fun _ _ _ => 0)
  case atStart => exact ⟨rfl, rfl, HL, HB⟩
  case round =>
    obtain ⟨rfl, rfl, HI, HBr⟩ := hrel
    go_wp2_with fail
    refine (trim_calls wr _ _ [] HI.out (lim_nil _) (by simp)).mono ?_
    rintro e W ⟨u, rfl, hu, hb⟩
    have HU := Lib.hid (And.intro hu hb)
    clear hu hb
    go_wp2_with fail
    go_ret
    refine ⟨u, rfl, ?_, HBr.out.trans (HU.out.2.mono HBr.out.size)⟩
    exact HU.out.1.mono fun k hk => by have := HBr.out.size; omega

theorem minus_calls (u v : Value) (a b : Nat) (w : World) (ha : Num w u a) (hb : Num w v b) (hle : b ≤ a) (hA : (a : Int) < 1000000000 ^ 1000) :
    Calls Tryz.prog 92 #[u, v] w fun e W => ∃ r, e = .returned r ∧ NumIn W (fun k => w.heap.size ≤ k) r (a - b) ∧ Below w.heap.size w W := by
  obtain ⟨xs, h1, h2, h3, h4⟩ := ha.ex
  obtain ⟨ys, k1, k2, k3, k4⟩ := hb.ex
  obtain ⟨A, c, rfl⟩ := Kd.V_slice h1
  obtain ⟨B, d, rfl⟩ := Kd.V_slice k1
  have hl1 : xs.length ≤ 1000 := length_le_of_lt b9 h2 h3 (by rw [h4]; exact hA)
  have hl2 : ys.length ≤ 1000 := length_le_of_lt b9 k2 k3 (by rw [k4]; omega)
  by_cases hp : 0 < xs.length
  · have he : (lv 1000000000 xs - lv 1000000000 ys).toNat = a - b := by rw [h4, k4]; omega
    have := minus_in A B c d xs ys hp (by omega) (by omega) h2 k2 k3 (by rw [h4, k4]; omega) w (Kd.V_reads' h1).2.2 (Kd.V_reads' k1).2.2
    rw [he] at this; exact this
  · have hx : xs = [] := List.length_eq_zero_iff.1 (by omega)
    subst hx
    have ha0 : a = 0 := by simp [lv] at h4; omega
    have hb0 : b = 0 := by omega
    have hy : ys = [] := (lv_eq_zero b9 k2 k3).1 (by rw [k4, hb0]; rfl)
    subst hy
    rw [ha0, hb0]
    exact minus_nil A B c d w (Kd.V_reads' h1).2.2
end Go.Proofs.CW
