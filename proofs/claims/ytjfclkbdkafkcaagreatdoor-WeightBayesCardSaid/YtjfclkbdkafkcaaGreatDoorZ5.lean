/-
  Part 5 of the proof: LawC, K44.
-/
import Derived.Test.YtjfclkbdkafkcaaGreatDoorZ4
set_option linter.unusedVariables false
set_option linter.unusedSimpArgs false
namespace Go.Proofs.CW

/-- Are the numbers of all elements so short? -/
def shortL (k : Nat) (l : List PS) : Prop := ∀ p ∈ l, p.1.size ≤ k ∧ p.2.size ≤ k
theorem Q.ofShort {k : Nat} {l : List PS} (hs : shortL k l) (ho : l.all okP = true) : ∀ r ∈ l.map CW.rat, Q k r := by
  intro r hr
  obtain ⟨p, hp, rfl⟩ := List.mem_map.1 hr
  rw [List.all_eq_true] at ho
  exact Q.rat (ho p hp) (hs p hp).1 (hs p hp).2
theorem sum_take_div (c : Rat) (rs : List Rat) (k : Nat) : ((rs.map (· / c)).take k).sum = (rs.take k).sum / c := by
  rw [← List.map_take, sum_div]
/-- WeightWhole: all that the law calls. -/
structure WholeL (l : List PS) : Prop where
  mk_ ::
  ex : (∃ e, shareR l = ([], e) ∧ (e = 2 ∨ e = 7)) ∨ ∃ s : List PS, shareR l = (s, 0) ∧ s.length = l.length ∧ sumR s = (p1, 0) ∧ ∀ (x y : Nat) (hx : x < l.length) (hy : y < l.length) (hx' : x < s.length) (hy' : y < s.length), ∃ a, mulR s[x] l[y] = (a, 0) ∧ mulR s[y] l[x] = (a, 0)
theorem ps_one : ps 1 = p1 := is_p1.ps.symm
theorem whole_law {l : List PS} (hl : l.length ≤ 12) (hs : shortL 20 l) : WholeL l := by
  refine ⟨?_⟩
  by_cases ho : l.all okP = true
  · have ha := Are.of ho
    have hq := Q.ofShort hs ho
    obtain ⟨rs, hrs⟩ : ∃ rs, l.map rat = rs := ⟨_, rfl⟩
    rw [hrs] at ha hq
    have hlen : rs.length = l.length := by rw [← hrs, List.length_map]
    have hpart := fun k => Q.upTo hq (show rs.length ≤ 12 by omega) k
    have hk : ∀ k, k ≤ rs.length → fits (rs.take k).sum = true := fun k _ => (hpart k).fits (by omega)
    have hS : Q (1 + (20 + 1) * 12) rs.sum := Q.sumLe hq (by omega)
    obtain ⟨s1, s2⟩ := shareR_are ha (by omega) hk
    by_cases h0 : rs.sum = 0
    · exact .inl ⟨7, s1 h0, .inr rfl⟩
    · obtain ⟨t1, t2⟩ := s2 h0 (fun r hr => ((hq r hr).div hS h0).fits (by omega))
      refine .inr ⟨_, t1, by simp [hlen], ?_, ?_⟩
      · obtain ⟨u1, _⟩ := sumR_are t2 (by simp; omega) (fun k _ => by rw [sum_take_div]; exact ((hpart k).div hS h0).fits (by omega))
        rw [u1, sum_div, show rs.sum / rs.sum = 1 by grind, ps_one]
      · intro x y hx hy hx' hy'
        obtain ⟨_, i1⟩ := t2.is (i := x) (by simp; omega)
        obtain ⟨_, i2⟩ := t2.is (i := y) (by simp; omega)
        obtain ⟨_, j1⟩ := ha.is (i := x) (by omega)
        obtain ⟨_, j2⟩ := ha.is (i := y) (by omega)
        have q1 := hq _ (List.getElem_mem (show x < rs.length by omega))
        have q2 := hq _ (List.getElem_mem (show y < rs.length by omega))
        have k1 : Is ((List.map ps (List.map (· / rs.sum) rs))[x]'hx') (rs[x] / rs.sum) := by simpa only [List.getElem_map] using i1
        have k2 : Is ((List.map ps (List.map (· / rs.sum) rs))[y]'hy') (rs[y] / rs.sum) := by simpa only [List.getElem_map] using i2
        have q3 := q1.div hS h0
        have q4 := q2.div hS h0
        obtain ⟨m1, _⟩ := mulR_Q k1 j2 q3 q2 (by omega)
        obtain ⟨m2, _⟩ := mulR_Q k2 j1 q4 q1 (by omega)
        refine ⟨_, m1, ?_⟩
        rw [m2]; congr 2; grind
  · refine .inl ⟨2, ?_, .inl rfl⟩
    have e : listR l = 2 := by unfold listR; rw [if_neg (by omega), if_neg ho]
    unfold shareR
    rw [if_neg (by rw [e]; omega), e]

theorem zip_assoc : ∀ (a b c : List Rat), List.zipWith (· * ·) a (List.zipWith (· * ·) b c) = List.zipWith (· * ·) (List.zipWith (· * ·) a b) c
  | [], _, _ => by simp
  | _ :: _, [], _ => by simp
  | _ :: _, _ :: _, [] => by simp
  | x :: a, y :: b, z :: c => by simp only [List.zipWith_cons_cons]; rw [zip_assoc a b c, Rat.mul_assoc]
theorem zip_comm3 : ∀ (a b c : List Rat), List.zipWith (· * ·) (List.zipWith (· * ·) a b) c = List.zipWith (· * ·) (List.zipWith (· * ·) a c) b
  | [], _, _ => by simp
  | _ :: _, [], c => by cases c <;> simp
  | _ :: _, _ :: _, [] => by simp
  | x :: a, y :: b, z :: c => by simp only [List.zipWith_cons_cons]; rw [zip_comm3 a b c]; congr 1; grind
theorem zip_div (x : Rat) : ∀ (a b : List Rat), List.zipWith (· * ·) (a.map (· / x)) b = (List.zipWith (· * ·) a b).map (· / x)
  | [], _ => by simp
  | _ :: _, [] => by simp
  | y :: a, z :: b => by simp only [List.map_cons, List.zipWith_cons_cons]; rw [zip_div x a b]; congr 1; grind
theorem zip_Q {n m : Nat} : ∀ (a b : List Rat), (∀ r ∈ a, Q n r) → (∀ r ∈ b, Q m r) → ∀ r ∈ List.zipWith (· * ·) a b, Q (n + m) r
  | [], _, _, _, r, hr => by simp at hr
  | _ :: _, [], _, _, r, hr => by simp at hr
  | x :: a, y :: b, ha, hb, r, hr => by
    rw [List.zipWith_cons_cons] at hr
    rcases List.mem_cons.1 hr with rfl | hr
    · exact (ha x (by simp)).mul (hb y (by simp))
    · exact zip_Q a b (fun r hr => ha r (by simp [hr])) (fun r hr => hb r (by simp [hr])) r hr
theorem zip_zero : ∀ (a b : List Rat), (∀ r ∈ a, r = 0) → ∀ r ∈ List.zipWith (· * ·) a b, r = 0
  | [], _, _, r, hr => by simp at hr
  | _ :: _, [], _, r, hr => by simp at hr
  | x :: a, y :: b, ha, r, hr => by
    rw [List.zipWith_cons_cons] at hr
    rcases List.mem_cons.1 hr with rfl | hr
    · rw [ha x (by simp)]; grind
    · exact zip_zero a b (fun r hr => ha r (by simp [hr])) r hr
/-- An update of parts, with bounds: n digits the elements of the products, m the partial sums. -/
theorem upd_Q {a b : List PS} {ra rb ms : List Rat} {n m : Nat} (ha : Are a ra) (hb : Are b rb) (hl : ra.length = rb.length) (hn : ra.length ≤ 512) (hm : List.zipWith (· * ·) ra rb = ms) (hf : ∀ r ∈ ms, Q n r) (hk : ∀ k, Q m (ms.take k).sum)
    (h1 : n ≤ 600) (h2 : m ≤ 600) : (ms.sum = 0 → updR a b = ([], (⟨#[]⟩, ⟨#[]⟩), 7)) ∧ (ms.sum ≠ 0 → (∀ r ∈ ms, fits (r / ms.sum) = true) → updR a b = ((ms.map (· / ms.sum)).map ps, ps ms.sum, 0) ∧ Are ((ms.map (· / ms.sum)).map ps) (ms.map (· / ms.sum)) ∧ Is (ps ms.sum) ms.sum) :=
  updR_are ha hb hl hn hm (fun r hr => (hf r hr).fits h1) (fun k _ => (hk k).fits h2)
theorem Q.all {m : Nat} {rs : List Rat} (h : ∀ k, Q m (rs.take k).sum) : Q m rs.sum := by
  have := h rs.length
  rwa [List.take_length] at this
/-- WeightBayes: all that the law calls. -/
structure BayesL (prior one two both : List PS) : Prop where
  mk_ ::
  ex : (∃ e1 e2 : List PS × PS × Int, updR prior one = e1 ∧ updR prior both = e2 ∧ e1.2.2 = 7 ∧ e2.2.2 = 7) ∨
    ∃ a x c z b y d w i v xy wv, updR prior one = (a, x, 0) ∧ ((updR prior both = ([], (⟨#[]⟩, ⟨#[]⟩), 7) ∧ updR a two = ([], (⟨#[]⟩, ⟨#[]⟩), 7)) ∨
      (updR prior both = (c, z, 0) ∧ updR a two = (b, y, 0) ∧ updR prior two = (d, w, 0) ∧ updR d one = (i, v, 0) ∧ mulR x y = (xy, 0) ∧ mulR w v = (wv, 0) ∧ xy = z ∧ wv = z ∧ b = c ∧ i = c))
theorem bayes_law {prior one two both : List PS} (h1 : one.length = prior.length) (h2 : two.length = prior.length) (hl : prior.length ≤ 6) (hp : prior.all okP = true) (ho : one.all okP = true) (ht : two.all okP = true)
    (sp : shortL 12 prior) (so : shortL 12 one) (st : shortL 12 two) (hb : both = (List.zipWith (· * ·) (one.map rat) (two.map rat)).map ps) : BayesL prior one two both := by
  refine ⟨?_⟩
  have aP := Are.of hp
  have aO := Are.of ho
  have aT := Are.of ht
  have qP := Q.ofShort sp hp
  have qO := Q.ofShort so ho
  have qT := Q.ofShort st ht
  obtain ⟨P, hP⟩ : ∃ rs, prior.map rat = rs := ⟨_, rfl⟩
  obtain ⟨O, hO⟩ : ∃ rs, one.map rat = rs := ⟨_, rfl⟩
  obtain ⟨T, hT⟩ : ∃ rs, two.map rat = rs := ⟨_, rfl⟩
  have lP : P.length = prior.length := by rw [← hP, List.length_map]
  have lO : O.length = prior.length := by rw [← hO, List.length_map, h1]
  have lT : T.length = prior.length := by rw [← hT, List.length_map, h2]
  rw [hO, hT] at hb
  rw [hP] at aP qP
  rw [hO] at aO qO
  rw [hT] at aT qT
  have qOT := zip_Q O T qO qT
  have aB : Are both (List.zipWith (· * ·) O T) := by
    rw [hb]
    exact Are.map fun r hr => ⟨(qOT r hr).nonneg, (qOT r hr).fits (by omega)⟩
  -- the products
  obtain ⟨N, hN⟩ : ∃ N, List.zipWith (· * ·) (List.zipWith (· * ·) P O) T = N := ⟨_, rfl⟩
  have qN : ∀ r ∈ N, Q 36 r := by rw [← hN]; exact zip_Q _ _ (zip_Q P O qP qO) qT
  have lN : N.length ≤ 6 := by rw [← hN]; simp only [List.length_zipWith]; omega
  have sN := fun k => Q.upTo qN lN k
  have zN := Q.all sN
  have nN : ∀ r ∈ N, 0 ≤ r := fun r hr => (qN r hr).nonneg
  have qPO := zip_Q P O qP qO
  have sPO := fun k => Q.upTo qPO (m := 6) (by simp only [List.length_zipWith]; omega) k
  have qPT := zip_Q P T qP qT
  have sPT := fun k => Q.upTo qPT (m := 6) (by simp only [List.length_zipWith]; omega) k
  obtain ⟨u1, u2⟩ := upd_Q aP aO (by omega) (by omega) rfl qPO sPO (by omega) (by omega)
  have xQ := Q.all sPO
  obtain ⟨v1, v2⟩ := upd_Q aP aB (by simp only [List.length_zipWith]; omega) (by omega) (show _ = N by rw [zip_assoc, hN]) qN sN (by omega) (by omega)
  obtain ⟨w1, w2⟩ := upd_Q aP aT (by omega) (by omega) rfl qPT sPT (by omega) (by omega)
  have wQ := Q.all sPT
  have hPT : List.zipWith (· * ·) (List.zipWith (· * ·) P T) O = N := by rw [zip_comm3, hN]
  have hx0 : (List.zipWith (· * ·) P O).sum = 0 → N.sum = 0 := fun h => by
    have := zip_zero _ T (sum_zero _ (fun r hr => (qPO r hr).nonneg) h)
    rw [hN] at this
    exact sum_of_zeros _ this
  have hw0 : (List.zipWith (· * ·) P T).sum = 0 → N.sum = 0 := fun h => by
    have := zip_zero _ O (sum_zero _ (fun r hr => (qPT r hr).nonneg) h)
    rw [hPT] at this
    exact sum_of_zeros _ this
  obtain ⟨x, hx⟩ : ∃ x, (List.zipWith (· * ·) P O).sum = x := ⟨_, rfl⟩
  obtain ⟨w, hw⟩ : ∃ w, (List.zipWith (· * ·) P T).sum = w := ⟨_, rfl⟩
  obtain ⟨z, hz⟩ : ∃ z, N.sum = z := ⟨_, rfl⟩
  rw [hx] at u1 u2 xQ hx0
  rw [hw] at w1 w2 wQ hw0
  rw [hz] at v1 v2 zN hx0 hw0
  by_cases ex : x = 0
  · exact .inl ⟨_, _, u1 ex, v1 (hx0 ex), rfl, rfl⟩
  · obtain ⟨a1, a2, a3⟩ := u2 ex (fun r hr => ((qPO r hr).div xQ ex).fits (by omega))
    -- the second piece, behind the first
    have lA : ((List.zipWith (· * ·) P O).map (· / x)).length = prior.length := by simp only [List.length_map, List.length_zipWith]; omega
    have eA : List.zipWith (· * ·) ((List.zipWith (· * ·) P O).map (· / x)) T = N.map (· / x) := by rw [zip_div, hN]
    have qA : ∀ r ∈ N.map (· / x), Q (36 + (1 + (12 + 12 + 1) * 6)) r := by
      intro r hr
      obtain ⟨s, hs, rfl⟩ := List.mem_map.1 hr
      exact (qN s hs).div xQ ex
    have sA : ∀ k, Q ((1 + (36 + 1) * 6) + (1 + (12 + 12 + 1) * 6)) ((N.map (· / x)).take k).sum := fun k => by rw [sum_take_div]; exact (sN k).div xQ ex
    obtain ⟨b1, b2⟩ := upd_Q a2 aT (by omega) (by omega) eA qA sA (by omega) (by omega)
    rw [sum_div, hz] at b1 b2
    by_cases ez : z = 0
    · refine .inr ⟨_, _, [], p0, [], p0, [], p0, [], p0, p0, p0, a1, .inl ⟨v1 ez, b1 (by rw [ez]; grind)⟩⟩
    · have ew : w ≠ 0 := fun e => ez (hw0 e)
      have ezx : z / x ≠ 0 := by grind
      have ezw : z / w ≠ 0 := by grind
      obtain ⟨c1, c2, c3⟩ := v2 ez (fun r hr => ((qN r hr).div zN ez).fits (by omega))
      have hdd : ∀ (t : Rat), t ≠ 0 → (N.map (· / t)).map (· / (z / t)) = N.map (· / z) := fun t ht => by
        rw [List.map_map]
        refine List.map_congr_left fun r _ => ?_
        show r / t / (z / t) = r / z
        grind
      obtain ⟨d1, d2, d3⟩ := b2 ezx (fun r hr => by
        obtain ⟨s, hs, rfl⟩ := List.mem_map.1 hr
        rw [show s / x / (z / x) = s / z by grind]
        exact ((qN s hs).div zN ez).fits (by omega))
      obtain ⟨e1, e2, e3⟩ := w2 ew (fun r hr => ((qPT r hr).div wQ ew).fits (by omega))
      have lD : ((List.zipWith (· * ·) P T).map (· / w)).length = prior.length := by simp only [List.length_map, List.length_zipWith]; omega
      have eD : List.zipWith (· * ·) ((List.zipWith (· * ·) P T).map (· / w)) O = N.map (· / w) := by rw [zip_div, hPT]
      have qD : ∀ r ∈ N.map (· / w), Q (36 + (1 + (12 + 12 + 1) * 6)) r := by
        intro r hr
        obtain ⟨s, hs, rfl⟩ := List.mem_map.1 hr
        exact (qN s hs).div wQ ew
      have sD : ∀ k, Q ((1 + (36 + 1) * 6) + (1 + (12 + 12 + 1) * 6)) ((N.map (· / w)).take k).sum := fun k => by rw [sum_take_div]; exact (sN k).div wQ ew
      obtain ⟨_, f2⟩ := upd_Q e2 aO (by omega) (by omega) eD qD sD (by omega) (by omega)
      rw [sum_div, hz] at f2
      obtain ⟨g1, g2, g3⟩ := f2 ezw (fun r hr => by
        obtain ⟨s, hs, rfl⟩ := List.mem_map.1 hr
        rw [show s / w / (z / w) = s / z by grind]
        exact ((qN s hs).div zN ez).fits (by omega))
      obtain ⟨m1, _⟩ := mulR_Q a3 d3 xQ (zN.div xQ ex) (by omega)
      obtain ⟨m2, _⟩ := mulR_Q e3 g3 wQ (zN.div wQ ew) (by omega)
      refine .inr ⟨_, _, _, _, _, _, _, _, _, _, _, _, a1, .inr ⟨c1, d1, e1, g1, m1, m2, ?_, ?_, ?_, ?_⟩⟩
      · rw [show x * (z / x) = z by grind]
      · rw [show w * (z / w) = z by grind]
      · rw [hdd x ex]
      · rw [hdd w ew]
end Go.Proofs.CW
namespace Go.Proofs.CW
open Go.RowKit Go.Shelf Go.Sort Go.Lib Go.Proofs.YtjfclkbdkafkcaaGreatDoorW.PrintWords Go.Proofs.YtjfclkbdkafkcaaGreatDoor.PF
attribute [local go_sem] Oper.semAt_some

/-- Parts in boxes. -/
def PBs (W : World) (L : List (Nat × PS)) : Prop := ∀ q ∈ L, PB W q.1 q.2
theorem PBs.below {W W' : World} {L : List (Nat × PS)} (h : PBs W L) (hb : Below W.heap.size W W') : PBs W' L := fun q hq => (h q hq).below hb
theorem PBs.box {W : World} {L : List (Nat × PS)} (h : PBs W L) (s t : ByteArray) : PBs (W.alloc (.cells #[.string s, .string t] 24)) (L ++ [(W.heap.size, (s, t))]) := fun q hq => by
  rcases List.mem_append.1 hq with hq | hq
  · exact (h q hq).alloc _
  · simp at hq; subst hq; exact PB.new W s t
theorem PBs.at {W : World} {L : List (Nat × PS)} (h : PBs W L) {i N : Nat} {p : PS} (hi : L[i]? = some (N, p)) : PB W N p := h _ (List.mem_of_getElem? hi)
theorem PBs.nil (W : World) : PBs W [] := fun q hq => by cases hq
theorem alloc_below (W : World) (o : Obj) : Below W.heap.size W (W.alloc o) := (Below.refl _ W).alloc (Nat.le_refl _) _
theorem rv_eq (s t : ByteArray) (x : Int) : rv ((s, t), x) = .tuple #[.agg #[.string s, .string t], .int .i64 x] := rfl
theorem small_of_add {a b p : PS} (h : addR a b = (p, 0)) : Small p := small_add (toE_ok h)
theorem small_of_mul {a b p : PS} (h : mulR a b = (p, 0)) : Small p := small_mul (toE_ok h)
theorem field_lawS {a b c : PS} (ha : okP a = true) (hb : okP b = true) (hc : okP c = true) (h : shortB 60 [a, b, c] = true) : FieldL a b c := by
  unfold shortB at h
  simp only [List.all_cons, List.all_nil, Bool.and_true, Bool.and_eq_true, decide_eq_true_eq] at h
  exact field_law ha hb hc (by omega) (by omega) (by omega) (by omega) (by omega) (by omega)
theorem pv_eq (s t : ByteArray) : pv (s, t) = .agg #[.string s, .string t] := rfl
set_option maxRecDepth 100000 in
set_option maxHeartbeats 16000000 in
theorem field_walk (a b c : PS) (sa : Small a) (sb : Small b) (sc : Small c) (w : World) (ht : Tab w) : Calls Tryz.prog 8 #[pv a, pv b, pv c] w fun e W => e = .returned (.bool true) ∧ Below w.heap.size w W := by
  obtain ⟨an, ad⟩ := a
  obtain ⟨bn, bd⟩ := b
  obtain ⟨cn, cd⟩ := c
  have HT := Lib.hid ht
  have P0 := (((PBs.nil w).box an ad).box bn bd).box cn cd
  simp only [World.size_alloc] at P0
  have b0 : Below w.heap.size w (((w.alloc (.cells #[.string an, .string ad] 24)).alloc (.cells #[.string bn, .string bd] 24)).alloc (.cells #[.string cn, .string cd] 24)) := (((Below.refl _ w).alloc (Nat.le_refl _) _).alloc (by simp) _).alloc (by simp; omega) _
  have HS := Lib.hid (And.intro sa (And.intro sb sc))
  obtain ⟨N, hN⟩ : ∃ N, w.heap.size = N := ⟨_, rfl⟩
  rw [hN] at P0
  clear sa sb sc ht
  simp only [pv_eq]
  go_enter Tryz.func8, Tryz.ntmps8
  go_wp2_with fail
  obtain ⟨V0, hV0⟩ : ∃ V, (((w.alloc (.cells #[.string an, .string ad] 24)).alloc (.cells #[.string bn, .string bd] 24)).alloc (.cells #[.string cn, .string cd] 24)) = V := ⟨_, rfl⟩
  rw [hV0] at P0 b0 ⊢
  refine (alive_calls V0 (HT.out.below b0)).mono ?_
  rintro e V1 ⟨rfl, hb⟩
  have HP := Lib.hid (P0.below hb)
  have HB := Lib.hid (b0.trans (hb.mono b0.size))
  clear hb P0 b0 hV0

  have f0a := (HP.out.at (i := 0) (N := N) (p := (an, ad)) rfl).cell.1
  have f0b := (HP.out.at (i := 0) (N := N) (p := (an, ad)) rfl).cell.2.1
  have f1a := (HP.out.at (i := 1) (N := N + 1) (p := (bn, bd)) rfl).cell.1
  have f1b := (HP.out.at (i := 1) (N := N + 1) (p := (bn, bd)) rfl).cell.2.1
  have f2a := (HP.out.at (i := 2) (N := N + 1 + 1) (p := (cn, cd)) rfl).cell.1
  have f2b := (HP.out.at (i := 2) (N := N + 1 + 1) (p := (cn, cd)) rfl).cell.2.1
  go_wp2_with fail
  obtain ⟨j1, j2, j3⟩ := row_step HB.out [(an, ad), (bn, bd), (cn, cd)] 24 (by simp)
  refine (short_list 60 _ _ [(an, ad), (bn, bd), (cn, cd)] (by simp) (by intro p hp; simp at hp; rcases hp with rfl | rfl | rfl; exact HS.out.1; exact HS.out.2.1; exact HS.out.2.2) _ j2).mono ?_
  rintro e V2 ⟨rfl, hb⟩
  have hp2 := (HP.out.below j3).below hb
  have hb2 := j1.trans (hb.mono j1.size)
  clear hb j1 j2 j3 f0a f0b f1a f1b f2a f2b HP HB
  have HP := Lib.hid hp2
  have HB := Lib.hid hb2
  clear hp2 hb2
  by_cases hsh : shortB 60 [(an, ad), (bn, bd), (cn, cd)] = true
  case neg =>
    have hsf : shortB 60 [(an, ad), (bn, bd), (cn, cd)] = false := by simpa using hsh
    rw [hsf]
    clear hsh hsf
    go_wp2_with fail
    go_ret
    first | exact ⟨rfl, HB.out⟩ | exact ⟨rfl, hN ▸ HB.out⟩
  rw [hsh]
  have HSH := Lib.hid hsh
  clear hsh
  have f0a := (HP.out.at (i := 0) (N := N) (p := (an, ad)) rfl).cell.1
  have f0b := (HP.out.at (i := 0) (N := N) (p := (an, ad)) rfl).cell.2.1
  have f1a := (HP.out.at (i := 1) (N := N + 1) (p := (bn, bd)) rfl).cell.1
  have f1b := (HP.out.at (i := 1) (N := N + 1) (p := (bn, bd)) rfl).cell.2.1
  have f2a := (HP.out.at (i := 2) (N := N + 1 + 1) (p := (cn, cd)) rfl).cell.1
  have f2b := (HP.out.at (i := 2) (N := N + 1 + 1) (p := (cn, cd)) rfl).cell.2.1
  go_wp2_with fail
  refine (check_calls (an, ad) HS.out.1 V2).mono ?_
  rintro e V3 ⟨rfl, hb⟩
  have hp2 := HP.out.below hb
  have hb2 := HB.out.trans (hb.mono HB.out.size)
  clear hb f0a f0b f1a f1b f2a f2b HP HB
  have HP := Lib.hid hp2
  have HB := Lib.hid hb2
  clear hp2 hb2
  by_cases ka : okP (an, ad) = true
  case neg =>
    rw [show checkR (an, ad) = 2 by unfold checkR; rw [if_neg ka]]
    have HQ := Lib.hid ka
    clear ka
    go_wp2_with fail
    go_ret
    first | exact ⟨rfl, HB.out⟩ | exact ⟨rfl, hN ▸ HB.out⟩
  rw [show checkR (an, ad) = 0 by unfold checkR; rw [if_pos ka]]
  have HQka := Lib.hid ka
  clear ka
  have f0a := (HP.out.at (i := 0) (N := N) (p := (an, ad)) rfl).cell.1
  have f0b := (HP.out.at (i := 0) (N := N) (p := (an, ad)) rfl).cell.2.1
  have f1a := (HP.out.at (i := 1) (N := N + 1) (p := (bn, bd)) rfl).cell.1
  have f1b := (HP.out.at (i := 1) (N := N + 1) (p := (bn, bd)) rfl).cell.2.1
  have f2a := (HP.out.at (i := 2) (N := N + 1 + 1) (p := (cn, cd)) rfl).cell.1
  have f2b := (HP.out.at (i := 2) (N := N + 1 + 1) (p := (cn, cd)) rfl).cell.2.1
  go_wp2_with fail
  refine (check_calls (bn, bd) HS.out.2.1 V3).mono ?_
  rintro e V4 ⟨rfl, hb⟩
  have hp2 := HP.out.below hb
  have hb2 := HB.out.trans (hb.mono HB.out.size)
  clear hb f0a f0b f1a f1b f2a f2b HP HB
  have HP := Lib.hid hp2
  have HB := Lib.hid hb2
  clear hp2 hb2
  by_cases kb : okP (bn, bd) = true
  case neg =>
    rw [show checkR (bn, bd) = 2 by unfold checkR; rw [if_neg kb]]
    have HQ := Lib.hid kb
    clear kb
    go_wp2_with fail
    go_ret
    first | exact ⟨rfl, HB.out⟩ | exact ⟨rfl, hN ▸ HB.out⟩
  rw [show checkR (bn, bd) = 0 by unfold checkR; rw [if_pos kb]]
  have HQkb := Lib.hid kb
  clear kb
  have f0a := (HP.out.at (i := 0) (N := N) (p := (an, ad)) rfl).cell.1
  have f0b := (HP.out.at (i := 0) (N := N) (p := (an, ad)) rfl).cell.2.1
  have f1a := (HP.out.at (i := 1) (N := N + 1) (p := (bn, bd)) rfl).cell.1
  have f1b := (HP.out.at (i := 1) (N := N + 1) (p := (bn, bd)) rfl).cell.2.1
  have f2a := (HP.out.at (i := 2) (N := N + 1 + 1) (p := (cn, cd)) rfl).cell.1
  have f2b := (HP.out.at (i := 2) (N := N + 1 + 1) (p := (cn, cd)) rfl).cell.2.1
  go_wp2_with fail
  refine (check_calls (cn, cd) HS.out.2.2 V4).mono ?_
  rintro e V5 ⟨rfl, hb⟩
  have hp2 := HP.out.below hb
  have hb2 := HB.out.trans (hb.mono HB.out.size)
  clear hb f0a f0b f1a f1b f2a f2b HP HB
  have HP := Lib.hid hp2
  have HB := Lib.hid hb2
  clear hp2 hb2
  by_cases kc : okP (cn, cd) = true
  case neg =>
    rw [show checkR (cn, cd) = 2 by unfold checkR; rw [if_neg kc]]
    have HQ := Lib.hid kc
    clear kc
    go_wp2_with fail
    go_ret
    first | exact ⟨rfl, HB.out⟩ | exact ⟨rfl, hN ▸ HB.out⟩
  rw [show checkR (cn, cd) = 0 by unfold checkR; rw [if_pos kc]]
  have HQkc := Lib.hid kc
  clear kc
  obtain ⟨ab, x, abc, bc, left, ac, e1, e2, e3, e4, e5, e6, e7, e8, e9, e10, e11, e12, e13⟩ := (field_lawS HQka.out HQkb.out HQkc.out HSH.out).ex
  obtain ⟨abn, abd⟩ := ab
  obtain ⟨xn, xd⟩ := x
  obtain ⟨pn, pd⟩ := abc
  obtain ⟨rn, rd⟩ := bc
  obtain ⟨ln, ld⟩ := left
  obtain ⟨zn, zd⟩ := ac
  have HE := Lib.hid (And.intro e1 (And.intro e2 (And.intro e3 (And.intro e4 (And.intro e5 (And.intro e6 (And.intro e7 (And.intro e8 (And.intro e9 (And.intro e10 (And.intro e11 (And.intro e12 e13))))))))))))
  clear e1 e2 e3 e4 e5 e6 e7 e8 e9 e10 e11 e12 e13
  have HM : Hid (Small (abn, abd) ∧ Small (xn, xd) ∧ Small (rn, rd) ∧ Small (zn, zd) ∧ Small (ln, ld)) := Lib.hid ⟨small_of_add HE.out.1, small_of_mul HE.out.2.2.1, small_of_add HE.out.2.2.2.2.2.1, small_of_mul HE.out.2.2.2.2.2.2.2.2.2.1, small_of_mul HE.out.2.2.2.2.2.2.2.2.1⟩
  have f0a := (HP.out.at (i := 0) (N := N) (p := (an, ad)) rfl).cell.1
  have f0b := (HP.out.at (i := 0) (N := N) (p := (an, ad)) rfl).cell.2.1
  have f1a := (HP.out.at (i := 1) (N := N + 1) (p := (bn, bd)) rfl).cell.1
  have f1b := (HP.out.at (i := 1) (N := N + 1) (p := (bn, bd)) rfl).cell.2.1
  go_wp2_with fail
  refine (add_calls (an, ad) (bn, bd) HS.out.1 HS.out.2.1 V5 (HT.out.below HB.out)).mono ?_
  rintro e V6 ⟨rfl, hb⟩
  rw [HE.out.1]
  have HP2 := HP.out.below hb
  have HB2 := HB.out.trans (hb.mono HB.out.size)
  have HP3 := HP2.box abn abd
  have HB3 := HB2.alloc (o := .cells #[.string abn, .string abd] 24) HB2.size
  try clear f0a f0b
  try clear f1a f1b
  try clear f2a f2b
  try clear f3a f3b
  try clear f4a f4b
  try clear f5a f5b
  clear HP HB HP2 HB2 hb
  have HP := Lib.hid HP3
  have HB := Lib.hid HB3
  clear HP3 HB3
  have f0a := (HP.out.at (i := 1) (N := N + 1) (p := (bn, bd)) rfl).cell.1
  have f0b := (HP.out.at (i := 1) (N := N + 1) (p := (bn, bd)) rfl).cell.2.1
  have f1a := (HP.out.at (i := 0) (N := N) (p := (an, ad)) rfl).cell.1
  have f1b := (HP.out.at (i := 0) (N := N) (p := (an, ad)) rfl).cell.2.1
  simp only [rv_eq]
  go_wp2_with fail
  obtain ⟨M5, hM5⟩ : ∃ N, V6.heap.size = N := ⟨_, rfl⟩
  obtain ⟨X6, hX⟩ : ∃ V, V6.alloc (.cells #[.string abn, .string abd] 24) = V := ⟨_, rfl⟩
  rw [hX, hM5] at HP
  rw [hX] at HB ⊢
  try rw [hM5]
  clear hX
  refine (add_calls (bn, bd) (an, ad) HS.out.2.1 HS.out.1 X6 (HT.out.below HB.out)).mono ?_
  rintro e V7 ⟨rfl, hb⟩
  rw [HE.out.2.1]
  have HP2 := HP.out.below hb
  have HB2 := HB.out.trans (hb.mono HB.out.size)
  have HP3 := HP2.box abn abd
  have HB3 := HB2.alloc (o := .cells #[.string abn, .string abd] 24) HB2.size
  try clear f0a f0b
  try clear f1a f1b
  try clear f2a f2b
  try clear f3a f3b
  try clear f4a f4b
  try clear f5a f5b
  clear HP HB HP2 HB2 hb
  have HP := Lib.hid HP3
  have HB := Lib.hid HB3
  clear HP3 HB3
  have f0a := (HP.out.at (i := 0) (N := N) (p := (an, ad)) rfl).cell.1
  have f0b := (HP.out.at (i := 0) (N := N) (p := (an, ad)) rfl).cell.2.1
  have f1a := (HP.out.at (i := 1) (N := N + 1) (p := (bn, bd)) rfl).cell.1
  have f1b := (HP.out.at (i := 1) (N := N + 1) (p := (bn, bd)) rfl).cell.2.1
  simp only [rv_eq]
  go_wp2_with fail
  obtain ⟨M6, hM6⟩ : ∃ N, V7.heap.size = N := ⟨_, rfl⟩
  obtain ⟨X7, hX⟩ : ∃ V, V7.alloc (.cells #[.string abn, .string abd] 24) = V := ⟨_, rfl⟩
  rw [hX, hM6] at HP
  rw [hX] at HB ⊢
  try rw [hM6]
  clear hX
  refine (mul_calls (an, ad) (bn, bd) HS.out.1 HS.out.2.1 X7 (HT.out.below HB.out)).mono ?_
  rintro e V8 ⟨rfl, hb⟩
  rw [HE.out.2.2.1]
  have HP2 := HP.out.below hb
  have HB2 := HB.out.trans (hb.mono HB.out.size)
  have HP3 := HP2.box xn xd
  have HB3 := HB2.alloc (o := .cells #[.string xn, .string xd] 24) HB2.size
  try clear f0a f0b
  try clear f1a f1b
  try clear f2a f2b
  try clear f3a f3b
  try clear f4a f4b
  try clear f5a f5b
  clear HP HB HP2 HB2 hb
  have HP := Lib.hid HP3
  have HB := Lib.hid HB3
  clear HP3 HB3
  have f0a := (HP.out.at (i := 1) (N := N + 1) (p := (bn, bd)) rfl).cell.1
  have f0b := (HP.out.at (i := 1) (N := N + 1) (p := (bn, bd)) rfl).cell.2.1
  have f1a := (HP.out.at (i := 0) (N := N) (p := (an, ad)) rfl).cell.1
  have f1b := (HP.out.at (i := 0) (N := N) (p := (an, ad)) rfl).cell.2.1
  simp only [rv_eq]
  go_wp2_with fail
  obtain ⟨M7, hM7⟩ : ∃ N, V8.heap.size = N := ⟨_, rfl⟩
  obtain ⟨X8, hX⟩ : ∃ V, V8.alloc (.cells #[.string xn, .string xd] 24) = V := ⟨_, rfl⟩
  rw [hX, hM7] at HP
  rw [hX] at HB ⊢
  try rw [hM7]
  clear hX
  refine (mul_calls (bn, bd) (an, ad) HS.out.2.1 HS.out.1 X8 (HT.out.below HB.out)).mono ?_
  rintro e V9 ⟨rfl, hb⟩
  rw [HE.out.2.2.2.1]
  have HP2 := HP.out.below hb
  have HB2 := HB.out.trans (hb.mono HB.out.size)
  have HP3 := HP2.box xn xd
  have HB3 := HB2.alloc (o := .cells #[.string xn, .string xd] 24) HB2.size
  try clear f0a f0b
  try clear f1a f1b
  try clear f2a f2b
  try clear f3a f3b
  try clear f4a f4b
  try clear f5a f5b
  clear HP HB HP2 HB2 hb
  have HP := Lib.hid HP3
  have HB := Lib.hid HB3
  clear HP3 HB3
  have f0a := (HP.out.at (i := 3) (N := M5) (p := (abn, abd)) rfl).cell.1
  have f0b := (HP.out.at (i := 3) (N := M5) (p := (abn, abd)) rfl).cell.2.1
  have f1a := (HP.out.at (i := 4) (N := M6) (p := (abn, abd)) rfl).cell.1
  have f1b := (HP.out.at (i := 4) (N := M6) (p := (abn, abd)) rfl).cell.2.1
  have f2a := (HP.out.at (i := 5) (N := M7) (p := (xn, xd)) rfl).cell.1
  have f2b := (HP.out.at (i := 5) (N := M7) (p := (xn, xd)) rfl).cell.2.1
  have f3a := (HP.out.at (i := 6) (N := V9.heap.size) (p := (xn, xd)) rfl).cell.1
  have f3b := (HP.out.at (i := 6) (N := V9.heap.size) (p := (xn, xd)) rfl).cell.2.1
  have f4a := (HP.out.at (i := 2) (N := N + 1 + 1) (p := (cn, cd)) rfl).cell.1
  have f4b := (HP.out.at (i := 2) (N := N + 1 + 1) (p := (cn, cd)) rfl).cell.2.1
  simp only [rv_eq]
  go_wp2_with fail
  obtain ⟨M8, hM8⟩ : ∃ N, V9.heap.size = N := ⟨_, rfl⟩
  obtain ⟨X9, hX⟩ : ∃ V, V9.alloc (.cells #[.string xn, .string xd] 24) = V := ⟨_, rfl⟩
  rw [hX, hM8] at HP
  rw [hX] at HB ⊢
  try rw [hM8]
  clear hX
  refine (add_calls (abn, abd) (cn, cd) HM.out.1 HS.out.2.2 X9 (HT.out.below HB.out)).mono ?_
  rintro e V10 ⟨rfl, hb⟩
  rw [HE.out.2.2.2.2.1]
  have HP2 := HP.out.below hb
  have HB2 := HB.out.trans (hb.mono HB.out.size)
  have HP3 := HP2.box pn pd
  have HB3 := HB2.alloc (o := .cells #[.string pn, .string pd] 24) HB2.size
  try clear f0a f0b
  try clear f1a f1b
  try clear f2a f2b
  try clear f3a f3b
  try clear f4a f4b
  try clear f5a f5b
  clear HP HB HP2 HB2 hb
  have HP := Lib.hid HP3
  have HB := Lib.hid HB3
  clear HP3 HB3
  have f0a := (HP.out.at (i := 1) (N := N + 1) (p := (bn, bd)) rfl).cell.1
  have f0b := (HP.out.at (i := 1) (N := N + 1) (p := (bn, bd)) rfl).cell.2.1
  have f1a := (HP.out.at (i := 2) (N := N + 1 + 1) (p := (cn, cd)) rfl).cell.1
  have f1b := (HP.out.at (i := 2) (N := N + 1 + 1) (p := (cn, cd)) rfl).cell.2.1
  simp only [rv_eq]
  go_wp2_with fail
  obtain ⟨M9, hM9⟩ : ∃ N, V10.heap.size = N := ⟨_, rfl⟩
  obtain ⟨X10, hX⟩ : ∃ V, V10.alloc (.cells #[.string pn, .string pd] 24) = V := ⟨_, rfl⟩
  rw [hX, hM9] at HP
  rw [hX] at HB ⊢
  try rw [hM9]
  clear hX
  refine (add_calls (bn, bd) (cn, cd) HS.out.2.1 HS.out.2.2 X10 (HT.out.below HB.out)).mono ?_
  rintro e V11 ⟨rfl, hb⟩
  rw [HE.out.2.2.2.2.2.1]
  have HP2 := HP.out.below hb
  have HB2 := HB.out.trans (hb.mono HB.out.size)
  have HP3 := HP2.box rn rd
  have HB3 := HB2.alloc (o := .cells #[.string rn, .string rd] 24) HB2.size
  try clear f0a f0b
  try clear f1a f1b
  try clear f2a f2b
  try clear f3a f3b
  try clear f4a f4b
  try clear f5a f5b
  clear HP HB HP2 HB2 hb
  have HP := Lib.hid HP3
  have HB := Lib.hid HB3
  clear HP3 HB3
  have f0a := (HP.out.at (i := 0) (N := N) (p := (an, ad)) rfl).cell.1
  have f0b := (HP.out.at (i := 0) (N := N) (p := (an, ad)) rfl).cell.2.1
  have f1a := (HP.out.at (i := 8) (N := V11.heap.size) (p := (rn, rd)) rfl).cell.1
  have f1b := (HP.out.at (i := 8) (N := V11.heap.size) (p := (rn, rd)) rfl).cell.2.1
  simp only [rv_eq]
  go_wp2_with fail
  obtain ⟨M10, hM10⟩ : ∃ N, V11.heap.size = N := ⟨_, rfl⟩
  obtain ⟨X11, hX⟩ : ∃ V, V11.alloc (.cells #[.string rn, .string rd] 24) = V := ⟨_, rfl⟩
  rw [hX, hM10] at HP
  rw [hX] at HB ⊢
  try rw [hM10]
  clear hX
  refine (add_calls (an, ad) (rn, rd) HS.out.1 HM.out.2.2.1 X11 (HT.out.below HB.out)).mono ?_
  rintro e V12 ⟨rfl, hb⟩
  rw [HE.out.2.2.2.2.2.2.1]
  have HP2 := HP.out.below hb
  have HB2 := HB.out.trans (hb.mono HB.out.size)
  have HP3 := HP2.box pn pd
  have HB3 := HB2.alloc (o := .cells #[.string pn, .string pd] 24) HB2.size
  try clear f0a f0b
  try clear f1a f1b
  try clear f2a f2b
  try clear f3a f3b
  try clear f4a f4b
  try clear f5a f5b
  clear HP HB HP2 HB2 hb
  have HP := Lib.hid HP3
  have HB := Lib.hid HB3
  clear HP3 HB3
  have f0a := (HP.out.at (i := 3) (N := M5) (p := (abn, abd)) rfl).cell.1
  have f0b := (HP.out.at (i := 3) (N := M5) (p := (abn, abd)) rfl).cell.2.1
  have f1a := (HP.out.at (i := 1) (N := N + 1) (p := (bn, bd)) rfl).cell.1
  have f1b := (HP.out.at (i := 1) (N := N + 1) (p := (bn, bd)) rfl).cell.2.1
  simp only [rv_eq]
  go_wp2_with fail
  obtain ⟨M11, hM11⟩ : ∃ N, V12.heap.size = N := ⟨_, rfl⟩
  obtain ⟨X12, hX⟩ : ∃ V, V12.alloc (.cells #[.string pn, .string pd] 24) = V := ⟨_, rfl⟩
  rw [hX, hM11] at HP
  rw [hX] at HB ⊢
  try rw [hM11]
  clear hX
  refine (sub_calls (abn, abd) (bn, bd) HM.out.1 HS.out.2.1 X12 (HT.out.below HB.out)).mono ?_
  rintro e V13 ⟨rfl, hb⟩
  rw [HE.out.2.2.2.2.2.2.2.1]
  have HP2 := HP.out.below hb
  have HB2 := HB.out.trans (hb.mono HB.out.size)
  have HP3 := HP2.box an ad
  have HB3 := HB2.alloc (o := .cells #[.string an, .string ad] 24) HB2.size
  try clear f0a f0b
  try clear f1a f1b
  try clear f2a f2b
  try clear f3a f3b
  try clear f4a f4b
  try clear f5a f5b
  clear HP HB HP2 HB2 hb
  have HP := Lib.hid HP3
  have HB := Lib.hid HB3
  clear HP3 HB3
  have f0a := (HP.out.at (i := 7) (N := M9) (p := (pn, pd)) rfl).cell.1
  have f0b := (HP.out.at (i := 7) (N := M9) (p := (pn, pd)) rfl).cell.2.1
  have f1a := (HP.out.at (i := 9) (N := M11) (p := (pn, pd)) rfl).cell.1
  have f1b := (HP.out.at (i := 9) (N := M11) (p := (pn, pd)) rfl).cell.2.1
  have f2a := (HP.out.at (i := 10) (N := V13.heap.size) (p := (an, ad)) rfl).cell.1
  have f2b := (HP.out.at (i := 10) (N := V13.heap.size) (p := (an, ad)) rfl).cell.2.1
  have f3a := (HP.out.at (i := 0) (N := N) (p := (an, ad)) rfl).cell.1
  have f3b := (HP.out.at (i := 0) (N := N) (p := (an, ad)) rfl).cell.2.1
  have f4a := (HP.out.at (i := 8) (N := M10) (p := (rn, rd)) rfl).cell.1
  have f4b := (HP.out.at (i := 8) (N := M10) (p := (rn, rd)) rfl).cell.2.1
  simp only [rv_eq]
  go_wp2_with fail
  obtain ⟨M12, hM12⟩ : ∃ N, V13.heap.size = N := ⟨_, rfl⟩
  obtain ⟨X13, hX⟩ : ∃ V, V13.alloc (.cells #[.string an, .string ad] 24) = V := ⟨_, rfl⟩
  rw [hX, hM12] at HP
  rw [hX] at HB ⊢
  try rw [hM12]
  clear hX
  refine (mul_calls (an, ad) (rn, rd) HS.out.1 HM.out.2.2.1 X13 (HT.out.below HB.out)).mono ?_
  rintro e V14 ⟨rfl, hb⟩
  rw [HE.out.2.2.2.2.2.2.2.2.1]
  have HP2 := HP.out.below hb
  have HB2 := HB.out.trans (hb.mono HB.out.size)
  have HP3 := HP2.box ln ld
  have HB3 := HB2.alloc (o := .cells #[.string ln, .string ld] 24) HB2.size
  try clear f0a f0b
  try clear f1a f1b
  try clear f2a f2b
  try clear f3a f3b
  try clear f4a f4b
  try clear f5a f5b
  clear HP HB HP2 HB2 hb
  have HP := Lib.hid HP3
  have HB := Lib.hid HB3
  clear HP3 HB3
  have f0a := (HP.out.at (i := 0) (N := N) (p := (an, ad)) rfl).cell.1
  have f0b := (HP.out.at (i := 0) (N := N) (p := (an, ad)) rfl).cell.2.1
  have f1a := (HP.out.at (i := 2) (N := N + 1 + 1) (p := (cn, cd)) rfl).cell.1
  have f1b := (HP.out.at (i := 2) (N := N + 1 + 1) (p := (cn, cd)) rfl).cell.2.1
  simp only [rv_eq]
  go_wp2_with fail
  obtain ⟨M13, hM13⟩ : ∃ N, V14.heap.size = N := ⟨_, rfl⟩
  obtain ⟨X14, hX⟩ : ∃ V, V14.alloc (.cells #[.string ln, .string ld] 24) = V := ⟨_, rfl⟩
  rw [hX, hM13] at HP
  rw [hX] at HB ⊢
  try rw [hM13]
  clear hX
  refine (mul_calls (an, ad) (cn, cd) HS.out.1 HS.out.2.2 X14 (HT.out.below HB.out)).mono ?_
  rintro e V15 ⟨rfl, hb⟩
  rw [HE.out.2.2.2.2.2.2.2.2.2.1]
  have HP2 := HP.out.below hb
  have HB2 := HB.out.trans (hb.mono HB.out.size)
  have HP3 := HP2.box zn zd
  have HB3 := HB2.alloc (o := .cells #[.string zn, .string zd] 24) HB2.size
  try clear f0a f0b
  try clear f1a f1b
  try clear f2a f2b
  try clear f3a f3b
  try clear f4a f4b
  try clear f5a f5b
  clear HP HB HP2 HB2 hb
  have HP := Lib.hid HP3
  have HB := Lib.hid HB3
  clear HP3 HB3
  have f0a := (HP.out.at (i := 5) (N := M7) (p := (xn, xd)) rfl).cell.1
  have f0b := (HP.out.at (i := 5) (N := M7) (p := (xn, xd)) rfl).cell.2.1
  have f1a := (HP.out.at (i := 12) (N := V15.heap.size) (p := (zn, zd)) rfl).cell.1
  have f1b := (HP.out.at (i := 12) (N := V15.heap.size) (p := (zn, zd)) rfl).cell.2.1
  simp only [rv_eq]
  go_wp2_with fail
  obtain ⟨M14, hM14⟩ : ∃ N, V15.heap.size = N := ⟨_, rfl⟩
  obtain ⟨X15, hX⟩ : ∃ V, V15.alloc (.cells #[.string zn, .string zd] 24) = V := ⟨_, rfl⟩
  rw [hX, hM14] at HP
  rw [hX] at HB ⊢
  try rw [hM14]
  clear hX
  refine (add_calls (xn, xd) (zn, zd) HM.out.2.1 HM.out.2.2.2.1 X15 (HT.out.below HB.out)).mono ?_
  rintro e V16 ⟨rfl, hb⟩
  rw [HE.out.2.2.2.2.2.2.2.2.2.2.1]
  have HP2 := HP.out.below hb
  have HB2 := HB.out.trans (hb.mono HB.out.size)
  have HP3 := HP2.box ln ld
  have HB3 := HB2.alloc (o := .cells #[.string ln, .string ld] 24) HB2.size
  try clear f0a f0b
  try clear f1a f1b
  try clear f2a f2b
  try clear f3a f3b
  try clear f4a f4b
  try clear f5a f5b
  clear HP HB HP2 HB2 hb
  have HP := Lib.hid HP3
  have HB := Lib.hid HB3
  clear HP3 HB3
  have f0a := (HP.out.at (i := 11) (N := M13) (p := (ln, ld)) rfl).cell.1
  have f0b := (HP.out.at (i := 11) (N := M13) (p := (ln, ld)) rfl).cell.2.1
  have f1a := (HP.out.at (i := 13) (N := V16.heap.size) (p := (ln, ld)) rfl).cell.1
  have f1b := (HP.out.at (i := 13) (N := V16.heap.size) (p := (ln, ld)) rfl).cell.2.1
  have f2a := (HP.out.at (i := 5) (N := M7) (p := (xn, xd)) rfl).cell.1
  have f2b := (HP.out.at (i := 5) (N := M7) (p := (xn, xd)) rfl).cell.2.1
  have f3a := (HP.out.at (i := 1) (N := N + 1) (p := (bn, bd)) rfl).cell.1
  have f3b := (HP.out.at (i := 1) (N := N + 1) (p := (bn, bd)) rfl).cell.2.1
  simp only [rv_eq]
  go_wp2_with fail
  obtain ⟨M15, hM15⟩ : ∃ N, V16.heap.size = N := ⟨_, rfl⟩
  obtain ⟨X16, hX⟩ : ∃ V, V16.alloc (.cells #[.string ln, .string ld] 24) = V := ⟨_, rfl⟩
  rw [hX, hM15] at HP
  rw [hX] at HB ⊢
  try rw [hM15]
  clear hX
  by_cases hb0 : bn = s0
  · have HZ : Hid (divR (xn, xd) (bn, bd) = ((⟨#[]⟩, ⟨#[]⟩), 10)) := Lib.hid (HE.out.2.2.2.2.2.2.2.2.2.2.2.1 hb0)
    refine (div_calls (xn, xd) (bn, bd) HM.out.2.1 HS.out.2.1 X16 (HT.out.below HB.out)).mono ?_
    rintro e V17 ⟨rfl, hb⟩
    rw [HZ.out]
    have HP2 := HP.out.below hb
    have HP3 := HP2.box ⟨#[]⟩ ⟨#[]⟩
    try clear f0a f0b
    try clear f1a f1b
    try clear f2a f2b
    try clear f3a f3b
    have HB3 := (HB.out.trans (hb.mono HB.out.size)).alloc (o := .cells #[.string ⟨#[]⟩, .string ⟨#[]⟩] 24) (HB.out.trans (hb.mono HB.out.size)).size
    clear HP HP2 hb HB
    have HP := Lib.hid HP3
    have HB := Lib.hid HB3
    clear HP3 HB3
    have f0a := (HP.out.at (i := 14) (N := V17.heap.size) (p := (⟨#[]⟩, ⟨#[]⟩)) rfl).cell.1
    have f0b := (HP.out.at (i := 14) (N := V17.heap.size) (p := (⟨#[]⟩, ⟨#[]⟩)) rfl).cell.2.1
    have f1a := (HP.out.at (i := 0) (N := N) (p := (an, ad)) rfl).cell.1
    have f1b := (HP.out.at (i := 0) (N := N) (p := (an, ad)) rfl).cell.2.1
    have f2a := (HP.out.at (i := 1) (N := N + 1) (p := (bn, bd)) rfl).cell.1
    have f2b := (HP.out.at (i := 1) (N := N + 1) (p := (bn, bd)) rfl).cell.2.1
    simp only [rv_eq]
    obtain rfl : bn = ⟨#[48]⟩ := hb0
    go_wp2_with fail
    go_ret
    first | exact ⟨rfl, HB.out⟩ | exact ⟨rfl, hN ▸ HB.out⟩
  · have HZ : Hid (divR (xn, xd) (bn, bd) = ((an, ad), 0)) := Lib.hid (HE.out.2.2.2.2.2.2.2.2.2.2.2.2 hb0)
    refine (div_calls (xn, xd) (bn, bd) HM.out.2.1 HS.out.2.1 X16 (HT.out.below HB.out)).mono ?_
    rintro e V17 ⟨rfl, hb⟩
    rw [HZ.out]
    have HP2 := HP.out.below hb
    have HP3 := HP2.box an ad
    try clear f0a f0b
    try clear f1a f1b
    try clear f2a f2b
    try clear f3a f3b
    have HB3 := (HB.out.trans (hb.mono HB.out.size)).alloc (o := .cells #[.string an, .string ad] 24) (HB.out.trans (hb.mono HB.out.size)).size
    clear HP HP2 hb HB
    have HP := Lib.hid HP3
    have HB := Lib.hid HB3
    clear HP3 HB3
    have f0a := (HP.out.at (i := 14) (N := V17.heap.size) (p := (an, ad)) rfl).cell.1
    have f0b := (HP.out.at (i := 14) (N := V17.heap.size) (p := (an, ad)) rfl).cell.2.1
    have f1a := (HP.out.at (i := 0) (N := N) (p := (an, ad)) rfl).cell.1
    have f1b := (HP.out.at (i := 0) (N := N) (p := (an, ad)) rfl).cell.2.1
    have f2a := (HP.out.at (i := 1) (N := N + 1) (p := (bn, bd)) rfl).cell.1
    have f2b := (HP.out.at (i := 1) (N := N + 1) (p := (bn, bd)) rfl).cell.2.1
    simp only [rv_eq]
    clear hb0
    go_wp2_with fail
    go_ret
    first | exact ⟨rfl, HB.out⟩ | exact ⟨rfl, hN ▸ HB.out⟩
end Go.Proofs.CW
