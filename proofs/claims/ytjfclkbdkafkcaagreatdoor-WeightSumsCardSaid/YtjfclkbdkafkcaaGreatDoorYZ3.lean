/-
  Part 3 of the proof: Alg6, K17, Spec, K18, K19, K20, K1, K21, K22, K23, K24, K25, K27, K28, BX, K29.
-/
import Derived.Test.YtjfclkbdkafkcaaGreatDoorYZ1
import Derived.Test.YtjfclkbdkafkcaaGreatDoorYZ2
import Derived.RangeFuncCalls
import Derived.Shelf.Strings.BuilderK
import Derived.Deep.RegionHeld3
import Derived.Deep.LoopGhost
set_option linter.unusedVariables false
set_option linter.unusedSimpArgs false
namespace Go.Proofs.CW
open Go.Lib

theorem allD_replicate (n : Nat) : allD (List.replicate n 48) = true := by
  simp only [allD, List.all_eq_true]
  intro c hc
  rw [List.eq_of_mem_replicate hc]; decide
theorem dval_replicate (n : Nat) : dval (List.replicate n 48) = 0 := by
  induction n with
  | zero => simp only [List.replicate_zero, dval, dvalA, List.foldl]
  | succ n ih => rw [List.replicate_succ, dval_cons, ih]; simp
/-- Nine digits of a limb. -/
def padded (x : Nat) : List UInt8 := List.replicate (9 - (decDigits x).length) 48 ++ decDigits x
theorem padded_dval (x : Nat) : dval (padded x) = x := by
  rw [padded, dval_append, dval_replicate, dval_decDigits]; omega
theorem padded_length {x : Nat} (h : x < 1000000000) : (padded x).length = 9 := by
  have : (decDigits x).length ≤ 9 := (decDigits_length_le (by omega)).2 (by omega)
  rw [padded, List.length_append, List.length_replicate]; omega
theorem padded_allD (x : Nat) : allD (padded x) = true := by
  rw [padded, allD_append]; exact ⟨allD_replicate _, decDigits_allD _⟩
theorem decDigits_cat {a x : Nat} (ha : a ≠ 0) (hx : x < 1000000000) : decDigits (x + 1000000000 * a) = decDigits a ++ padded x := by
  have hc : canon (decDigits a ++ padded x) = true := by
    rw [canon_iff, allD_append]
    refine ⟨by simp [decDigits_ne], ⟨decDigits_allD _, padded_allD _⟩, .inr ?_⟩
    have h1 := decDigits_head a ha
    have h2 := decDigits_ne a
    cases h : decDigits a with
    | nil => exact absurd h h2
    | cons c l => rw [h] at h1; simpa using h1
  have hv : dval (decDigits a ++ padded x) = x + 1000000000 * a := by
    rw [dval_append, dval_decDigits, padded_dval, padded_length hx]; omega
  rw [← hv]; exact decDigits_dval _ hc
/-- The text of limbs from place i on. -/
def textOf (xs : List Int) (i : Nat) : List UInt8 := decDigits (lv 1000000000 (xs.drop i)).toNat
theorem textOf_top {xs : List Int} {m : Nat} (h : xs.length = m + 1) : textOf xs m = decDigits (xs.getD m 0).toNat := by
  unfold textOf
  rw [lv_drop_getD _ (by omega), List.drop_of_length_le (by omega), lv_nil, Int.mul_zero, Int.add_zero]
theorem textOf_step {xs : List Int} {i : Nat} (hi : i + 1 < xs.length) (hl : Lim 1000000000 xs) (hn : Norm xs) : textOf xs i = textOf xs (i + 1) ++ padded (xs.getD i 0).toNat := by
  unfold textOf
  have hg := lim_getD b9 hl i
  have hnd : Norm (xs.drop (i + 1)) := fun x hx => by
    rw [List.getLast?_drop] at hx
    split at hx
    · cases hx
    · exact hn x hx
  have hp := lv_pos b9 (lim_drop hl (i + 1)) hnd (by intro h; have := congrArg List.length h; simp at this; omega)
  rw [lv_drop_getD _ (by omega)]
  rw [← decDigits_cat (by omega) (by omega)]
  congr 1
  omega
theorem b9_pow (k : Nat) : (1000000000 : Int) ^ k = ((10 ^ (9 * k) : Nat) : Int) := by
  rw [Nat.pow_mul, Int.natCast_pow]; rfl
theorem textOf_len {xs : List Int} (i : Nat) (hl : Lim 1000000000 xs) : (textOf xs i).length ≤ 9 * xs.length + 1 := by
  unfold textOf
  refine (decDigits_length_le (by omega)).2 ?_
  have h1 := lv_lt b9 (lim_drop hl i)
  have h2 := lv_nonneg (B := 1000000000) (by decide) (lim_drop hl i)
  have h3 := pow_le_pow b9 (a := (xs.drop i).length) (b := xs.length) (by rw [List.length_drop]; omega)
  rw [b9_pow xs.length] at h3
  have h4 : 10 ^ (9 * xs.length) ≤ 10 ^ (9 * xs.length + 1) := Nat.pow_le_pow_right (by omega) (by omega)
  generalize 10 ^ (9 * xs.length) = p at *
  generalize 10 ^ (9 * xs.length + 1) = q at *
  omega
theorem textOf_all {xs : List Int} {n : Nat} (h : lv 1000000000 xs = n) : textOf xs 0 = decDigits n := by
  unfold textOf
  rw [List.drop_zero, h, Int.toNat_natCast]
end Go.Proofs.CW
namespace Go.Proofs.CW
open Go.RowKit Go.Shelf Go.Sort Go.Lib Go.Proofs.YtjfclkbdkafkcaaGreatDoorW.PrintWords Go.Proofs.YtjfclkbdkafkcaaGreatDoor.PF
attribute [local go_sem] Oper.semAt_some

/-- The builder in block b holds these bytes. -/
abbrev Bld (B b : Nat) (l : List UInt8) (W : World) : Prop := Lib.IsBuilderF 171 5 B b (Lib.byteCells l) W
theorem write_calls (B b : Nat) (l : List UInt8) (s : ByteArray) (w : World) (h : Bld B b l w) (hlen : l.length + s.size ≤ 140737488355328) (hBw : B ≤ w.heap.size) :
    Calls Tryz.prog 144 #[.pointer (some ⟨b, 0, none⟩), .string s] w fun e w' => e = .returned (.tuple #[.int .i64 s.size, .nilIface]) ∧ Bld B b (l ++ s.data.toList) w' ∧ Below B w w' ∧ Lib.OthersKept 5 (some b) w w' := by
  refine (Any.Builder_WriteString_k Tryz.lays166 Tryz.Builder_Extra_166 B b (Lib.byteCells l) s w h (by simpa [Lib.byteCells] using hlen) hBw).mono ?_
  rintro e w' ⟨rfl, h1, h2, h3⟩
  refine ⟨rfl, ?_, h2, h3⟩
  have e : Lib.byteCells (l ++ s.data.toList) = Lib.byteCells l ++ Lib.strCells s := by simp [Lib.byteCells, Lib.strCells]
  rw [Bld, e]
  exact .inr h1
theorem bstring_calls (B b : Nat) (l : List UInt8) (w : World) (h : Bld B b l w) (hBw : B ≤ w.heap.size) :
    Calls Tryz.prog 146 #[.pointer (some ⟨b, 0, none⟩)] w fun e w' => e = .returned (.string ⟨l.toArray⟩) ∧ Bld B b l w' ∧ Below B w w' ∧ Lib.OthersKept 5 (some b) w w' :=
  Any.Builder_String_any_k Tryz.lays169 Tryz.Builder_Extra_169 B b l w h hBw
theorem bld_keep {B b : Nat} {l : List UInt8} {W W' : World} (h : Bld B b l W) (hk : ∀ (k : Nat) (c : Array Value) (t : TypeId) (fz : Nat × Nat), W.heap[k]? = some (Obj.cells c t fz) → W'.heap[k]? = some (Obj.cells c t fz)) : Bld B b l W' := by
  have key : ∀ p, Lib.BuilderAtF 171 5 B b p (Lib.byteCells l) W → Lib.BuilderAtF 171 5 B b p (Lib.byteCells l) W' := by
    rintro p ⟨h1, v, h2, h3, h4⟩
    refine ⟨h1, v, hk _ _ _ _ h2, ⟨h3.1, ?_⟩, h4⟩
    rcases h3.2 with h5 | ⟨g, cap, cur, fz, e1, e2, e3, e4⟩
    · exact .inl h5
    · exact .inr ⟨g, cap, cur, fz, e1, e2, hk _ _ _ _ e3, e4⟩
  rcases h with h | h
  · exact .inl (key _ h)
  · exact .inr (key _ h)
theorem bld_new (w : World) : Bld w.heap.size w.heap.size [] (w.alloc (.cells #[.pointer none, .slice none 0 0] 171)) := by
  refine .inl ⟨Nat.le_refl _, .slice none 0 0, heap_alloc_new w _, ⟨by simp [Lib.byteCells], .inl ⟨rfl, by simp [Lib.byteCells]⟩⟩, by simp [Value.ownBlock]⟩
/-- Between two rounds of text. -/
structure TxM (w : World) (N B : Nat) (A : Option Addr) (c m : Nat) (l : List UInt8) (rec : Loop) (W : World) : Prop where
  bld : Bld N N l W
  src : W.heap[B]? = some (.cells #[.slice A m c] 92 (0, 0))
  dfr : W.heap[B + 1]? = some (.deferred (some []))
  rcd : W.heap[B + 1 + 1]? = some (.loop rec)
  bel : Below N w W
  nb : N < B
  nw : w.heap.size = N
theorem TxM.lt {w : World} {N B : Nat} {A : Option Addr} {c m : Nat} {l : List UInt8} {rec : Loop} {W : World} (h : TxM w N B A c m l rec W) : B + 1 + 1 < W.heap.size := (Array.getElem?_eq_some_iff.1 h.rcd).1
theorem TxM.below {w : World} {N B : Nat} {A : Option Addr} {c m : Nat} {l : List UInt8} {rec : Loop} {W W' : World} (h : TxM w N B A c m l rec W) (hb : Below W.heap.size W W') : TxM w N B A c m l rec W' := by
  have hl := h.lt
  have hs := h.bel.size
  have hnw := h.nw
  exact ⟨bld_keep h.bld fun k c t fz e => (hb.block k (Array.getElem?_eq_some_iff.1 e).1).trans e, (hb.block _ (by omega)).trans h.src, (hb.block _ (by omega)).trans h.dfr, (hb.block _ hl).trans h.rcd, h.bel.trans (hb.mono (by omega)), h.nb, h.nw⟩
theorem TxM.write {w : World} {N B : Nat} {A : Option Addr} {c m : Nat} {l l' : List UInt8} {rec : Loop} {W W' : World} (h : TxM w N B A c m l rec W) (h1 : Bld N N l' W') (h2 : Below N W W') (h3 : Lib.OthersKept 5 (some N) W W') : TxM w N B A c m l' rec W' := by
  have hn := h.nb
  exact ⟨h1, h3 _ _ h.src (by simp; omega) (fun c fz e => by cases e), h3 _ _ h.dfr (by simp; omega) (fun c fz e => by cases e), h3 _ _ h.rcd (by simp; omega) (fun c fz e => by cases e), h.bel.trans h2, h.nb, h.nw⟩
theorem TxM.same {w : World} {N B : Nat} {A : Option Addr} {c m : Nat} {l : List UInt8} {rec rec' : Loop} {W W' : World} (h : TxM w N B A c m l rec W) (hs : SameBut (B + 1 + 1) W W') (hl : W'.heap[B + 1 + 1]? = some (.loop rec')) : TxM w N B A c m l rec' W' := by
  have hn := h.nb
  exact ⟨bld_keep h.bld fun k c t fz e => (hs.heap k (fun ek => by subst ek; rw [h.rcd] at e; cases e)).trans e, (hs.heap _ (by omega)).trans h.src, (hs.heap _ (by omega)).trans h.dfr, hl, h.bel.trans (hs.below (by omega)), h.nb, h.nw⟩
theorem getD_snoc (ys : List Int) (x : Int) : (ys ++ [x]).getD ys.length 0 = x := by simp [List.getD]
theorem getD_left {ys zs : List Int} {i : Nat} (h : i < ys.length) : (ys ++ zs).getD i 0 = ys.getD i 0 := by simp [List.getD, List.getElem?_append_left h]
theorem rep_zero : ∀ k : Nat, Lib.repeatL [48] k = List.replicate k 48
  | 0 => rfl
  | k + 1 => by rw [Lib.repeatL, rep_zero k, List.replicate_succ]; rfl
theorem TxM.new {w w2 : World} {N : Nat} {A : Option Addr} {c m : Nat} {l : List UInt8} {rec : Loop} {W : World} (hW : ((w2.alloc (.cells #[.slice A m c] 92)).alloc (.deferred (some []))).alloc (.loop rec) = W) (h1 : Bld N N l w2) (h2 : Below N w w2) (hN : w.heap.size = N) (hlt : N < w2.heap.size) :
    TxM w N w2.heap.size A c m l rec W := by
  obtain ⟨a, b, d, e, f⟩ := allocs3 w2 (.cells #[.slice A m c] 92) (.deferred (some [])) (.loop rec)
  subst hW
  have hb : Below w2.heap.size w2 (((w2.alloc (.cells #[.slice A m c] 92)).alloc (.deferred (some []))).alloc (.loop rec)) := (((Below.refl _ _).alloc (Nat.le_refl _) _).alloc (by simp) _).alloc (by simp; omega) _
  exact ⟨bld_keep h1 fun k c t fz e => (hb.block k (Array.getElem?_eq_some_iff.1 e).1).trans e, a, b, d, h2.trans (hb.mono (by omega)), hlt, hN⟩
set_option maxRecDepth 100000 in
set_option maxHeartbeats 1000000 in
theorem text_in (F : Fence) (n : Nat) (hro : F.round = none) (hF : ∀ f, F.fn f) (hC : ∀ {m f : Nat} {args : Array Value} {w : World} {R : Ending → World → Prop}, Calls Tryz.prog f args w R → CallsIn F m Tryz.prog f args w R) (hn : 5 ≤ n)
    (A : Option Addr) (L c : Nat) (ys : List Int) (xn : Nat) (hL : L = ys.length + 1) (hlen : L ≤ 100000) (hLc : L ≤ c) (hlx : Lim 1000000000 (ys ++ [(xn : Int)])) (hnx : Norm (ys ++ [(xn : Int)])) (w : World) (ht : Tab w) (hx : Kd.C (Kd.int .u64) w A (ys ++ [(xn : Int)]).length (ys ++ [(xn : Int)])) :
    CallsIn F n Tryz.prog 121 #[.slice A L c] w fun e W => e = .returned (.string ⟨(textOf (ys ++ [(xn : Int)]) 0).toArray⟩) ∧ Below w.heap.size w W := by
  have h1 : 1 ≤ n := by omega
  have hxl : (ys ++ [(xn : Int)]).length = ys.length + 1 := by simp
  have htop := textOf_top (xs := ys ++ [(xn : Int)]) (m := ys.length) hxl
  rw [getD_snoc, Int.toNat_natCast] at htop
  have hxr := (lim_snoc.1 hlx).2
  have hB0 : Below w.heap.size w (w.alloc (.cells #[.pointer none, .slice none 0 0] 171)) := (Below.refl _ w).alloc (Nat.le_refl _) _
  obtain ⟨ad, e, hxc⟩ := Kd.at_int (Kd.C_below hx hB0) (ys.length : Int) (by omega) (by rw [hxl]; omega)
  subst e
  rw [rd_nat, Int.toNat_natCast, getD_snoc] at hxc
  have hcy : Kd.C (Kd.int .u64) w (some ad) ys.length ys := by
    have := Kd.C_take (m := ys.length) hx (by simp)
    rw [List.take_left] at this
    exact this
  have HX := Lib.hid hcy
  have HL := Lib.hid (And.intro hlx (And.intro hnx (And.intro htop hxr)))
  have HT := Lib.hid ht
  have c1 : ((L : Int) == 0) = false := by simp; omega
  have e1 : (L : Int) - 1 = (ys.length : Int) := by omega
  have m0 : (0 : Int) ≤ (ys.length : Int) := by omega
  have m1 : (ys.length : Int) < (L : Int) := by omega
  have m2 : (ys.length : Int) ≤ (c : Int) := by omega
  have HFu := Lib.hid (fun (xn : Nat) (h : (xn : Int) < 1000000000) (W : World) (hw : Tab W) => fmtu_calls xn (by omega) W hw)
  have HB0 := Lib.hid hB0
  clear hx hlx hnx hxl ht htop hxr hcy hB0 hL
  (refine callsIn_of_wp_marks Tryz.func121 rfl (hF _) ?_ hro; simp only [Tryz.ntmps121, List.size_toArray, List.length_cons, List.length_nil, Nat.reduceAdd, Nat.reduceSub, Array.replicate_succ, Array.replicate_zero, List.push_toArray, List.append_toArray, List.nil_append, List.cons_append])
  gi_wp2_with fail
  refine (hC (HFu.out xn HL.out.2.2.2.2 _ (HT.out.below HB0.out))).mono ?_
  rintro e w1 ⟨rfl, hb1⟩
  have hbl1 : Bld w.heap.size w.heap.size [] w1 := bld_keep (bld_new w) fun k c t fz e => (hb1.block k (Array.getElem?_eq_some_iff.1 e).1).trans e
  have hsz1 : w.heap.size < w1.heap.size := by have := hb1.size; simp at this; omega
  have H1 := Lib.hid (And.intro hbl1 (And.intro (HB0.out.trans (hb1.mono (by simp))) hsz1))
  clear hb1 hbl1 hsz1
  gi_wp2_with fail
  refine (hC (write_calls w.heap.size w.heap.size [] (nstr xn) w1 H1.out.1 (by have h := HL.out.2.2.2.2; have := (decDigits_length_le (n := xn) (k := 9) (by omega)).2 (by omega); rw [← list_length, nstr_list]; simp; omega) (Nat.le_of_lt H1.out.2.2))).mono ?_
  rintro e w2 ⟨rfl, hb, hbe, hot⟩
  have H2 := Lib.hid (And.intro hb (And.intro (H1.out.2.1.trans hbe) (Nat.lt_of_lt_of_le H1.out.2.2 hbe.size)))
  clear hb hbe hot
  gi_wp2_with fail
  refine (hC (backward_calls (some ad) ys.length c _)).mono ?_
  rintro e w3 ⟨rfl, rfl⟩
  gi_wp2_with fail
  refine range_in hro h1 (hF _) rfl (enters_of Tryz.func154 (by kernel_rfl) rfl) ?_
  intro fn hfn
  simp only [World.size_alloc, List.append_toArray, List.cons_append, List.nil_append]
  generalize hrec : loopRec fn _ _ _ _ _ _ _ = rec
  generalize hW1 : World.alloc _ (.loop rec) = W1
  obtain ⟨B, hB⟩ : ∃ B, w2.heap.size = B := ⟨_, rfl⟩
  have hM := TxM.new hW1 H2.out.1 H2.out.2.1 rfl H2.out.2.2
  rw [List.nil_append, nstr_list, ← HL.out.2.2.1, hB] at hM
  clear hW1
  have Hrec := Lib.hid hrec
  clear hrec
  rw [hB]
  rw [hB] at Hrec
  refine (backward_in F (n - 1) hro hF (by omega) _ _ c (some ad) ys (by omega) (fun i W => TxM w w.heap.size B (some ad) c ys.length (textOf (ys ++ [(xn : Int)]) i) rec W) (fun W => False)
    (fun i W h => ⟨h.src, Kd.C_below HX.out h.bel⟩) ?round W1 hM).mono ?done
  case round =>
    rintro i W hi hJ
    have er := Hrec.out
    subst er
    have hxr := lim_getD b9 (lim_append.1 HL.out.1).1 i
    have hst := textOf_step (xs := ys ++ [(xn : Int)]) (i := i) (by simp; omega) HL.out.1 HL.out.2.1
    rw [getD_left hi] at hst
    obtain ⟨xi, hxi⟩ : ∃ xi, ys.getD i 0 = xi := ⟨_, rfl⟩
    rw [hxi] at hst hxr ⊢
    obtain ⟨xk, rfl⟩ := Int.eq_ofNat_of_zero_le hxr.1
    rw [Int.toNat_natCast, padded] at hst
    have HJ := Lib.hid hJ
    have hxr2 := hxr.2
    have hsz9 : (nstr xk).size ≤ 9 := by
      rw [← list_length, nstr_list]
      exact (decDigits_length_le (by omega)).2 (by omega)
    have htl : (textOf (ys ++ [(xn : Int)]) (i + 1)).length ≤ 1000000 := by
      have := textOf_len (i + 1) HL.out.1
      rw [List.length_append] at this; simp at this; omega
    obtain ⟨q, hq⟩ : ∃ q : Nat, (9 : Int) - ((nstr xk).size : Int) = (q : Int) := ⟨9 - (nstr xk).size, by omega⟩
    have hq9 : 9 - (decDigits xk).length = q := by rw [← list_length, nstr_list] at hq; omega
    rw [hq9] at hst
    have hq10 : q ≤ 9 := by omega
    clear hq9
    have HTL := Lib.hid htl
    have HST := Lib.hid hst
    clear hst hJ hxr hxi htl
    refine yield_round2 (hF _) HJ.out.rcd rfl rfl { tmps := #[.slice (some ad) L c, undef, .string ⟨#[]⟩, .pointer (some ⟨w.heap.size, 0, none⟩), undef, .int .u64 xk, undef, .slice (some ad) L c, .int .i64 L, .bool false, .slice (some ad) L c, .slice (some ad) L c, .int .i64 L, .int .i64 ys.length, .pointer (some (ad.add ys.length)), .int .u64 xn, .string (nstr xn), .tuple #[.int .i64 (nstr xn).size, .nilIface], .slice (some ad) L c, .slice (some ad) L c, .int .i64 L, .int .i64 ys.length, .slice (some ad) ys.length c, .func (.func 154) #[] #[.pointer (some ⟨B, 0, none⟩)], .int .i64 i, .int .u64 xk, undef, undef, undef, undef, undef, undef, undef, undef, undef, undef], defers := [] } ?_ ?_
    · intro K hK
      gi_wp2
      exact hK
    · intro W2 hsb hl2
      have H3 := Lib.hid (HJ.out.same hsb hl2)
      clear hsb hl2
      gi_wp2_with fail
      refine ⟨fun _ => by omega, ((hC (HFu.out xk hxr2 W2 (HT.out.below (H3.out.nw ▸ H3.out.bel)))).inRound _).mono ?_⟩
      rintro e W3 ⟨rfl, hb⟩
      have H4 := Lib.hid (H3.out.below hb)
      clear hb
      gi_wp2_with fail
      refine ⟨fun _ => by omega, ((hC (Tryz.strings_Repeat ⟨#[48]⟩ q W3 (by omega) (by show 1 * q ≤ _; omega))).inRound _).mono ?_⟩
      rintro e W4 ⟨rfl, hb⟩
      have H5 := Lib.hid (H4.out.below hb)
      clear hb
      rw [show Lib.repeatL (⟨#[48]⟩ : ByteArray).data.toList q = List.replicate q 48 from rep_zero q]
      gi_wp2_with fail
      refine ⟨fun _ => by omega, ((hC (write_calls w.heap.size w.heap.size _ ⟨(List.replicate q 48).toArray⟩ W4 H5.out.bld (by have := HTL.out; have e : (⟨(List.replicate q (48 : UInt8)).toArray⟩ : ByteArray).size = q := (by rw [← list_length]; simp); rw [e]; omega) (by have := H5.out.lt; have := H5.out.nb; omega))).inRound _).mono ?_⟩
      rintro e W5 ⟨rfl, h1, h2, h3⟩
      have H6 := Lib.hid (H5.out.write h1 h2 h3)
      clear h1 h2 h3
      gi_wp2_with fail
      refine ⟨fun _ => by omega, ((hC (write_calls w.heap.size w.heap.size _ (nstr xk) W5 H6.out.bld (by have := HTL.out; simp; omega) (by have := H6.out.lt; have := H6.out.nb; omega))).inRound _).mono ?_⟩
      rintro e W6 ⟨rfl, h1, h2, h3⟩
      rw [List.append_assoc, nstr_list, ← HST.out] at h1
      have H7 := Lib.hid (H6.out.write h1 h2 h3)
      clear h1 h2 h3
      gi_wp2_with fail
      refine round_ends2 H7.out.rcd ?_
      intro W' hs' hl'
      exact .inl ⟨rfl, H7.out.same hs' hl'⟩
  case done =>
    rintro e W ⟨⟨v, rfl⟩, (hJ | h)⟩
    · have HJ := Lib.hid hJ
      refine range_done (r := rec) hJ.rcd (by rw [← Hrec.out]) (by rw [← Hrec.out]) ?_
      obtain ⟨W3, hW3⟩ : ∃ W3, W.putObj (B + 1 + 1) (.loop { rec with state := .exhausted }) = W3 := ⟨_, rfl⟩
      have h3 := hJ.same (hW3 ▸ SameBut.put W (B + 1 + 1) (.loop { rec with state := .exhausted })) (hW3 ▸ World.putObj_heap_same hJ.lt)
      have H3 := Lib.hid h3
      clear hJ h3
      rw [hW3]
      clear hW3
      gi_wp2_with fail
      refine (hC (bstring_calls w.heap.size w.heap.size _ W3 H3.out.bld (by have := H3.out.lt; have := H3.out.nb; omega))).mono ?_
      rintro e W4 ⟨rfl, h1, h2, h3⟩
      have H4 := Lib.hid (H3.out.write h1 h2 h3)
      clear h1 h2 h3
      gi_wp2_with fail
      refine ⟨by simp, .inl ⟨_, _, rfl, run_takeDeferred H4.out.dfr, ?_⟩⟩
      refine ⟨_, results_tmp (t := 2) rfl _ _ _, rfl, ?_⟩
      exact H4.out.bel.grown (grownBy_putObj' _ _ _) (by have := H4.out.bel.size; omega) (fun k e => by cases e; have := H4.out.nb; omega)
    · exact h.elim
end Go.Proofs.CW
namespace Go.Proofs.CW

/-- A number that has numerators and denominators of at most k digits. -/
def Q (k : Nat) (r : Rat) : Prop := ∃ n d : Nat, d ≠ 0 ∧ n < pow10 k ∧ d < pow10 k ∧ r = (n : Rat) / (d : Rat)
theorem pow10_add (a b : Nat) : pow10 (a + b) = pow10 a * pow10 b := by unfold pow10; exact Nat.pow_add 10 a b
theorem pow10_one : pow10 1 = 10 := by unfold pow10; rfl
theorem pow10_pos (a : Nat) : 0 < pow10 a := by unfold pow10; exact Nat.pow_pos (by omega)
theorem pow10_mono {a b : Nat} (h : a ≤ b) : pow10 a ≤ pow10 b := by unfold pow10; exact Nat.pow_le_pow_right (by omega) h
theorem mul_lt_mul {a b c d : Nat} (h1 : a < c) (h2 : b < d) : a * b < c * d := by
  have h3 : a * b ≤ a * d := Nat.mul_le_mul_left _ (by omega)
  have h4 : a * d < c * d := Nat.mul_lt_mul_of_pos_right h1 (by omega)
  omega
theorem Q.mono {a b : Nat} {r : Rat} (h : Q a r) (hab : a ≤ b) : Q b r := by
  obtain ⟨n, d, h1, h2, h3, h4⟩ := h
  have := pow10_mono hab
  exact ⟨n, d, h1, by omega, by omega, h4⟩
theorem Q.fits {a : Nat} {r : Rat} (h : Q a r) (ha : a ≤ 600) : fits r = true := by
  obtain ⟨n, d, h1, h2, h3, rfl⟩ := h.mono ha
  exact fits_quot h1 (by rw [big_eq]; exact h2) (by rw [big_eq]; exact h3)
theorem Q.add {a b : Nat} {r s : Rat} (hr : Q a r) (hs : Q b s) : Q (a + b + 1) (r + s) := by
  obtain ⟨n, d, h1, h2, h3, rfl⟩ := hr
  obtain ⟨m, e, k1, k2, k3, rfl⟩ := hs
  refine ⟨n * e + m * d, d * e, Nat.mul_ne_zero h1 k1, ?_, ?_, ?_⟩
  · have a1 := mul_lt_mul h2 k3
    have a2 := mul_lt_mul k2 h3
    rw [Nat.mul_comm (pow10 b)] at a2
    rw [pow10_add, pow10_add]
    have : pow10 1 = 10 := by unfold pow10; rfl
    rw [this]; omega
  · have a1 := mul_lt_mul h3 k3
    rw [pow10_add, pow10_add]
    have : pow10 1 = 10 := by unfold pow10; rfl
    rw [this]; omega
  · have h5 := natCast_ne h1
    have h6 := natCast_ne k1
    simp only [Rat.natCast_mul, Rat.natCast_add]
    grind
theorem Q.mul {a b : Nat} {r s : Rat} (hr : Q a r) (hs : Q b s) : Q (a + b) (r * s) := by
  obtain ⟨n, d, h1, h2, h3, rfl⟩ := hr
  obtain ⟨m, e, k1, k2, k3, rfl⟩ := hs
  refine ⟨n * m, d * e, Nat.mul_ne_zero h1 k1, by rw [pow10_add]; exact mul_lt_mul h2 k2, by rw [pow10_add]; exact mul_lt_mul h3 k3, ?_⟩
  simp only [Rat.natCast_mul]
  grind
theorem Q.nat {k n : Nat} (h : n < pow10 k) (hk : 1 ≤ k) : Q k (n : Rat) := by
  refine ⟨n, 1, by omega, h, ?_, by rw [show ((1 : Nat) : Rat) = 1 from rfl]; grind⟩
  have := pow10_mono hk
  have h1 : pow10 1 = 10 := by unfold pow10; rfl
  omega
theorem Q.zero {k : Nat} (hk : 1 ≤ k) : Q k 0 := Q.nat (n := 0) (pow10_pos k) hk
theorem Q.one {k : Nat} (hk : 1 ≤ k) : Q k 1 := Q.nat (n := 1) (by have := pow10_mono hk; have h1 := pow10_one; omega) hk
theorem Q.rat {p : PS} (h : okP p = true) {k : Nat} (h1 : p.1.size ≤ k) (h2 : p.2.size ≤ k) : Q k (rat p) := by
  obtain ⟨⟨h3, h4⟩, h5, _⟩ := okP_iff.1 h
  exact ⟨_, _, h5, nval_lt_size h3 h1, nval_lt_size h4 h2, rfl⟩
/-- A valid part is the strings of its number. -/
structure Is (p : PS) (r : Rat) : Prop where
  ok : okP p = true
  eq : rat p = r
theorem Is.of {p : PS} (h : okP p = true) : Is p (rat p) := ⟨h, rfl⟩
theorem Is.ps {p : PS} {r : Rat} (h : Is p r) : p = ps r := by rw [← h.eq, ps_rat h.ok]
theorem Is.mk_fits {r : Rat} (h : 0 ≤ r) (hf : CW.fits r = true) : Is (CW.ps r) r := ⟨by rw [okP_ps h]; exact hf, rat_ps h⟩
theorem Is.inj {p q : PS} {r : Rat} (h : Is p r) (h2 : Is q r) : p = q := by rw [h.ps, h2.ps]
theorem mkR_is {r : Rat} (h : 0 ≤ r) : (∃ p, mkR r = (p, 0) ∧ Is p r) ∨ mkR r = no 4 := by
  unfold mkR
  by_cases hf : fits r = true
  · rw [if_pos hf]; exact .inl ⟨_, rfl, Is.mk_fits h hf⟩
  · rw [if_neg hf]; exact .inr rfl
/-- Zero and one as parts. -/
def p0 : PS := (s0, s1)
def p1 : PS := (s1, s1)
theorem big_pos : 0 < big := by rw [big_eq]; exact pow10_pos 600
theorem one_lt_big : 1 < big := by have := pow10_mono (show 1 ≤ 600 by omega); have h1 := pow10_one; rw [big_eq]; omega
theorem is_nat {n : Nat} (h : n < big) : Is (nstr n, s1) (n : Rat) := by
  refine ⟨okP_iff.2 ⟨⟨okN_nstr.2 h, by rw [← nstr_one]; exact okN_nstr.2 one_lt_big⟩, by rw [nval_s1]; omega, by rw [nval_s1, Nat.gcd_one_right]⟩, ?_⟩
  unfold CW.rat
  rw [nval_nstr, nval_s1, show ((1 : Nat) : Rat) = 1 from rfl]; grind
theorem is_p0 : Is p0 0 := by have := is_nat big_pos; rw [nstr_zero] at this; exact this
theorem is_p1 : Is p1 1 := by have := is_nat one_lt_big; rw [nstr_one] at this; exact this
/-- A result without an error, or the error. -/
def toE (r : Res) : Except Int PS := if r.2 = 0 then .ok r.1 else .error r.2
def sumE (l : List PS) : Except Int PS := l.foldlM (fun s p => toE (addR s p)) p0
def shareE (l : List PS) (all : PS) : Except Int (List PS) := if all.1 = s0 then .error 7 else l.mapM (fun p => toE (divR p all))
def prodE : List PS → List PS → Except Int (List PS)
  | p :: a, q :: b => do let x ← toE (mulR p q); let l ← prodE a b; pure (x :: l)
  | _, _ => pure []
def updE (a b : List PS) : Except Int (List PS × PS) := do let l ← prodE a b; let all ← sumE l; let s ← shareE l all; pure (s, all)
/-- The errors of a list, of two lists. -/
def listR (l : List PS) : Int := if 512 < l.length then 3 else if l.all okP then 0 else 2
def listsR (a b : List PS) : Int := if 512 < a.length ∨ 512 < b.length then 3 else if a.all okP && b.all okP then (if a.length = b.length then 0 else 2) else 2
def unE (r : Except Int PS) : Res := match r with | .ok s => (s, 0) | .error e => no e
def sumR (l : List PS) : Res := if listR l = 0 then unE (sumE l) else no (listR l)
def unL (r : Except Int (List PS)) : List PS × Int := match r with | .ok s => (s, 0) | .error e => ([], e)
def shareR (l : List PS) : List PS × Int := if listR l = 0 then unL (do let s ← sumE l; shareE l s) else ([], listR l)
def updR (a b : List PS) : List PS × PS × Int := if listsR a b = 0 then (match updE a b with | .ok (s, x) => (s, x, 0) | .error e => ([], (⟨#[]⟩, ⟨#[]⟩), e)) else ([], (⟨#[]⟩, ⟨#[]⟩), listsR a b)
def meanR (a b : List PS) : Res := if listsR a b = 0 then unE (do let l ← prodE a b; sumE l) else no (listsR a b)
end Go.Proofs.CW
namespace Go.Proofs.CW
open Go.RowKit Go.Shelf Go.Sort Go.Lib Go.Proofs.YtjfclkbdkafkcaaGreatDoorW.PrintWords Go.Proofs.YtjfclkbdkafkcaaGreatDoor.PF
attribute [local go_sem] Oper.semAt_some

set_option maxRecDepth 100000 in
set_option maxHeartbeats 400000 in
theorem text_nil_in (F : Fence) (n : Nat) (hro : F.round = none) (hF : ∀ f, F.fn f) (hn : 5 ≤ n) (A : Option Addr) (c : Nat) (w : World) : CallsIn F n Tryz.prog 121 #[.slice A 0 c] w fun e W => e = .returned (.string s0) ∧ Below w.heap.size w W := by
  (refine callsIn_of_wp_marks Tryz.func121 rfl (hF _) ?_ hro; simp only [Tryz.ntmps121, List.size_toArray, List.length_cons, List.length_nil, Nat.reduceAdd, Nat.reduceSub, Array.replicate_succ, Array.replicate_zero, List.push_toArray, List.append_toArray, List.nil_append, List.cons_append])
  gi_wp2_with fail
  exact ⟨_, results_tmp (t := 2) rfl _ _ _, rfl, Below.refl _ _⟩
theorem text_calls (u : Value) (a : Nat) (w : World) (ha : Num w u a) (hA : Fits 1000 a) (ht : Tab w) :
    Calls Tryz.prog 121 #[u] w fun e W => e = .returned (.string (nstr a)) ∧ Below w.heap.size w W := by
  obtain ⟨xs, h1, h2, h3, h4⟩ := ha.ex
  obtain ⟨A, c, rfl⟩ := Kd.V_slice h1
  have hl1 : xs.length ≤ 1000 := length_le_of_lt b9 h2 h3 (by rw [h4]; exact hA.out)
  have hr := Kd.V_reads' h1
  by_cases hne : xs = []
  · subst hne
    have : a = 0 := by simp [lv] at h4; omega
    subst this
    rw [nstr_zero]
    exact callsIn_wide.1 (text_nil_in Fence.wide 9 rfl (fun _ => trivial) (by omega) A c w)
  · obtain ⟨ys, y, rfl⟩ := snoc_of_ne hne
    have hy := (lim_snoc.1 h2).2
    obtain ⟨yn, rfl⟩ := Int.eq_ofNat_of_zero_le hy.1
    have := callsIn_wide.1 (text_in Fence.wide 9 rfl (fun _ => trivial) (fun h => callsIn_wide.2 h) (by omega) A (ys.length + 1) c ys yn rfl (by simp at hl1; omega) (by have := hr.2.1; simpa using this) h2 h3 w ht hr.2.2)
    rw [textOf_all h4] at this
    rw [List.length_append, List.length_singleton]
    exact this
set_option maxRecDepth 100000 in
theorem digits_calls (u : Value) (a : Nat) (w : World) (ha : Num w u a) (hA : Fits 1000 a) (ht : Tab w) :
    Calls Tryz.prog 105 #[u] w fun e W => e = .returned (.int .i64 (nstr a).size) ∧ Below w.heap.size w W := by
  have H := Lib.hid (text_calls u a w ha hA ht)
  clear ha hA ht
  go_enter Tryz.func105, Tryz.ntmps105
  go_wp2_with fail
  refine H.out.mono ?_
  rintro e W ⟨rfl, hb⟩
  have HB := Lib.hid hb
  clear hb
  go_wp2_with fail
  go_ret
  exact ⟨rfl, HB.out⟩
end Go.Proofs.CW
namespace Go.Proofs.CW
open Go.RowKit Go.Shelf Go.Sort Go.Lib Go.Proofs.YtjfclkbdkafkcaaGreatDoorW.PrintWords Go.Proofs.YtjfclkbdkafkcaaGreatDoor.PF
attribute [local go_sem] Oper.semAt_some

/-- A part, and a result, as values. -/
abbrev pv (p : PS) : Value := .agg #[.string p.1, .string p.2]
abbrev rv (r : Res) : Value := .tuple #[pv r.1, .int .i64 r.2]
theorem bcell {W W1 : World} (hb : Below W.heap.size W W1) : (∀ b o, b < W.heap.size → W1.cell? ⟨b, o, none⟩ = W.cell? ⟨b, o, none⟩) ∧ (∀ b o, b < W.heap.size → W1.frozen? ⟨b, o, none⟩ = W.frozen? ⟨b, o, none⟩) :=
  ⟨fun b o h => hb.cell (p := ⟨b, o, none⟩) h, fun b o h => hb.frozen (p := ⟨b, o, none⟩) h⟩
/-- A cell that holds a part. -/
def PB (W : World) (g : Nat) (p : PS) : Prop := W.heap[g]? = some (.cells #[.string p.1, .string p.2] 24 (0, 0))
theorem PB.below {W W' : World} {g : Nat} {p : PS} (h : PB W g p) (hb : Below W.heap.size W W') : PB W' g p := (hb.block _ (Array.getElem?_eq_some_iff.1 h).1).trans h
theorem PB.alloc {W : World} {g : Nat} {p : PS} (h : PB W g p) (o : Obj) : PB (W.alloc o) g p := h.below ((Below.refl _ _).alloc (Nat.le_refl _) _)
theorem PB.new (W : World) (s t : ByteArray) : PB (W.alloc (.cells #[.string s, .string t] 24)) W.heap.size (s, t) := heap_alloc_new W _
theorem PB.set {W : World} {g : Nat} {p : PS} (h : PB W g p) (s t : ByteArray) : PB ((W.setCell ⟨g, 0, none⟩ (.string s)).setCell ⟨g, 1, none⟩ (.string t)) g (s, t) := by
  have h1 := blk_set h 0 (.string s)
  have h2 := blk_set h1 1 (.string t)
  exact h2
theorem PB.cell {W : World} {g : Nat} {p : PS} (h : PB W g p) : W.cell? ⟨g, 0, none⟩ = some (.string p.1) ∧ W.cell? ⟨g, 1, none⟩ = some (.string p.2) ∧ W.frozen? ⟨g, 0, none⟩ = false ∧ W.frozen? ⟨g, 1, none⟩ = false := by
  have h0 := blk_cell h 0
  have h1 := blk_cell h 1
  exact ⟨h0, h1, blk_frozen h 0, blk_frozen h 1⟩
theorem results_pb {fn : Func} {t u : Tmp} (hr : fn.results = #[.cell t 24, .tmp u]) (tmps : Array Value) {W : World} {g : Nat} {p : PS} (ht : tmps.getD t undef = .pointer (some ⟨g, 0, none⟩)) (h : PB W g p) :
    (results fn tmps).run Tryz.prog W = .ok (.tuple #[pv p, tmps.getD u undef]) W := by
  obtain ⟨h0, h1, _, _⟩ := h.cell
  have ht' : tmps[t]?.getD undef = .pointer (some ⟨g, 0, none⟩) := by simpa using ht
  simp [results, hr, go_sem, ht', h0, h1]
theorem gcd_pos {n d : Nat} (hd : d ≠ 0) : 0 < Nat.gcd n d := Nat.gcd_pos_of_pos_right _ (Nat.pos_of_ne_zero hd)
set_option maxRecDepth 100000 in
set_option maxHeartbeats 1000000 in
theorem part_calls (u v : Value) (n d : Nat) (w : World) (ha : Num w u n) (hb : Num w v d) (h0 : d ≠ 0) (hA : Fits 1000 n) (hB : Fits 1000 d) (ht : Tab w) :
    Calls Tryz.prog 65 #[.agg #[u, v]] w fun e W => e = .returned (rv (mkR ((n : Rat) / (d : Rat)))) ∧ Below w.heap.size w W := by
  have HA := Lib.hid (And.intro ha (And.intro hb (And.intro h0 (And.intro hA (And.intro hB ht)))))
  clear ha hb h0 hA hB ht
  go_enter Tryz.func65, Tryz.ntmps65
  go_wp2_with fail
  refine (gcd_calls u v n d _ (HA.out.1.below ?_) (HA.out.2.1.below ?_) HA.out.2.2.2.1 HA.out.2.2.2.2.1).mono ?_
  · exact ((Below.refl _ w).alloc (Nat.le_refl _) _).alloc (by simp) _
  · exact ((Below.refl _ w).alloc (Nat.le_refl _) _).alloc (by simp) _
  rintro e w1 ⟨g, rfl, hg, hb⟩
  obtain ⟨hc1, hf1⟩ := bcell hb
  have P1 := Lib.hid (show PB w1 (w.heap.size + 1) (⟨#[]⟩, ⟨#[]⟩) from by have := (PB.new (w.alloc (.cells #[u, v] 94)) ⟨#[]⟩ ⟨#[]⟩).below hb; rw [World.size_alloc] at this; exact this)
  have hz1 : w.heap.size + 1 < w1.heap.size := by have := hb.size; simp at this; omega
  have hz1a : w.heap.size < w1.heap.size := by omega
  have H1 := Lib.hid (And.intro hg (show Below w.heap.size w w1 from (((Below.refl _ w).alloc (Nat.le_refl _) _).alloc (by simp) _).trans (hb.mono (by simp; omega))))
  clear hg hb
  go_wp2_with fail
  refine (over_calls u g n _ w1 (HA.out.1.below H1.out.2) H1.out.1 (Nat.ne_of_gt (gcd_pos HA.out.2.2.1)) HA.out.2.2.2.1 (HA.out.2.2.2.2.1.le (Nat.le_of_dvd (Nat.pos_of_ne_zero HA.out.2.2.1) (Nat.gcd_dvd_right n d)))).mono ?_
  rintro e w2 ⟨q1, r1, rfl, ⟨hq, _⟩, hb⟩
  obtain ⟨hc2, hf2⟩ := bcell hb
  have P2 := Lib.hid (P1.out.below hb)
  have hz2 : w.heap.size + 1 < w2.heap.size := by have := hb.size; omega
  have hz2a : w.heap.size < w2.heap.size := by omega
  have H2 := Lib.hid (And.intro hq (And.intro (H1.out.1.below hb) (H1.out.2.trans (hb.mono (by omega)))))
  clear hq hb
  go_wp2_with fail
  refine (over_calls v g d _ w2 (HA.out.2.1.below H2.out.2.2) H2.out.2.1 (Nat.ne_of_gt (gcd_pos HA.out.2.2.1)) HA.out.2.2.2.2.1 (HA.out.2.2.2.2.1.le (Nat.le_of_dvd (Nat.pos_of_ne_zero HA.out.2.2.1) (Nat.gcd_dvd_right n d)))).mono ?_
  rintro e w3 ⟨q2, r2, rfl, ⟨hq, _⟩, hb⟩
  obtain ⟨hc3, hf3⟩ := bcell hb
  have P3 := Lib.hid (P2.out.below hb)
  have hz3 : w.heap.size + 1 < w3.heap.size := by have := hb.size; omega
  have hz3a : w.heap.size < w3.heap.size := by omega
  have H3 := Lib.hid (And.intro (H2.out.1.below hb) (And.intro hq (H2.out.2.2.trans (hb.mono (by omega)))))
  clear hq hb
  obtain ⟨e1, e2⟩ := quot_num (n := n) HA.out.2.2.1
  obtain ⟨a, ha⟩ : ∃ a, n / Nat.gcd n d = a := ⟨_, rfl⟩
  obtain ⟨b, hb⟩ : ∃ b, d / Nat.gcd n d = b := ⟨_, rfl⟩
  have hfa : Fits 1000 a := HA.out.2.2.2.1.le (by rw [← ha]; exact Nat.div_le_self _ _)
  have hfb : Fits 1000 b := HA.out.2.2.2.2.1.le (by rw [← hb]; exact Nat.div_le_self _ _)
  rw [ha] at e1 H3
  rw [hb] at e2 H3
  have HF := Lib.hid (And.intro e1 (And.intro e2 (And.intro hfa hfb)))
  have hps : ps ((n : Rat) / (d : Rat)) = (nstr a, nstr b) := by unfold ps; rw [e1, e2]
  have hres : mkR ((n : Rat) / (d : Rat)) = if a < big ∧ b < big then ((nstr a, nstr b), 0) else no 4 := by
    unfold mkR fits
    rw [e1, e2, hps]
    by_cases h : a < big ∧ b < big
    · rw [if_pos h, if_pos (by simp [h.1, h.2])]
    · rw [if_neg h, if_neg (by simpa using h)]
  have HR := Lib.hid hres
  clear e1 e2 ha hb hfa hfb hps hres
  obtain ⟨ka, hka⟩ : ∃ k, (nstr a).size = k := ⟨_, rfl⟩
  obtain ⟨kb, hkb⟩ : ∃ k, (nstr b).size = k := ⟨_, rfl⟩
  have hia := nstr_size (n := a)
  have hib := nstr_size (n := b)
  rw [hka] at hia
  rw [hkb] at hib
  have HK := Lib.hid (And.intro hka (And.intro hkb (And.intro hia hib)))
  clear hka hkb hia hib
  go_wp2_with fail
  refine (digits_calls q1 a w3 H3.out.1 HF.out.2.2.1 (HA.out.2.2.2.2.2.below H3.out.2.2)).mono ?_
  rintro e w4 ⟨rfl, hb⟩
  rw [HK.out.1]
  obtain ⟨hc4, hf4⟩ := bcell hb
  have P4 := Lib.hid (P3.out.below hb)
  have hz4 : w.heap.size + 1 < w4.heap.size := by have := hb.size; omega
  have hz4a : w.heap.size < w4.heap.size := by omega
  have H4 := Lib.hid (And.intro (H3.out.1.below hb) (And.intro (H3.out.2.1.below hb) (H3.out.2.2.trans (hb.mono (by omega)))))
  clear hb
  by_cases hbig : 600 < ka
  · have c1 : (600 : Int) < (ka : Int) := by omega
    have HE := Lib.hid (show mkR ((n : Rat) / (d : Rat)) = no 4 by rw [HR.out, if_neg (fun h => by have := HK.out.2.2.1.2 h.1; omega)])
    clear hbig
    go_wp2_with fail
    refine bodyPost_ret (results_pb rfl _ rfl (P4.out.set _ _)) rfl ⟨by rw [HE.out]; rfl, ?_⟩
    exact (H4.out.2.2.setCell (by simp) _).setCell (by simp) _
  · have c1 : ¬ (600 : Int) < (ka : Int) := by omega
    go_wp2_with fail
    refine (digits_calls q2 b w4 H4.out.2.1 HF.out.2.2.2 (HA.out.2.2.2.2.2.below H4.out.2.2)).mono ?_
    rintro e w5 ⟨rfl, hb⟩
    rw [HK.out.2.1]
    obtain ⟨hc5, hf5⟩ := bcell hb
    have P5 := Lib.hid (P4.out.below hb)
    have hz5 : w.heap.size + 1 < w5.heap.size := by have := hb.size; omega
    have hz5a : w.heap.size < w5.heap.size := by omega
    have H5 := Lib.hid (And.intro (H4.out.1.below hb) (And.intro (H4.out.2.1.below hb) (H4.out.2.2.trans (hb.mono (by omega)))))
    clear hb
    by_cases hbig2 : 600 < kb
    · have c1 : (600 : Int) < (kb : Int) := by omega
      have HE := Lib.hid (show mkR ((n : Rat) / (d : Rat)) = no 4 by rw [HR.out, if_neg (fun h => by have := HK.out.2.2.2.2 h.2; omega)])
      clear hbig2
      go_wp2_with fail
      refine bodyPost_ret (results_pb rfl _ rfl (P5.out.set _ _)) rfl ⟨by rw [HE.out]; rfl, ?_⟩
      exact (H5.out.2.2.setCell (by simp) _).setCell (by simp) _
    · have c2 : ¬ (600 : Int) < (kb : Int) := by omega
      have HE := Lib.hid (show mkR ((n : Rat) / (d : Rat)) = ((nstr a, nstr b), 0) by rw [HR.out, if_pos ⟨HK.out.2.2.1.1 (by omega), HK.out.2.2.2.1 (by omega)⟩])
      clear hbig2
      go_wp2_with fail
      refine (text_calls q1 a w5 H5.out.1 HF.out.2.2.1 (HA.out.2.2.2.2.2.below H5.out.2.2)).mono ?_
      rintro e w6 ⟨rfl, hb⟩
      obtain ⟨hc6, hf6⟩ := bcell hb
      have P6 := Lib.hid (P5.out.below hb)
      have hz6 : w.heap.size + 1 < w6.heap.size := by have := hb.size; omega
      have hz6a : w.heap.size < w6.heap.size := by omega
      have H6 := Lib.hid (And.intro (H5.out.2.1.below hb) (H5.out.2.2.trans (hb.mono (by omega))))
      clear hb
      go_wp2_with fail
      refine (text_calls q2 b w6 H6.out.1 HF.out.2.2.2 (HA.out.2.2.2.2.2.below H6.out.2)).mono ?_
      rintro e w7 ⟨rfl, hb⟩
      obtain ⟨hc7, hf7⟩ := bcell hb
      have P7 := Lib.hid (P6.out.below hb)
      have hz7 : w.heap.size + 1 < w7.heap.size := by have := hb.size; omega
      have hz7a : w.heap.size < w7.heap.size := by omega
      have H7 := Lib.hid (H6.out.2.trans (hb.mono (by omega)))
      clear hb
      go_wp2_with fail
      refine bodyPost_ret (results_pb rfl _ rfl (P7.out.set _ _)) rfl ⟨by rw [HE.out]; rfl, ?_⟩
      exact (H7.out.setCell (by simp) _).setCell (by simp) _
end Go.Proofs.CW
namespace Go.Proofs.CW
open Go.RowKit Go.Shelf Go.Sort Go.Lib Go.Proofs.YtjfclkbdkafkcaaGreatDoorW.PrintWords Go.Proofs.YtjfclkbdkafkcaaGreatDoor.PF
attribute [local go_sem] Oper.semAt_some

section
variable {P : Program} {md : Region.Mode} {ops : Array Oper} {Q : Exit → Act → World → Prop} {S : World → Prop} {T : Array Bool → Act → World → Prop}
/-- The one operation that may come up, a call by its contract. -/
theorem anyT_call {i fuel : Nat} {o : Oper} {listed : Array Bool} {a : Act} {w : World} (f : FuncId) (args : Array Value) (hr : Region.ready md ops listed = [i]) (hi : ops[i]? = some o)
    (hw : Region.wanted o (yielded ops a.tmps) = true) (he : (execOp a.eval o).run P w = .ok (.enter f args) w) (hc : Calls P f args w fun e w' => ∃ v, e = .returned v ∧ S w' ∧ wpAnyT P md ops Q S T fuel (listed.setIfInBounds i true) (a.put o.dst v) w') : wpAnyT P md ops Q S T (fuel + 1) listed a w := by
  refine ⟨by rw [hr]; simp, fun j hj => ?_⟩
  rw [hr, List.mem_singleton] at hj
  rw [hj]
  unfold wpOp
  simp only [hi, hw, if_true]
  refine .inl ?_
  unfold Oper.wp
  rw [he]
  exact hc.mono fun e w' ⟨v, h1, h2⟩ => by subst h1; exact h2
theorem put_some {d : Option Tmp} {t : Tmp} (h : d = some t) (a : Act) (v : Value) : a.put d v = { a with tmps := a.tmps.setIfInBounds t v } := by subst h; rfl
theorem T_take {n : Nat} (i : Nat) (t : Tmp) {oi : Oper} (v : Value) {fuel : Nat} {listed : Array Bool} {a : Act} {w : World} (hi : ops[i]? = some oi) (ht : oi.dst = some t)
    (hs : Region.noSelect ops = true) (hf : Region.free md ops listed i = true) (hr : (Region.ready md ops listed).contains i = true)
    (hQ : ∀ c a (d : Option Tmp) v w, Q (.panic c) (a.put d v) w → Q (.panic c) a w) (hlast : Region.waitsFor md ops n i = true) (hT : ∀ listed a w, T listed a w → ∀ j ∈ Region.ready md ops listed, j = n)
    (hS : S w) (hw : Region.wanted oi (yielded ops a.tmps) = true) (hy : ∀ w, S w → (execOp a.eval oi).run P w = .ok (.value v) w)
    (h : wpAnyT P md ops Q S T fuel (listed.setIfInBounds i true) { a with tmps := a.tmps.setIfInBounds t v } w) : wpAnyT P md ops Q S T (fuel + 1) listed a w :=
  wpAnyT_take i v hi hs hf hr hQ hlast hT hS hw hy (by rw [put_some ht]; exact h)
theorem T_call {fuel : Nat} (i : Nat) (t : Tmp) {o : Oper} {listed : Array Bool} {a : Act} {w : World} (f : FuncId) (args : Array Value) (hr : Region.ready md ops listed = [i]) (hi : ops[i]? = some o) (ht : o.dst = some t)
    (hw : Region.wanted o (yielded ops a.tmps) = true) (he : (execOp a.eval o).run P w = .ok (.enter f args) w) (hc : Calls P f args w fun e w' => ∃ v, e = .returned v ∧ S w' ∧ wpAnyT P md ops Q S T fuel (listed.setIfInBounds i true) { a with tmps := a.tmps.setIfInBounds t v } w') : wpAnyT P md ops Q S T (fuel + 1) listed a w :=
  anyT_call f args hr hi hw he (hc.mono fun e w' ⟨v, h1, h2, h3⟩ => ⟨v, h1, h2, by rw [put_some ht]; exact h3⟩)
/-- The last operation, a store. -/
theorem T_last {m : Nat} {o : Oper} {listed : Array Bool} {a : Act} {w : World} (w' : World) (hr : Region.ready md ops listed = [m]) (hi : ops[m]? = some o) (ht : o.dst = none)
    (hw : Region.wanted o (yielded ops a.tmps) = true) (he : (execOp a.eval o).run P w = .ok .skip w') (hr' : Region.ready md ops (listed.setIfInBounds m true) = []) (hq : Q .normal a w') : lastDone P ops Q md m listed a w :=
  ⟨hr, o, w', hi, hw, he, hr', by rw [ht]; exact hq⟩
/-- A region that draws; the last operation (number m) a store. -/
theorem region_last (S : World → Prop) {id m : Nat} {a : Act} {w : World} (hm : P.follows .mixedOrders = true) (hsz : ops.size = m + 1)
    (h : wpAnyT P .any ops Q S (lastDone P ops Q .any m) m (Array.replicate ops.size false) a w.drew) : (Code.region id ops true).wp P Q a w := by
  refine wp_region_any hm ?_
  have h2 := wpAny_of_T (g := 1) (lastDone_any (P := P) (ops := ops) (Q := Q) (md := .any) (n := m)) _ _ _ _ h
  rw [← hsz] at h2
  exact h2
end
theorem of_num (s : ByteArray) (h : okN s = true) (w : World) : Calls Tryz.prog 101 #[.string s] w fun e w' => ∃ A L c, e = .returned (.slice A L c) ∧ NumIn w' (fun k => w.heap.size ≤ k) (.slice A L c) (nval s) ∧ Below w.heap.size w w' :=
  (of_calls s (okN_digits h) (by have := okN_size h; omega) w).mono fun e w' ⟨v, h1, h2, h3⟩ => by
    obtain ⟨xs, k1, k2⟩ := h2.ex
    obtain ⟨A, c, rfl⟩ := Kd.V_slice k1
    exact ⟨A, _, c, h1, ⟨xs, k1, k2⟩, h3⟩
theorem results_fr {fn : Func} {t : Tmp} (hr : fn.results = #[.cell t 94]) (tmps : Array Value) {W : World} {g : Nat} {u v : Value} (ht : tmps.getD t undef = .pointer (some ⟨g, 0, none⟩)) (h : W.heap[g]? = some (.cells #[u, v] 94 (0, 0))) :
    (results fn tmps).run Tryz.prog W = .ok (.agg #[u, v]) W := by
  have h0 : W.cell? ⟨g, 0, none⟩ = some u := blk_cell h 0
  have h1 : W.cell? ⟨g, 1, none⟩ = some v := blk_cell h 1
  have ht' : tmps[t]?.getD undef = .pointer (some ⟨g, 0, none⟩) := by simpa using ht
  simp [results, hr, go_sem, ht', h0, h1]
set_option exponentiation.threshold 3000 in
theorem fits_nval {s : ByteArray} (h : okN s = true) : Fits 100 (nval s) := by
  refine ⟨?_⟩
  have h1 := dval_lt s.data.toList (okN_digits h)
  have h2 : (10 : Nat) ^ s.data.toList.length ≤ 10 ^ (9 * 100) := Nat.pow_le_pow_right (by omega) (by rw [list_length]; have := okN_size h; omega)
  rw [b9_pow]
  show ((dval s.data.toList : Nat) : Int) < _
  generalize 10 ^ (9 * 100) = p at *
  omega
set_option maxRecDepth 100000 in
set_option maxHeartbeats 1000000 in
theorem taken_fresh (p : PS) (h1 : okN p.1 = true) (h2 : okN p.2 = true) (w : World) :
    Calls Tryz.prog 86 #[pv p] w fun e W => ∃ A L c B M d, e = .returned (.agg #[.slice A L c, .slice B M d]) ∧ (NumIn W (fun k => w.heap.size ≤ k) (.slice A L c) (nval p.1) ∧ NumIn W (fun k => w.heap.size ≤ k) (.slice B M d) (nval p.2)) ∧ Below w.heap.size w W := by
  obtain ⟨a, b⟩ := p
  have HC := Lib.hid (fun (s : ByteArray) (h : okN s = true) (W : World) (hb : Below w.heap.size w W) (hz : w.heap.size + 1 < W.heap.size) (k1 : W.cell? ⟨w.heap.size, 0, none⟩ = some (.string a)) (k2 : W.cell? ⟨w.heap.size, 1, none⟩ = some (.string b)) (k3 : W.frozen? ⟨w.heap.size + 1, 0, none⟩ = false) (k4 : W.frozen? ⟨w.heap.size + 1, 1, none⟩ = false) =>
    show Calls Tryz.prog 101 #[.string s] W fun e W' => ∃ A L c, e = .returned (.slice A L c) ∧ Hid (NumIn W' (fun k => W.heap.size ≤ k) (.slice A L c) (nval s) ∧ Below W.heap.size W W') ∧ W'.cell? ⟨w.heap.size, 0, none⟩ = some (.string a) ∧ W'.cell? ⟨w.heap.size, 1, none⟩ = some (.string b) ∧ W'.frozen? ⟨w.heap.size + 1, 0, none⟩ = false ∧ W'.frozen? ⟨w.heap.size + 1, 1, none⟩ = false from by
      refine (of_num s h W).mono ?_
      rintro e W' ⟨A, L, c, rfl, hn, hb'⟩
      exact ⟨A, L, c, rfl, Lib.hid ⟨hn, hb'⟩, (hb'.cell (p := ⟨w.heap.size, 0, none⟩) (by show w.heap.size < _; omega)).trans k1, (hb'.cell (p := ⟨w.heap.size, 1, none⟩) (by show w.heap.size < _; omega)).trans k2, (hb'.frozen (p := ⟨w.heap.size + 1, 0, none⟩) (by show w.heap.size + 1 < _; omega)).trans k3, (hb'.frozen (p := ⟨w.heap.size + 1, 1, none⟩) (by show w.heap.size + 1 < _; omega)).trans k4⟩)
  go_enter Tryz.func86, Tryz.ntmps86
  go_wp2_with fail
  obtain ⟨W0, hW0⟩ : ∃ W0, ((w.alloc (.cells #[.string a, .string b] 24)).alloc (.cells #[.slice none 0 0, .slice none 0 0] 94)) = W0 := ⟨_, rfl⟩
  have hS : W0.drew.cell? ⟨w.heap.size, 0, none⟩ = some (.string a) ∧ W0.drew.cell? ⟨w.heap.size, 1, none⟩ = some (.string b) ∧ W0.drew.frozen? ⟨w.heap.size + 1, 0, none⟩ = false ∧ W0.drew.frozen? ⟨w.heap.size + 1, 1, none⟩ = false := by
    have h := (PB.new w a b).alloc (.cells #[.slice none 0 0, .slice none 0 0] 94)
    rw [hW0] at h
    have h2 := heap_alloc_new (w.alloc (.cells #[.string a, .string b] 24)) (.cells #[.slice none 0 0, .slice none 0 0] 94)
    rw [World.size_alloc, hW0] at h2
    exact ⟨h.cell.1, h.cell.2.1, blk_frozen h2 0, blk_frozen h2 1⟩
  have HB0 := Lib.hid (show Below w.heap.size w W0.drew ∧ w.heap.size + 1 < W0.drew.heap.size ∧ W0.drew.heap[w.heap.size + 1]? = some (.cells #[.slice none 0 0, .slice none 0 0] 94 (0, 0)) from by
    rw [← hW0]
    refine ⟨below_drew1 (((Below.refl _ w).alloc (Nat.le_refl _) _).alloc (by simp) _), by simp, ?_⟩
    have := heap_alloc_new (w.alloc (.cells #[.string a, .string b] 24)) (.cells #[.slice none 0 0, .slice none 0 0] 94)
    rw [World.size_alloc] at this
    exact this)
  rw [hW0]
  clear hW0
  refine region_last (m := 7) (fun W => W.cell? ⟨w.heap.size, 0, none⟩ = some (.string a) ∧ W.cell? ⟨w.heap.size, 1, none⟩ = some (.string b) ∧ W.frozen? ⟨w.heap.size + 1, 0, none⟩ = false ∧ W.frozen? ⟨w.heap.size + 1, 1, none⟩ = false) (by kernel_rfl) rfl ?_
  refine T_take 0 3 (.pointer (some ⟨w.heap.size, 0, none⟩)) rfl rfl (by kernel_rfl) (by kernel_rfl) (by kernel_rfl) (fun _ _ d _ _ h => by cases d <;> exact h) (by kernel_rfl) lastDone_only hS (by kernel_rfl) (fun W hW => by obtain ⟨s1, s2, s3, s4⟩ := hW; go_simp) ?_
  try simp only [List.setIfInBounds_toArray, List.set_cons_zero, List.set_cons_succ]
  refine T_take 1 4 (.string a) rfl rfl (by kernel_rfl) (by kernel_rfl) (by kernel_rfl) (fun _ _ d _ _ h => by cases d <;> exact h) (by kernel_rfl) lastDone_only hS (by kernel_rfl) (fun W hW => by obtain ⟨s1, s2, s3, s4⟩ := hW; go_simp) ?_
  try simp only [List.setIfInBounds_toArray, List.set_cons_zero, List.set_cons_succ]
  refine T_take 3 6 (.pointer (some ⟨w.heap.size, 1, none⟩)) rfl rfl (by kernel_rfl) (by kernel_rfl) (by kernel_rfl) (fun _ _ d _ _ h => by cases d <;> exact h) (by kernel_rfl) lastDone_only hS (by kernel_rfl) (fun W hW => by obtain ⟨s1, s2, s3, s4⟩ := hW; go_simp) ?_
  try simp only [List.setIfInBounds_toArray, List.set_cons_zero, List.set_cons_succ]
  refine T_take 4 7 (.string b) rfl rfl (by kernel_rfl) (by kernel_rfl) (by kernel_rfl) (fun _ _ d _ _ h => by cases d <;> exact h) (by kernel_rfl) lastDone_only hS (by kernel_rfl) (fun W hW => by obtain ⟨s1, s2, s3, s4⟩ := hW; go_simp) ?_
  try simp only [List.setIfInBounds_toArray, List.set_cons_zero, List.set_cons_succ]
  refine T_call 2 5 101 #[.string a] (by kernel_rfl) rfl rfl (by kernel_rfl) (by go_simp) ?_
  refine (HC.out a h1 _ HB0.out.1 HB0.out.2.1 hS.1 hS.2.1 hS.2.2.1 hS.2.2.2).mono ?_
  rintro e W4 ⟨A1, L1, c1, rfl, HU, hS4⟩
  refine ⟨_, rfl, hS4, ?_⟩
  try simp only [List.setIfInBounds_toArray, List.set_cons_zero, List.set_cons_succ]
  refine T_call 5 8 101 #[.string b] (by kernel_rfl) rfl rfl (by kernel_rfl) (by go_simp) ?_
  refine (HC.out b h2 W4 (HB0.out.1.trans (HU.out.2.mono (by have := HB0.out.2.1; omega))) (by have := HB0.out.2.1; have := HU.out.2.size; omega) hS4.1 hS4.2.1 hS4.2.2.1 hS4.2.2.2).mono ?_
  rintro e W5 ⟨A2, L2, c2, rfl, HV, hS5⟩
  refine ⟨_, rfl, hS5, ?_⟩
  try simp only [List.setIfInBounds_toArray, List.set_cons_zero, List.set_cons_succ]
  refine T_take 6 9 (.agg #[.slice A1 L1 c1, .slice A2 L2 c2]) rfl rfl (by kernel_rfl) (by kernel_rfl) (by kernel_rfl) (fun _ _ d _ _ h => by cases d <;> exact h) (by kernel_rfl) lastDone_only hS5 (by kernel_rfl) (fun W hW => by obtain ⟨s1, s2, s3, s4⟩ := hW; go_simp) ?_
  try simp only [List.setIfInBounds_toArray, List.set_cons_zero, List.set_cons_succ]
  have hc5 : W5.heap[w.heap.size + 1]? = some (.cells #[.slice none 0 0, .slice none 0 0] 94 (0, 0)) :=
    (HV.out.2.block _ (by have := HB0.out.2.1; have := HU.out.2.size; omega)).trans ((HU.out.2.block _ HB0.out.2.1).trans HB0.out.2.2)
  have g0 := blk_cell hc5 0
  have g1 := blk_cell hc5 1
  have f0 := blk_frozen hc5 0
  have f1 := blk_frozen hc5 1
  simp only [List.getElem?_toArray, List.getElem?_cons_zero, List.getElem?_cons_succ] at g0 g1
  have hfin := blk_set (blk_set hc5 0 (.slice A1 L1 c1)) 1 (.slice A2 L2 c2)
  refine T_last ((W5.setCell ⟨w.heap.size + 1, 0, none⟩ (.slice A1 L1 c1)).setCell ⟨w.heap.size + 1, 1, none⟩ (.slice A2 L2 c2)) (by kernel_rfl) rfl rfl (by kernel_rfl) (by go_simp) (by kernel_rfl) ?_
  have HFI := Lib.hid hfin
  clear hfin g0 g1 f0 f1 hc5
  try simp only [List.setIfInBounds_toArray, List.set_cons_zero, List.set_cons_succ]
  go_wp2_with fail
  have hz := HB0.out.2.1
  refine bodyPost_ret (results_fr rfl _ rfl HFI.out) rfl ⟨_, _, _, _, _, _, rfl, ⟨?_, ?_⟩, ?_⟩
  · exact ((HU.out.1.below HV.out.2).step (fun k hk hlt => by
      rw [Below.heap_setCell _ _ _ _ (by show k ≠ w.heap.size + 1; omega), Below.heap_setCell _ _ _ _ (by show k ≠ w.heap.size + 1; omega)])).mono (fun k hk => by have := HB0.out.1.size; have := HU.out.2.size; omega)
  · exact (HV.out.1.step (fun k hk hlt => by
      have := HU.out.2.size
      rw [Below.heap_setCell _ _ _ _ (by show k ≠ w.heap.size + 1; omega), Below.heap_setCell _ _ _ _ (by show k ≠ w.heap.size + 1; omega)])).mono (fun k hk => by have := HB0.out.1.size; have := HU.out.2.size; omega)
  · have e1 := HB0.out.1.trans (HU.out.2.mono (by omega))
    have e2 := e1.trans (HV.out.2.mono (by have := HU.out.2.size; omega))
    exact (e2.setCell (p := ⟨w.heap.size + 1, 0, none⟩) (by show w.heap.size ≤ w.heap.size + 1; omega) _).setCell (p := ⟨w.heap.size + 1, 1, none⟩) (by show w.heap.size ≤ w.heap.size + 1; omega) _
theorem taken_calls (p : PS) (h1 : okN p.1 = true) (h2 : okN p.2 = true) (w : World) :
    Calls Tryz.prog 86 #[pv p] w fun e W => ∃ A L c B M d, e = .returned (.agg #[.slice A L c, .slice B M d]) ∧ (Num W (.slice A L c) (nval p.1) ∧ Num W (.slice B M d) (nval p.2)) ∧ Below w.heap.size w W :=
  (taken_fresh p h1 h2 w).mono fun e W ⟨A, L, c, B, M, d, r1, ⟨r2, r3⟩, r4⟩ => ⟨A, L, c, B, M, d, r1, ⟨r2.num, r3.num⟩, r4⟩
end Go.Proofs.CW
namespace Go.Proofs.CW
open Go.RowKit Go.Proofs.YtjfclkbdkafkcaaGreatDoorW.PrintWords Go.Proofs.YtjfclkbdkafkcaaGreatDoor.PF

theorem trim_at (s : ByteArray) (hs : s.size ≤ 9223372036854775807) (w : World) :
    Calls Tryz.prog 129 #[.string s, .string ⟨#[48, 49, 50, 51, 52, 53, 54, 55, 56, 57]⟩] w fun e w' => ∃ r : ByteArray, e = .returned (.string r) ∧ Hid (r.toList = [] ↔ allD s.data.toList = true) ∧ Below w.heap.size w w' :=
  (Any.strings_Trim_laid Tryz.lays160 (by kernel_rfl) s ⟨#[48, 49, 50, 51, 52, 53, 54, 55, 56, 57]⟩ w hs (by decide) (by
    intro j b hj
    have hm := List.mem_of_getElem? hj
    have h : ∀ x ∈ ([48, 49, 50, 51, 52, 53, 54, 55, 56, 57] : List UInt8), x.toNat < 128 := by decide
    exact h b hm)).mono fun e w' ⟨he, hb⟩ => ⟨_, he, Lib.hid (by
      have h1 : (⟨(Lib.trimS s.data.toList ([48, 49, 50, 51, 52, 53, 54, 55, 56, 57] : List UInt8)).toArray⟩ : ByteArray).toList = Lib.trimS s.data.toList [48, 49, 50, 51, 52, 53, 54, 55, 56, 57] := by
        rw [ByteArray.toList_eq]
      exact (by rw [h1] : _ ↔ Lib.trimS s.data.toList [48, 49, 50, 51, 52, 53, 54, 55, 56, 57] = []).trans (trimS_nil _)), hb⟩

theorem head_byte (s : ByteArray) (h : 0 < s.size) : s.data.toList.head? = some (s[0]'h) := by
  have h1 : 0 < s.data.toList.length := by rw [list_length]; exact h
  rw [List.head?_eq_getElem?, List.getElem?_eq_getElem h1]; rfl
theorem okN_many (s : ByteArray) (h : 1 < s.size) (h6 : ¬ 600 < s.size) (h48 : ((s[0]'(by omega)).toNat : Int) ≠ 48) : okN s = allD s.data.toList := by
  have hne : s.data.toList ≠ [] := by rw [Ne, list_nil]; omega
  have hh : s.data.toList.head? ≠ some 48 := by
    rw [head_byte s (by omega)]; intro e; apply h48
    rw [Option.some.inj e]; rfl
  rw [Bool.eq_iff_iff, okN_eq]
  exact ⟨fun h => h.2.1, fun h => ⟨hne, h, .inr hh, by omega⟩⟩
theorem okN_one (s : ByteArray) (h : s.size = 1) : okN s = allD s.data.toList := by
  have hne : s.data.toList ≠ [] := by rw [Ne, list_nil]; omega
  rw [Bool.eq_iff_iff, okN_eq]
  exact ⟨fun h => h.2.1, fun h2 => ⟨hne, h2, .inl h, by omega⟩⟩
theorem okN_zero_head (s : ByteArray) (h : 1 < s.size) (h48 : ((s[0]'(by omega)).toNat : Int) = 48) : okN s = false := by
  have hh : s.data.toList.head? = some 48 := by
    rw [head_byte s (by omega)]; congr 1; apply UInt8.toNat_inj.1; have : (48 : UInt8).toNat = 48 := rfl; omega
  rw [Bool.eq_false_iff]; intro e
  obtain ⟨_, _, h3, _⟩ := (okN_eq s).1 e
  rcases h3 with h3 | h3
  · omega
  · exact h3 hh
theorem isEmpty_of {r : ByteArray} {b : Bool} (h : r.toList = [] ↔ b = true) : r.toList.isEmpty = b := by
  rw [Bool.eq_iff_iff, List.isEmpty_iff]; exact h

set_option maxHeartbeats 400000 in
theorem right_calls (s : ByteArray) (w : World) (hs : s.size ≤ 9223372036854775807) :
    Calls Tryz.prog 85 #[.string s] w fun e w' => e = .returned (.bool (okN s)) ∧ Below w.heap.size w w' := by
  by_cases h0 : s.size = 0
  · have he := Lib.hid (show okN s = false by simp [okN, canon, (list_nil s).2 h0])
    have c1 : ((s.size : Int) == 0) = true := by rw [h0]; rfl
    clear h0
    go_enter Tryz.func85, Tryz.ntmps85
    go_wp2_with fail
    go_ret
    exact ⟨by rw [he.out]; rfl, Below.refl _ _⟩
  · obtain ⟨c, l, hl⟩ : ∃ c l, s.data.toList = c :: l := by
      cases h : s.data.toList with
      | nil => exact absurd ((list_nil s).1 h) h0
      | cons c l => exact ⟨c, l, rfl⟩
    have hb := bt_head s c l hl
    have c1 : ((s.size : Int) == 0) = false := by simp [h0]
    have c0 : (0 : Int) < (s.size : Int) := by omega
    by_cases h6 : 600 < s.size
    · have he := Lib.hid (show okN s = false by simp [okN]; intro _; omega)
      have hl' := Lib.hid hl
      clear h0 hl hb
      have c2 : (600 : Int) < (s.size : Int) := by omega
      go_enter Tryz.func85, Tryz.ntmps85
      go_wp2_with fail
      go_ret
      exact ⟨by rw [he.out]; rfl, Below.refl _ _⟩
    · by_cases h1 : 1 < s.size
      · have c2 : ¬ (600 : Int) < (s.size : Int) := by omega
        have c3 : (1 : Int) < (s.size : Int) := by omega
        have hl' := Lib.hid hl
        clear h0 hl hb
        go_enter Tryz.func85, Tryz.ntmps85
        go_wp2_with fail
        · have h9 : ((s[0].toNat : Int) == 48) = true := by assumption
          have he := Lib.hid (okN_zero_head s h1 (eq_of_beq h9))
          go_ret
          exact ⟨by rw [he.out]; rfl, Below.refl _ _⟩
        · have h9 : ((s[0].toNat : Int) == 48) = false := by assumption
          have he := Lib.hid (okN_many s h1 h6 (ne_of_beq_false h9))
          clear h9
          refine (trim_at s hs _).mono ?_
          rintro e w1 ⟨r, rfl, hr, hB⟩
          go_wp2_with fail
          go_ret
          exact ⟨by rw [he.out, ← isEmpty_of hr.out]; rfl, hB⟩
      · have c2 : ¬ (600 : Int) < (s.size : Int) := by omega
        have c3 : ¬ (1 : Int) < (s.size : Int) := by omega
        have he := Lib.hid (okN_one s (by omega))
        clear h0 hl hb
        go_enter Tryz.func85, Tryz.ntmps85
        go_wp2_with fail
        refine (trim_at s hs _).mono ?_
        rintro e w1 ⟨r, rfl, hr, hB⟩
        go_wp2_with fail
        go_ret
        exact ⟨by rw [he.out, ← isEmpty_of hr.out]; rfl, hB⟩
end Go.Proofs.CW
namespace Go.Proofs.CW
open Go.RowKit Go.Shelf Go.Sort Go.Lib Go.Proofs.YtjfclkbdkafkcaaGreatDoorW.PrintWords Go.Proofs.YtjfclkbdkafkcaaGreatDoor.PF
attribute [local go_sem] Oper.semAt_some

/-- Strings that lie in memory. -/
structure Small (p : PS) : Prop where
  one : p.1.size ≤ 9223372036854775807
  two : p.2.size ≤ 9223372036854775807
theorem Small.of {p : PS} (h : okP p = true) : Small p := ⟨by have := okN_size (okP_iff.1 h).1.1; omega, by have := okN_size (okP_iff.1 h).1.2; omega⟩
theorem str_eq (s : ByteArray) (l : List UInt8) : (s.toList == l) = true ↔ s = ⟨l.toArray⟩ := by
  rw [beq_iff_eq, ByteArray.toList_eq]
  constructor
  · rintro rfl; cases s; simp
  · rintro rfl; simp
theorem str_ne {s : ByteArray} {l : List UInt8} (h : s ≠ ⟨l.toArray⟩) : (s.toList == l) = false := by
  rw [Bool.eq_false_iff]; exact fun e => h ((str_eq s l).1 e)
theorem num_one {W : World} {v : Value} {n : Nat} (h : Num W v n) (hf : Fits 1000 n) : (∃ ad c, v = .slice (some ad) 1 c ∧ W.cell? ad = some (.int .u64 n) ∧ n < 1000000000 ∧ n ≠ 0) ∨ (∃ A L c, v = .slice A L c ∧ L ≠ 1 ∧ n ≠ 1 ∧ L ≤ 1000) := by
  obtain ⟨xs, h1, h2, h3, h4⟩ := h.ex
  obtain ⟨A, c, rfl⟩ := Kd.V_slice h1
  have hl := length_le_of_lt b9 h2 h3 (by rw [h4]; exact hf.out)
  by_cases hx : xs.length = 1
  · obtain ⟨x, rfl⟩ := List.length_eq_one_iff.1 hx
    have e : x = n := by simpa [lv] using h4
    subst e
    obtain ⟨ad, e, hc⟩ := Kd.at_int (Kd.V_reads' h1).2.2 (0 : Int) (by omega) (by simp)
    subst e
    have hr := h2 _ (List.mem_singleton.2 rfl)
    have hn := h3 (n : Int) (by simp)
    refine .inl ⟨ad, c, rfl, ?_, by omega, by omega⟩
    have : ad.add (Int.toNat 0) = ad := by cases ad; rfl
    rw [this] at hc
    exact hc
  · refine .inr ⟨A, xs.length, c, rfl, hx, ?_, hl⟩
    rintro rfl
    apply hx
    have : xs = [1] := norm_inj b9 h2 (fun x hx => by rw [List.mem_singleton.1 hx]; omega) h3 (fun x hx => by simp at hx; omega) (by rw [h4]; rfl)
    rw [this]; rfl
theorem checkR_no {p : PS} (h : ¬ okP p = true) : checkR p = 2 := by unfold checkR; rw [if_neg h]
theorem checkR_ok {p : PS} (h : okP p = true) : checkR p = 0 := by unfold checkR; rw [if_pos h]
set_option maxRecDepth 100000 in
set_option maxHeartbeats 1000000 in
theorem check_calls (p : PS) (hs : Small p) (w : World) :
    Calls Tryz.prog 34 #[pv p] w fun e W => e = .returned (.int .i64 (checkR p)) ∧ Below w.heap.size w W := by
  obtain ⟨a, b⟩ := p
  have HS := Lib.hid hs
  have HR := Lib.hid (fun (s : ByteArray) (h : s.size ≤ 9223372036854775807) (W : World) => right_calls s W h)
  have HB0 := Lib.hid (show Below w.heap.size w (w.alloc (.cells #[.string a, .string b] 24)) from (Below.refl _ w).alloc (Nat.le_refl _) _)
  have P0 := Lib.hid (PB.new w a b)
  clear hs
  go_enter Tryz.func34, Tryz.ntmps34
  go_wp2_with fail
  refine (HR.out a HS.out.one _).mono ?_
  rintro e w1 ⟨rfl, hb⟩
  obtain ⟨hc1, hf1⟩ := bcell hb
  have hz1 : w.heap.size < w1.heap.size := by have := hb.size; simp at this; omega
  have H1 := Lib.hid (And.intro (HB0.out.trans (hb.mono (by simp))) (P0.out.below hb))
  clear hb
  by_cases h1 : okN a = true
  · rw [h1]
    go_wp2_with fail
    refine (HR.out b HS.out.two _).mono ?_
    rintro e w2 ⟨rfl, hb⟩
    obtain ⟨hc2, hf2⟩ := bcell hb
    have hz2 : w.heap.size < w2.heap.size := by have := hb.size; omega
    have H2 := Lib.hid (And.intro (H1.out.1.trans (hb.mono (by omega))) (H1.out.2.below hb))
    clear hb
    by_cases h2 : okN b = true
    · rw [h2]
      by_cases h3 : b = s0
      · have h3b := (str_eq b [48]).2 h3
        have HE := Lib.hid (checkR_no (p := (a, b)) (fun h => (okP_iff.1 h).2.1 (by rw [h3]; exact nval_s0)))
        clear h3
        go_wp2_with fail
        go_ret
        exact ⟨by rw [HE.out]; rfl, H2.out.1⟩
      · have h3b := str_ne (l := [48]) h3
        have HN := Lib.hid (And.intro h1 (And.intro h2 (fun e => h3 ((nval_zero h2).1 e))))
        clear h3 h1 h2
        go_wp2_with fail
        refine (taken_calls (a, b) HN.out.1 HN.out.2.1 w2).mono ?_
        rintro e w3 ⟨A1, L1, c1, A2, L2, c2, rfl, ⟨hu, hv⟩, hb⟩
        have H3 := Lib.hid (And.intro hu (And.intro hv (H2.out.1.trans (hb.mono (by omega)))))
        have hz3 : w.heap.size < w3.heap.size := by have := hb.size; omega
        clear hu hv hb
        go_wp2_with fail
        refine (gcd_calls _ _ _ _ _ (H3.out.1.below ?_) (H3.out.2.1.below ?_) ((fits_nval HN.out.1).up (by omega)) ((fits_nval HN.out.2.1).up (by omega))).mono ?_
        · exact (Below.refl _ _).alloc (Nat.le_refl _) _
        · exact (Below.refl _ _).alloc (Nat.le_refl _) _
        rintro e w4 ⟨g, rfl, hg, hb⟩
        have H4 := Lib.hid ((H3.out.2.2.alloc (by omega) _).trans (hb.mono (by simp; omega)))
        clear hb
        rcases num_one hg (((fits_nval HN.out.2.1).up (by omega)).le (Nat.le_of_dvd (Nat.pos_of_ne_zero HN.out.2.2) (Nat.gcd_dvd_right _ _))) with ⟨ad, c, rfl, hc, hl, hn0⟩ | ⟨A, L, c, rfl, hL, hn1, hL2⟩
        · obtain ⟨gn, hgn⟩ : ∃ gn, Nat.gcd (nval a) (nval b) = gn := ⟨_, rfl⟩
          rw [hgn] at hc hl
          have HG := Lib.hid hgn
          clear hg hgn hn0
          by_cases h1 : gn = 1
          · have HE := Lib.hid (checkR_ok (p := (a, b)) (okP_iff.2 ⟨⟨HN.out.1, HN.out.2.1⟩, HN.out.2.2, HG.out.trans h1⟩))
            subst h1
            go_wp2_with fail
            go_ret
            exact ⟨by rw [HE.out]; rfl, H4.out⟩
          · have HE := Lib.hid (checkR_no (p := (a, b)) (fun h => h1 (HG.out.symm.trans (okP_iff.1 h).2.2)))
            have h1b : ((gn : Int) != 1) = true := by simp; omega
            clear h1
            go_wp2_with fail
            go_ret
            exact ⟨by rw [HE.out]; rfl, H4.out⟩
        · have HE := Lib.hid (checkR_no (p := (a, b)) (fun h => hn1 (okP_iff.1 h).2.2))
          have hLb : ((L : Int) != 1) = true := by simp; omega
          clear hg hn1 hL
          go_wp2_with fail
          go_ret
          exact ⟨by rw [HE.out]; rfl, H4.out⟩
    · have h2f : okN b = false := by simpa using h2
      have HE := Lib.hid (checkR_no (p := (a, b)) (fun h => h2 (okP_iff.1 h).1.2))
      rw [h2f]
      clear h2 h2f
      go_wp2_with fail
      go_ret
      exact ⟨by rw [HE.out]; rfl, H2.out.1⟩
  · have h1f : okN a = false := by simpa using h1
    have HE := Lib.hid (checkR_no (p := (a, b)) (fun h => h1 (okP_iff.1 h).1.1))
    rw [h1f]
    clear h1 h1f
    go_wp2_with fail
    go_ret
    exact ⟨by rw [HE.out]; rfl, H1.out.1⟩
end Go.Proofs.CW
namespace Go.Proofs.CW
open Go.RowKit Go.Shelf Go.Sort Go.Lib Go.Proofs.YtjfclkbdkafkcaaGreatDoorW.PrintWords Go.Proofs.YtjfclkbdkafkcaaGreatDoor.PF
attribute [local go_sem] Oper.semAt_some

/-- Two fractions in boxes, and a result's cell. -/
structure Box3 (w W : World) (N : Nat) (x1 x2 y1 y2 : Value) (p : PS) : Prop where
  bel : Below w.heap.size w W
  nw : w.heap.size = N
  bx : W.heap[N]? = some (.cells #[x1, x2] 94 (0, 0))
  by_ : W.heap[N + 1]? = some (.cells #[y1, y2] 94 (0, 0))
  res : PB W (N + 1 + 1) p
theorem Box3.lt {w W : World} {N : Nat} {x1 x2 y1 y2 : Value} {p : PS} (h : Box3 w W N x1 x2 y1 y2 p) : N + 1 + 1 < W.heap.size := (Array.getElem?_eq_some_iff.1 h.res).1
theorem Box3.below {w W W' : World} {N : Nat} {x1 x2 y1 y2 : Value} {p : PS} (h : Box3 w W N x1 x2 y1 y2 p) (hb : Below W.heap.size W W') : Box3 w W' N x1 x2 y1 y2 p := by
  have hl := h.lt
  have hn := h.nw
  exact ⟨h.bel.trans (hb.mono (by omega)), h.nw, (hb.block _ (by omega)).trans h.bx, (hb.block _ (by omega)).trans h.by_, h.res.below hb⟩
theorem Box3.new (w : World) (x1 x2 y1 y2 : Value) : Box3 w (((w.alloc (.cells #[x1, x2] 94)).alloc (.cells #[y1, y2] 94)).alloc (.cells #[.string ⟨#[]⟩, .string ⟨#[]⟩] 24)) w.heap.size x1 x2 y1 y2 (⟨#[]⟩, ⟨#[]⟩) := by
  obtain ⟨a, b, c, d, e⟩ := allocs3 w (.cells #[x1, x2] 94) (.cells #[y1, y2] 94) (.cells #[.string ⟨#[]⟩, .string ⟨#[]⟩] 24)
  exact ⟨(((Below.refl _ w).alloc (Nat.le_refl _) _).alloc (by simp) _).alloc (by simp; omega) _, rfl, a, b, c⟩
theorem Box3.drew {w W : World} {N : Nat} {x1 x2 y1 y2 : Value} {p : PS} (h : Box3 w W N x1 x2 y1 y2 p) : Box3 w W.drew N x1 x2 y1 y2 p := ⟨below_drew1 h.bel, h.nw, h.bx, h.by_, h.res⟩
/-- What is read of the boxes. -/
abbrev BoxS (N : Nat) (x1 x2 y1 y2 : Value) (W : World) : Prop := W.cell? ⟨N, 0, none⟩ = some x1 ∧ W.cell? ⟨N, 1, none⟩ = some x2 ∧ W.cell? ⟨N + 1, 0, none⟩ = some y1 ∧ W.cell? ⟨N + 1, 1, none⟩ = some y2
theorem Box3.s {w W : World} {N : Nat} {x1 x2 y1 y2 : Value} {p : PS} (h : Box3 w W N x1 x2 y1 y2 p) : BoxS N x1 x2 y1 y2 W := ⟨blk_cell h.bx 0, blk_cell h.bx 1, blk_cell h.by_ 0, blk_cell h.by_ 1⟩
theorem boxS_set {N : Nat} {x1 x2 y1 y2 : Value} {W : World} (h : BoxS N x1 x2 y1 y2 W) (s t : Value) : BoxS N x1 x2 y1 y2 ((W.setCell ⟨N + 1 + 1, 0, none⟩ s).setCell ⟨N + 1 + 1, 1, none⟩ t) :=
  ⟨cell_far (cell_far h.1 (by show N ≠ N + 1 + 1; omega)) (by show N ≠ N + 1 + 1; omega), cell_far (cell_far h.2.1 (by show N ≠ N + 1 + 1; omega)) (by show N ≠ N + 1 + 1; omega),
    cell_far (cell_far h.2.2.1 (by show N + 1 ≠ N + 1 + 1; omega)) (by show N + 1 ≠ N + 1 + 1; omega), cell_far (cell_far h.2.2.2 (by show N + 1 ≠ N + 1 + 1; omega)) (by show N + 1 ≠ N + 1 + 1; omega)⟩
abbrev BoxR (N : Nat) (W : World) (p : PS) : Prop := W.cell? ⟨N + 1 + 1, 0, none⟩ = some (.string p.1) ∧ W.cell? ⟨N + 1 + 1, 1, none⟩ = some (.string p.2) ∧ W.frozen? ⟨N + 1 + 1, 0, none⟩ = false ∧ W.frozen? ⟨N + 1 + 1, 1, none⟩ = false
theorem Box3.r {w W : World} {N : Nat} {x1 x2 y1 y2 : Value} {p : PS} (h : Box3 w W N x1 x2 y1 y2 p) : BoxR N W p := h.res.cell
theorem times_num (u v : Value) (a b : Nat) (w : World) (ha : Num w u a) (hb : Num w v b) (hA : Fits 500 a) (hB : Fits 500 b) :
    Calls Tryz.prog 64 #[u, v] w fun e W => ∃ A L c, e = .returned (.slice A L c) ∧ Num W (.slice A L c) (a * b) ∧ Below w.heap.size w W := by
  refine (times_calls u v a b w ha hb (hA.up (by omega)).out (hB.up (by omega)).out).mono ?_
  rintro e W ⟨r, rfl, h1, h2⟩
  obtain ⟨A, L, c, rfl, _, _⟩ := num_slice h1.num (hA.mul hB)
  exact ⟨A, L, c, rfl, h1.num, h2⟩
theorem plus_num (u v : Value) (a b : Nat) (w : World) (ha : Num w u a) (hb : Num w v b) (hA : Fits 900 a) (hB : Fits 900 b) :
    Calls Tryz.prog 89 #[u, v] w fun e W => ∃ A L c, e = .returned (.slice A L c) ∧ Num W (.slice A L c) (a + b) ∧ Below w.heap.size w W := by
  refine (plus_calls u v a b w ha hb (hA.up (by omega)).out (hB.up (by omega)).out).mono ?_
  rintro e W ⟨r, rfl, h1, h2⟩
  have hf : Fits 1000 (a + b) := by
    refine ⟨?_⟩
    have h1 := hA.out
    have h2 := hB.out
    have h3 := pow_le_pow b9 (a := 901) (b := 1000) (by omega)
    have h4 : (1000000000 : Int) ^ 901 = 1000000000 ^ 900 * 1000000000 := Int.pow_succ _ _
    generalize (1000000000 : Int) ^ 900 = p at *
    generalize (1000000000 : Int) ^ 901 = q at *
    generalize (1000000000 : Int) ^ 1000 = r at *
    omega
  obtain ⟨A, L, c, rfl, _, _⟩ := num_slice h1.num hf
  exact ⟨A, L, c, rfl, h1.num, h2⟩
theorem fits_add {a b n : Nat} (hA : Fits n a) (hB : Fits n b) : Fits (n + 1) (a + b) := by
  refine ⟨?_⟩
  have h1 := hA.out
  have h2 := hB.out
  rw [Int.pow_succ]
  have hp : (0 : Int) < 1000000000 ^ n := Int.pow_pos (by decide)
  generalize (1000000000 : Int) ^ n = p at *
  omega
theorem part_num (u v : Value) (n d : Nat) (w : World) (ha : Num w u n) (hb : Num w v d) (h0 : d ≠ 0) (hA : Fits 1000 n) (hB : Fits 1000 d) (ht : Tab w) :
    Calls Tryz.prog 65 #[.agg #[u, v]] w fun e W => ∃ s t x, e = .returned (.tuple #[.agg #[.string s, .string t], .int .i64 x]) ∧ mkR ((n : Rat) / (d : Rat)) = ((s, t), x) ∧ Below w.heap.size w W :=
  (part_calls u v n d w ha hb h0 hA hB ht).mono fun e W ⟨h1, h2⟩ => ⟨_, _, _, h1, rfl, h2⟩
set_option maxRecDepth 100000 in
set_option maxHeartbeats 1000000 in
theorem add1_calls (A1 A2 B1 B2 : Option Addr) (L1 L2 M1 M2 c1 c2 d1 d2 a1 a2 b1 b2 : Nat) (w : World) (ht : Tab w)
    (hx1 : Num w (.slice A1 L1 c1) a1) (hx2 : Num w (.slice A2 L2 c2) a2) (hy1 : Num w (.slice B1 M1 d1) b1) (hy2 : Num w (.slice B2 M2 d2) b2) (f1 : Fits 100 a1) (f2 : Fits 100 a2) (g1 : Fits 100 b1) (g2 : Fits 100 b2) (h2 : a2 ≠ 0) (k2 : b2 ≠ 0) :
    Calls Tryz.prog 88 #[.agg #[.slice A1 L1 c1, .slice A2 L2 c2], .agg #[.slice B1 M1 d1, .slice B2 M2 d2]] w fun e W => e = .returned (rv (mkR (((a1 * b2 + b1 * a2 : Nat) : Rat) / ((a2 * b2 : Nat) : Rat)))) ∧ Below w.heap.size w W := by
  have HN := Lib.hid (And.intro hx1 (And.intro hx2 (And.intro hy1 (And.intro hy2 ht))))
  have HFt := Lib.hid (And.intro f1 (And.intro f2 (And.intro g1 (And.intro g2 (And.intro h2 k2)))))
  obtain ⟨N, hN⟩ : ∃ N, w.heap.size = N := ⟨_, rfl⟩
  have HT := Lib.hid (fun (u v : Value) (a b : Nat) (W : World) (hb : Box3 w W N (.slice A1 L1 c1) (.slice A2 L2 c2) (.slice B1 M1 d1) (.slice B2 M2 d2) (⟨#[]⟩, ⟨#[]⟩)) (h1 : Num W u a) (h2 : Num W v b) (hA : Fits 500 a) (hB : Fits 500 b) =>
    show Calls Tryz.prog 64 #[u, v] W (fun e W' => ∃ A L c, e = .returned (.slice A L c) ∧ Hid (Num W' (.slice A L c) (a * b) ∧ Below W.heap.size W W' ∧ Box3 w W' N (.slice A1 L1 c1) (.slice A2 L2 c2) (.slice B1 M1 d1) (.slice B2 M2 d2) (⟨#[]⟩, ⟨#[]⟩)) ∧ BoxS N (.slice A1 L1 c1) (.slice A2 L2 c2) (.slice B1 M1 d1) (.slice B2 M2 d2) W') from
      (times_num u v a b W h1 h2 hA hB).mono fun e W' ⟨A, L, c, r1, r2, r3⟩ => ⟨A, L, c, r1, Lib.hid ⟨r2, r3, hb.below r3⟩, (hb.below r3).s⟩)
  have HP := Lib.hid (fun (u v : Value) (a b : Nat) (W : World) (hb : Box3 w W N (.slice A1 L1 c1) (.slice A2 L2 c2) (.slice B1 M1 d1) (.slice B2 M2 d2) (⟨#[]⟩, ⟨#[]⟩)) (h1 : Num W u a) (h2 : Num W v b) (hA : Fits 900 a) (hB : Fits 900 b) =>
    show Calls Tryz.prog 89 #[u, v] W (fun e W' => ∃ A L c, e = .returned (.slice A L c) ∧ Hid (Num W' (.slice A L c) (a + b) ∧ Below W.heap.size W W' ∧ Box3 w W' N (.slice A1 L1 c1) (.slice A2 L2 c2) (.slice B1 M1 d1) (.slice B2 M2 d2) (⟨#[]⟩, ⟨#[]⟩)) ∧ BoxS N (.slice A1 L1 c1) (.slice A2 L2 c2) (.slice B1 M1 d1) (.slice B2 M2 d2) W') from
      (plus_num u v a b W h1 h2 hA hB).mono fun e W' ⟨A, L, c, r1, r2, r3⟩ => ⟨A, L, c, r1, Lib.hid ⟨r2, r3, hb.below r3⟩, (hb.below r3).s⟩)
  have HQ := Lib.hid (fun (u v : Value) (n d : Nat) (W : World) (hb : Box3 w W N (.slice A1 L1 c1) (.slice A2 L2 c2) (.slice B1 M1 d1) (.slice B2 M2 d2) (⟨#[]⟩, ⟨#[]⟩)) (h1 : Num W u n) (h2 : Num W v d) (h0 : d ≠ 0) (hA : Fits 1000 n) (hB : Fits 1000 d) =>
    show Calls Tryz.prog 65 #[.agg #[u, v]] W (fun e W' => ∃ s t x, e = .returned (.tuple #[.agg #[.string s, .string t], .int .i64 x]) ∧ Hid (mkR ((n : Rat) / (d : Rat)) = ((s, t), x) ∧ Box3 w W' N (.slice A1 L1 c1) (.slice A2 L2 c2) (.slice B1 M1 d1) (.slice B2 M2 d2) (⟨#[]⟩, ⟨#[]⟩)) ∧ BoxS N (.slice A1 L1 c1) (.slice A2 L2 c2) (.slice B1 M1 d1) (.slice B2 M2 d2) W' ∧ BoxR N W' (⟨#[]⟩, ⟨#[]⟩)) from
      (part_num u v n d W h1 h2 h0 hA hB (HN.out.2.2.2.2.below hb.bel)).mono fun e W' ⟨s, t, x, r1, r2, r3⟩ => ⟨s, t, x, r1, Lib.hid ⟨r2, hb.below r3⟩, (hb.below r3).s, (hb.below r3).r⟩)
  clear hx1 hx2 hy1 hy2 ht f1 f2 g1 g2 h2 k2
  go_enter Tryz.func88, Tryz.ntmps88
  go_wp2_with fail
  obtain ⟨W0, hW0⟩ : ∃ W0, (((w.alloc (.cells #[.slice A1 L1 c1, .slice A2 L2 c2] 94)).alloc (.cells #[.slice B1 M1 d1, .slice B2 M2 d2] 94)).alloc (.cells #[.string ⟨#[]⟩, .string ⟨#[]⟩] 24)) = W0 := ⟨_, rfl⟩
  have h0 := Box3.new w (.slice A1 L1 c1) (.slice A2 L2 c2) (.slice B1 M1 d1) (.slice B2 M2 d2)
  rw [hW0] at h0 ⊢
  rw [hN] at h0
  have H0 := Lib.hid h0.drew
  have hS := h0.drew.s
  clear h0 hW0 hN
  go_region_held3 (BoxS N (.slice A1 L1 c1) (.slice A2 L2 c2) (.slice B1 M1 d1) (.slice B2 M2 d2)) (first | exact hS | exact k4 | exact k5 | exact k6 | exact k7 | exact k8 | exact boxS_set k8 _ _) (first
    | (go_at_call 64; (with_reducible refine (HT.out (.slice A1 L1 c1) (.slice B2 M2 d2) a1 b2 _ H0.out (HN.out.1.below H0.out.bel) (HN.out.2.2.2.1.below H0.out.bel) (HFt.out.1.up (by omega)) (HFt.out.2.2.2.1.up (by omega))).mono ?_); rintro e W4 ⟨r4, l4, c4, rfl, H4, k4⟩)
    | (go_at_call 64; (with_reducible refine (HT.out (.slice B1 M1 d1) (.slice A2 L2 c2) b1 a2 W4 H4.out.2.2 (HN.out.2.2.1.below H4.out.2.2.bel) (HN.out.2.1.below H4.out.2.2.bel) (HFt.out.2.2.1.up (by omega)) (HFt.out.2.1.up (by omega))).mono ?_); rintro e W5 ⟨r5, l5, c5, rfl, H5, k5⟩)
    | (go_at_call 89; (with_reducible refine (HP.out (.slice r4 l4 c4) (.slice r5 l5 c5) _ _ W5 H5.out.2.2 (H4.out.1.below H5.out.2.1) H5.out.1 ((HFt.out.1.mul HFt.out.2.2.2.1).up (by omega)) ((HFt.out.2.2.1.mul HFt.out.2.1).up (by omega))).mono ?_); rintro e W6 ⟨r6, l6, c6, rfl, H6, k6⟩)
    | (go_at_call 64; (with_reducible refine (HT.out (.slice A2 L2 c2) (.slice B2 M2 d2) a2 b2 W6 H6.out.2.2 (HN.out.2.1.below H6.out.2.2.bel) (HN.out.2.2.2.1.below H6.out.2.2.bel) (HFt.out.2.1.up (by omega)) (HFt.out.2.2.2.1.up (by omega))).mono ?_); rintro e W7 ⟨r7, l7, c7, rfl, H7, k7⟩)
    | (go_at_call 65; (with_reducible refine (HQ.out (.slice r6 l6 c6) (.slice r7 l7 c7) _ _ W7 H7.out.2.2 (H6.out.1.below H7.out.2.1) H7.out.1 (Nat.mul_ne_zero HFt.out.2.2.2.2.1 HFt.out.2.2.2.2.2) ((fits_add ((HFt.out.1.mul HFt.out.2.2.2.1).up (m := 900) (by omega)) ((HFt.out.2.2.1.mul HFt.out.2.1).up (m := 900) (by omega))).up (by omega)) ((HFt.out.2.1.mul HFt.out.2.2.2.1).up (by omega))).mono ?_); rintro e W8 ⟨s8, t8, x8, rfl, H8, k8, q1, q2, q3, q4⟩))
  go_wp2_with fail
  refine bodyPost_ret (results_pb rfl _ rfl (H8.out.2.res.set _ _)) rfl ⟨by rw [H8.out.1]; rfl, ?_⟩
  have hn := H8.out.2.nw
  exact (H8.out.2.bel.setCell (p := ⟨N + 1 + 1, 0, none⟩) (by show _ ≤ N + 1 + 1; omega) _).setCell (p := ⟨N + 1 + 1, 1, none⟩) (by show _ ≤ N + 1 + 1; omega) _
end Go.Proofs.CW
namespace Go.Proofs.CW
open Go.RowKit Go.Shelf Go.Sort Go.Lib Go.Proofs.YtjfclkbdkafkcaaGreatDoorW.PrintWords Go.Proofs.YtjfclkbdkafkcaaGreatDoor.PF
attribute [local go_sem] Oper.semAt_some

/-- The results of Div and Sub, out of numerators and denominators. -/
def div1R (a1 a2 b1 b2 : Nat) : Res := if b1 = 0 then no 10 else mkR (((a1 * b2 : Nat) : Rat) / ((a2 * b1 : Nat) : Rat))
def sub1R (a1 a2 b1 b2 : Nat) : Res := if a1 * b2 < b1 * a2 then no 11 else mkR (((a1 * b2 - b1 * a2 : Nat) : Rat) / ((a2 * b2 : Nat) : Rat))
section
variable {w W : World} {N : Nat} {x1 x2 y1 y2 : Value}
theorem times_box (u v : Value) (a b : Nat) (hb : Box3 w W N x1 x2 y1 y2 (⟨#[]⟩, ⟨#[]⟩)) (h1 : Num W u a) (h2 : Num W v b) (hA : Fits 500 a) (hB : Fits 500 b) :
    Calls Tryz.prog 64 #[u, v] W (fun e W' => ∃ A L c, e = .returned (.slice A L c) ∧ Hid (Num W' (.slice A L c) (a * b) ∧ Below W.heap.size W W' ∧ Box3 w W' N x1 x2 y1 y2 (⟨#[]⟩, ⟨#[]⟩)) ∧ BoxS N x1 x2 y1 y2 W') :=
  (times_num u v a b W h1 h2 hA hB).mono fun e W' ⟨A, L, c, r1, r2, r3⟩ => ⟨A, L, c, r1, Lib.hid ⟨r2, r3, hb.below r3⟩, (hb.below r3).s⟩
theorem minus_num (u v : Value) (a b : Nat) (w : World) (ha : Num w u a) (hb : Num w v b) (hle : b ≤ a) (hA : Fits 900 a) :
    Calls Tryz.prog 92 #[u, v] w fun e W => ∃ A L c, e = .returned (.slice A L c) ∧ Num W (.slice A L c) (a - b) ∧ Below w.heap.size w W := by
  refine (minus_calls u v a b w ha hb hle (hA.up (by omega)).out).mono ?_
  rintro e W ⟨r, rfl, h1, h2⟩
  obtain ⟨A, L, c, rfl, _, _⟩ := num_slice h1.num ((hA.up (by omega)).le (Nat.sub_le a b))
  exact ⟨A, L, c, rfl, h1.num, h2⟩
theorem minus_box (u v : Value) (a b : Nat) (hb : Box3 w W N x1 x2 y1 y2 (⟨#[]⟩, ⟨#[]⟩)) (h1 : Num W u a) (h2 : Num W v b) (hle : b ≤ a) (hA : Fits 900 a) :
    Calls Tryz.prog 92 #[u, v] W (fun e W' => ∃ A L c, e = .returned (.slice A L c) ∧ Hid (Num W' (.slice A L c) (a - b) ∧ Below W.heap.size W W' ∧ Box3 w W' N x1 x2 y1 y2 (⟨#[]⟩, ⟨#[]⟩)) ∧ BoxS N x1 x2 y1 y2 W') :=
  (minus_num u v a b W h1 h2 hle hA).mono fun e W' ⟨A, L, c, r1, r2, r3⟩ => ⟨A, L, c, r1, Lib.hid ⟨r2, r3, hb.below r3⟩, (hb.below r3).s⟩
theorem part_box (u v : Value) (n d : Nat) (ht : Tab w) (hb : Box3 w W N x1 x2 y1 y2 (⟨#[]⟩, ⟨#[]⟩)) (h1 : Num W u n) (h2 : Num W v d) (h0 : d ≠ 0) (hA : Fits 1000 n) (hB : Fits 1000 d) :
    Calls Tryz.prog 65 #[.agg #[u, v]] W (fun e W' => ∃ s t x, e = .returned (.tuple #[.agg #[.string s, .string t], .int .i64 x]) ∧ Hid (mkR ((n : Rat) / (d : Rat)) = ((s, t), x) ∧ Box3 w W' N x1 x2 y1 y2 (⟨#[]⟩, ⟨#[]⟩)) ∧ BoxS N x1 x2 y1 y2 W' ∧ BoxR N W' (⟨#[]⟩, ⟨#[]⟩)) :=
  (part_num u v n d W h1 h2 h0 hA hB (ht.below hb.bel)).mono fun e W' ⟨s, t, x, r1, r2, r3⟩ => ⟨s, t, x, r1, Lib.hid ⟨r2, hb.below r3⟩, (hb.below r3).s, (hb.below r3).r⟩
theorem compare_box (u v : Value) (a b : Nat) (hb : Box3 w W N x1 x2 y1 y2 (⟨#[]⟩, ⟨#[]⟩)) (h1 : Num W u a) (h2 : Num W v b) (hA : Fits 1000 a) (hB : Fits 1000 b) :
    Calls Tryz.prog 91 #[u, v] W (fun e W' => ∃ r : Int, e = .returned (.int .i64 r) ∧ Hid (Cmp r a b ∧ Below W.heap.size W W' ∧ Box3 w W' N x1 x2 y1 y2 (⟨#[]⟩, ⟨#[]⟩)) ∧ BoxS N x1 x2 y1 y2 W' ∧ BoxR N W' (⟨#[]⟩, ⟨#[]⟩)) :=
  (compare_calls u v a b W h1 h2 hA.out hB.out).mono fun e W' ⟨r, r1, r2, r3⟩ => ⟨r, r1, Lib.hid ⟨r2, r3, hb.below r3⟩, (hb.below r3).s, (hb.below r3).r⟩
end

set_option maxRecDepth 100000 in
set_option maxHeartbeats 1000000 in
theorem mul1_calls (A1 A2 B1 B2 : Option Addr) (L1 L2 M1 M2 c1 c2 d1 d2 a1 a2 b1 b2 : Nat) (w : World) (ht : Tab w)
    (hx1 : Num w (.slice A1 L1 c1) a1) (hx2 : Num w (.slice A2 L2 c2) a2) (hy1 : Num w (.slice B1 M1 d1) b1) (hy2 : Num w (.slice B2 M2 d2) b2) (f1 : Fits 100 a1) (f2 : Fits 100 a2) (g1 : Fits 100 b1) (g2 : Fits 100 b2) (h2 : a2 ≠ 0) (k2 : b2 ≠ 0) :
    Calls Tryz.prog 63 #[.agg #[.slice A1 L1 c1, .slice A2 L2 c2], .agg #[.slice B1 M1 d1, .slice B2 M2 d2]] w fun e W => e = .returned (rv (mkR (((a1 * b1 : Nat) : Rat) / ((a2 * b2 : Nat) : Rat)))) ∧ Below w.heap.size w W := by
  have HN := Lib.hid (And.intro hx1 (And.intro hx2 (And.intro hy1 (And.intro hy2 ht))))
  have HFt := Lib.hid (And.intro f1 (And.intro f2 (And.intro g1 (And.intro g2 (And.intro h2 k2)))))
  obtain ⟨N, hN⟩ : ∃ N, w.heap.size = N := ⟨_, rfl⟩
  clear hx1 hx2 hy1 hy2 ht f1 f2 g1 g2 h2 k2
  go_enter Tryz.func63, Tryz.ntmps63
  go_wp2_with fail
  obtain ⟨W0, hW0⟩ : ∃ W0, (((w.alloc (.cells #[.slice A1 L1 c1, .slice A2 L2 c2] 94)).alloc (.cells #[.slice B1 M1 d1, .slice B2 M2 d2] 94)).alloc (.cells #[.string ⟨#[]⟩, .string ⟨#[]⟩] 24)) = W0 := ⟨_, rfl⟩
  have h0 := Box3.new w (.slice A1 L1 c1) (.slice A2 L2 c2) (.slice B1 M1 d1) (.slice B2 M2 d2)
  rw [hW0] at h0 ⊢
  rw [hN] at h0
  have H0 := Lib.hid h0.drew
  have hS := h0.drew.s
  clear h0 hW0 hN
  go_region_held3 (BoxS N (.slice A1 L1 c1) (.slice A2 L2 c2) (.slice B1 M1 d1) (.slice B2 M2 d2)) (first | exact hS | exact k4 | exact k5 | exact k6 | exact boxS_set k6 _ _) (first
    | (go_at_call 64; (with_reducible refine (times_box (.slice A1 L1 c1) (.slice B1 M1 d1) a1 b1 H0.out (HN.out.1.below H0.out.bel) (HN.out.2.2.1.below H0.out.bel) (HFt.out.1.up (by omega)) (HFt.out.2.2.1.up (by omega))).mono ?_); rintro e W4 ⟨r4, l4, c4, rfl, H4, k4⟩)
    | (go_at_call 64; (with_reducible refine (times_box (.slice A2 L2 c2) (.slice B2 M2 d2) a2 b2 H4.out.2.2 (HN.out.2.1.below H4.out.2.2.bel) (HN.out.2.2.2.1.below H4.out.2.2.bel) (HFt.out.2.1.up (by omega)) (HFt.out.2.2.2.1.up (by omega))).mono ?_); rintro e W5 ⟨r5, l5, c5, rfl, H5, k5⟩)
    | (go_at_call 65; (with_reducible refine (part_box (.slice r4 l4 c4) (.slice r5 l5 c5) _ _ HN.out.2.2.2.2 H5.out.2.2 (H4.out.1.below H5.out.2.1) H5.out.1 (Nat.mul_ne_zero HFt.out.2.2.2.2.1 HFt.out.2.2.2.2.2) ((HFt.out.1.mul HFt.out.2.2.1).up (by omega)) ((HFt.out.2.1.mul HFt.out.2.2.2.1).up (by omega))).mono ?_); rintro e W6 ⟨s6, t6, x6, rfl, H6, k6, q1, q2, q3, q4⟩))
  go_wp2_with fail
  refine bodyPost_ret (results_pb rfl _ rfl (H6.out.2.res.set _ _)) rfl ⟨by rw [H6.out.1]; rfl, ?_⟩
  have hn := H6.out.2.nw
  exact (H6.out.2.bel.setCell (p := ⟨N + 1 + 1, 0, none⟩) (by show _ ≤ N + 1 + 1; omega) _).setCell (p := ⟨N + 1 + 1, 1, none⟩) (by show _ ≤ N + 1 + 1; omega) _

set_option maxRecDepth 100000 in
set_option maxHeartbeats 1000000 in
theorem div1_calls (A1 A2 B1 B2 : Option Addr) (L1 L2 M1 M2 c1 c2 d1 d2 a1 a2 b1 b2 : Nat) (w : World) (ht : Tab w)
    (hx1 : Num w (.slice A1 L1 c1) a1) (hx2 : Num w (.slice A2 L2 c2) a2) (hy1 : Num w (.slice B1 M1 d1) b1) (hy2 : Num w (.slice B2 M2 d2) b2) (f1 : Fits 100 a1) (f2 : Fits 100 a2) (g1 : Fits 100 b1) (g2 : Fits 100 b2) (h2 : a2 ≠ 0) (k2 : b2 ≠ 0) :
    Calls Tryz.prog 70 #[.agg #[.slice A1 L1 c1, .slice A2 L2 c2], .agg #[.slice B1 M1 d1, .slice B2 M2 d2]] w fun e W => e = .returned (rv (div1R a1 a2 b1 b2)) ∧ Below w.heap.size w W := by
  have hM : M1 = 0 ↔ b1 = 0 := by
    obtain ⟨_, _, _, e, _, h⟩ := num_slice hy1 (g1.up (by omega))
    injection e with _ e2 _
    rw [e2]; exact h
  have HN := Lib.hid (And.intro hx1 (And.intro hx2 (And.intro hy1 (And.intro hy2 ht))))
  have HFt := Lib.hid (And.intro f1 (And.intro f2 (And.intro g1 (And.intro g2 (And.intro h2 k2)))))
  obtain ⟨N, hN⟩ : ∃ N, w.heap.size = N := ⟨_, rfl⟩
  clear hx1 hx2 hy1 hy2 ht f1 f2 g1 g2 h2 k2
  by_cases hz : b1 = 0
  · have HE := Lib.hid (show div1R a1 a2 b1 b2 = no 10 from if_pos hz)
    obtain rfl : M1 = 0 := hM.2 hz
    clear hz hM
    go_enter Tryz.func70, Tryz.ntmps70
    go_wp2_with fail
    have h0 := Box3.new w (.slice A1 L1 c1) (.slice A2 L2 c2) (.slice B1 0 d1) (.slice B2 M2 d2)
    rw [hN] at h0
    exact bodyPost_ret (results_pb rfl _ rfl h0.res) rfl ⟨by rw [HE.out]; rfl, h0.bel⟩
  · have HE := Lib.hid (show div1R a1 a2 b1 b2 = mkR (((a1 * b2 : Nat) : Rat) / ((a2 * b1 : Nat) : Rat)) from if_neg hz)
    have HZ := Lib.hid hz
    have hM0 : ((M1 : Int) == 0) = false := by
      have : M1 ≠ 0 := fun e => hz (hM.1 e)
      simp; omega
    clear hz hM
    go_enter Tryz.func70, Tryz.ntmps70
    go_wp2_with fail
    obtain ⟨W0, hW0⟩ : ∃ W0, (((w.alloc (.cells #[.slice A1 L1 c1, .slice A2 L2 c2] 94)).alloc (.cells #[.slice B1 M1 d1, .slice B2 M2 d2] 94)).alloc (.cells #[.string ⟨#[]⟩, .string ⟨#[]⟩] 24)) = W0 := ⟨_, rfl⟩
    have h0 := Box3.new w (.slice A1 L1 c1) (.slice A2 L2 c2) (.slice B1 M1 d1) (.slice B2 M2 d2)
    rw [hW0] at h0 ⊢
    rw [hN] at h0
    have H0 := Lib.hid h0.drew
    have hS := h0.drew.s
    clear h0 hW0 hN
    go_region_held3 (BoxS N (.slice A1 L1 c1) (.slice A2 L2 c2) (.slice B1 M1 d1) (.slice B2 M2 d2)) (first | exact hS | exact k4 | exact k5 | exact k6 | exact boxS_set k6 _ _) (first
      | (go_at_call 64; (with_reducible refine (times_box (.slice A1 L1 c1) (.slice B2 M2 d2) a1 b2 H0.out (HN.out.1.below H0.out.bel) (HN.out.2.2.2.1.below H0.out.bel) (HFt.out.1.up (by omega)) (HFt.out.2.2.2.1.up (by omega))).mono ?_); rintro e W4 ⟨r4, l4, c4, rfl, H4, k4⟩)
      | (go_at_call 64; (with_reducible refine (times_box (.slice A2 L2 c2) (.slice B1 M1 d1) a2 b1 H4.out.2.2 (HN.out.2.1.below H4.out.2.2.bel) (HN.out.2.2.1.below H4.out.2.2.bel) (HFt.out.2.1.up (by omega)) (HFt.out.2.2.1.up (by omega))).mono ?_); rintro e W5 ⟨r5, l5, c5, rfl, H5, k5⟩)
      | (go_at_call 65; (with_reducible refine (part_box (.slice r4 l4 c4) (.slice r5 l5 c5) _ _ HN.out.2.2.2.2 H5.out.2.2 (H4.out.1.below H5.out.2.1) H5.out.1 (Nat.mul_ne_zero HFt.out.2.2.2.2.1 HZ.out) ((HFt.out.1.mul HFt.out.2.2.2.1).up (by omega)) ((HFt.out.2.1.mul HFt.out.2.2.1).up (by omega))).mono ?_); rintro e W6 ⟨s6, t6, x6, rfl, H6, k6, q1, q2, q3, q4⟩))
    go_wp2_with fail
    refine bodyPost_ret (results_pb rfl _ rfl (H6.out.2.res.set _ _)) rfl ⟨by rw [HE.out, H6.out.1]; rfl, ?_⟩
    have hn := H6.out.2.nw
    exact (H6.out.2.bel.setCell (p := ⟨N + 1 + 1, 0, none⟩) (by show _ ≤ N + 1 + 1; omega) _).setCell (p := ⟨N + 1 + 1, 1, none⟩) (by show _ ≤ N + 1 + 1; omega) _

set_option maxRecDepth 100000 in
set_option maxHeartbeats 1000000 in
theorem sub1_calls (A1 A2 B1 B2 : Option Addr) (L1 L2 M1 M2 c1 c2 d1 d2 a1 a2 b1 b2 : Nat) (w : World) (ht : Tab w)
    (hx1 : Num w (.slice A1 L1 c1) a1) (hx2 : Num w (.slice A2 L2 c2) a2) (hy1 : Num w (.slice B1 M1 d1) b1) (hy2 : Num w (.slice B2 M2 d2) b2) (f1 : Fits 100 a1) (f2 : Fits 100 a2) (g1 : Fits 100 b1) (g2 : Fits 100 b2) (h2 : a2 ≠ 0) (k2 : b2 ≠ 0) :
    Calls Tryz.prog 90 #[.agg #[.slice A1 L1 c1, .slice A2 L2 c2], .agg #[.slice B1 M1 d1, .slice B2 M2 d2]] w fun e W => e = .returned (rv (sub1R a1 a2 b1 b2)) ∧ Below w.heap.size w W := by
  have HN := Lib.hid (And.intro hx1 (And.intro hx2 (And.intro hy1 (And.intro hy2 ht))))
  have HFt := Lib.hid (And.intro f1 (And.intro f2 (And.intro g1 (And.intro g2 (And.intro h2 k2)))))
  obtain ⟨N, hN⟩ : ∃ N, w.heap.size = N := ⟨_, rfl⟩
  clear hx1 hx2 hy1 hy2 ht f1 f2 g1 g2 h2 k2
  go_enter Tryz.func90, Tryz.ntmps90
  go_wp2_with fail
  obtain ⟨W0, hW0⟩ : ∃ W0, (((w.alloc (.cells #[.slice A1 L1 c1, .slice A2 L2 c2] 94)).alloc (.cells #[.slice B1 M1 d1, .slice B2 M2 d2] 94)).alloc (.cells #[.string ⟨#[]⟩, .string ⟨#[]⟩] 24)) = W0 := ⟨_, rfl⟩
  have h0 := Box3.new w (.slice A1 L1 c1) (.slice A2 L2 c2) (.slice B1 M1 d1) (.slice B2 M2 d2)
  rw [hW0] at h0 ⊢
  rw [hN] at h0
  have H0 := Lib.hid h0.drew
  have hS := h0.drew.s
  clear h0 hW0 hN
  go_region_held3 (BoxS N (.slice A1 L1 c1) (.slice A2 L2 c2) (.slice B1 M1 d1) (.slice B2 M2 d2)) (first | exact hS | exact k4 | exact k5) (first
    | (go_at_call 64; (with_reducible refine (times_box (.slice A1 L1 c1) (.slice B2 M2 d2) a1 b2 H0.out (HN.out.1.below H0.out.bel) (HN.out.2.2.2.1.below H0.out.bel) (HFt.out.1.up (by omega)) (HFt.out.2.2.2.1.up (by omega))).mono ?_); rintro e W4 ⟨r4, l4, c4, rfl, H4, k4⟩)
    | (go_at_call 64; (with_reducible refine (times_box (.slice B1 M1 d1) (.slice A2 L2 c2) b1 a2 H4.out.2.2 (HN.out.2.2.1.below H4.out.2.2.bel) (HN.out.2.1.below H4.out.2.2.bel) (HFt.out.2.2.1.up (by omega)) (HFt.out.2.1.up (by omega))).mono ?_); rintro e W5 ⟨r5, l5, c5, rfl, H5, k5⟩))
  go_wp2_with fail
  refine (compare_box (.slice r4 l4 c4) (.slice r5 l5 c5) (a1 * b2) (b1 * a2) H5.out.2.2 (H4.out.1.below H5.out.2.1) H5.out.1 ((HFt.out.1.mul HFt.out.2.2.2.1).up (by omega)) ((HFt.out.2.2.1.mul HFt.out.2.1).up (by omega))).mono ?_
  rintro e W6 ⟨r6, rfl, H6, k6, q1, q2, q3, q4⟩
  by_cases hlt : a1 * b2 < b1 * a2
  · have hr : r6 < 0 := H6.out.1.lt.2 (Int.ofNat_lt.2 hlt)
    have HE := Lib.hid (show sub1R a1 a2 b1 b2 = no 11 from if_pos hlt)
    clear hlt
    go_wp2_with fail
    refine bodyPost_ret (results_pb rfl _ rfl (H6.out.2.2.res.set _ _)) rfl ⟨by rw [HE.out]; rfl, ?_⟩
    have hn := H6.out.2.2.nw
    exact (H6.out.2.2.bel.setCell (p := ⟨N + 1 + 1, 0, none⟩) (by show _ ≤ N + 1 + 1; omega) _).setCell (p := ⟨N + 1 + 1, 1, none⟩) (by show _ ≤ N + 1 + 1; omega) _
  · have hr : ¬ r6 < 0 := fun h => hlt (Int.ofNat_lt.1 (H6.out.1.lt.1 h))
    have HE := Lib.hid (show sub1R a1 a2 b1 b2 = mkR (((a1 * b2 - b1 * a2 : Nat) : Rat) / ((a2 * b2 : Nat) : Rat)) from if_neg hlt)
    have HL := Lib.hid (Nat.not_lt.1 hlt)
    clear hlt hS k4 k5 q1 q2 q3 q4
    go_wp2_with fail
    have H7 := Lib.hid (show Num W6.drew (.slice r4 l4 c4) (a1 * b2) ∧ Num W6.drew (.slice r5 l5 c5) (b1 * a2) ∧ Box3 w W6.drew N (.slice A1 L1 c1) (.slice A2 L2 c2) (.slice B1 M1 d1) (.slice B2 M2 d2) (⟨#[]⟩, ⟨#[]⟩) from ⟨((H4.out.1.below H5.out.2.1).below H6.out.2.1).below (below_drew1 (Below.refl _ _)), (H5.out.1.below H6.out.2.1).below (below_drew1 (Below.refl _ _)), H6.out.2.2.drew⟩)
    have k7 := H7.out.2.2.s
    go_region_held3 (BoxS N (.slice A1 L1 c1) (.slice A2 L2 c2) (.slice B1 M1 d1) (.slice B2 M2 d2)) (first | exact k6 | exact k7 | exact k8 | exact k9 | exact k10 | exact boxS_set k10 _ _) (first
      | (go_at_call 92; (with_reducible refine (minus_box (.slice r4 l4 c4) (.slice r5 l5 c5) (a1 * b2) (b1 * a2) H7.out.2.2 H7.out.1 H7.out.2.1 HL.out ((HFt.out.1.mul HFt.out.2.2.2.1).up (by omega))).mono ?_); rintro e W8 ⟨r8, l8, c8, rfl, H8, k8⟩)
      | (go_at_call 64; (with_reducible refine (times_box (.slice A2 L2 c2) (.slice B2 M2 d2) a2 b2 H8.out.2.2 (HN.out.2.1.below H8.out.2.2.bel) (HN.out.2.2.2.1.below H8.out.2.2.bel) (HFt.out.2.1.up (by omega)) (HFt.out.2.2.2.1.up (by omega))).mono ?_); rintro e W9 ⟨r9, l9, c9, rfl, H9, k9⟩)
      | (go_at_call 65; (with_reducible refine (part_box (.slice r8 l8 c8) (.slice r9 l9 c9) _ _ HN.out.2.2.2.2 H9.out.2.2 (H8.out.1.below H9.out.2.1) H9.out.1 (Nat.mul_ne_zero HFt.out.2.2.2.2.1 HFt.out.2.2.2.2.2) (((HFt.out.1.mul HFt.out.2.2.2.1).up (by omega)).le (Nat.sub_le _ _)) ((HFt.out.2.1.mul HFt.out.2.2.2.1).up (by omega))).mono ?_); rintro e W10 ⟨s10, t10, x10, rfl, H10, k10, q1, q2, q3, q4⟩))
    go_wp2_with fail
    refine bodyPost_ret (results_pb rfl _ rfl (H10.out.2.res.set _ _)) rfl ⟨by rw [HE.out, H10.out.1]; rfl, ?_⟩
    have hn := H10.out.2.nw
    exact (H10.out.2.bel.setCell (p := ⟨N + 1 + 1, 0, none⟩) (by show _ ≤ N + 1 + 1; omega) _).setCell (p := ⟨N + 1 + 1, 1, none⟩) (by show _ ≤ N + 1 + 1; omega) _
end Go.Proofs.CW
namespace Go.Proofs.CW
open Go.RowKit Go.Shelf Go.Sort Go.Lib Go.Proofs.YtjfclkbdkafkcaaGreatDoorW.PrintWords Go.Proofs.YtjfclkbdkafkcaaGreatDoor.PF
attribute [local go_sem] Oper.semAt_some

/-- Two parts in boxes, and a result's cell. -/
structure BoxP (w W : World) (N : Nat) (a b p : PS) : Prop where
  bel : Below w.heap.size w W
  nw : w.heap.size = N
  bx : PB W N a
  by_ : PB W (N + 1) b
  res : PB W (N + 1 + 1) p
theorem BoxP.lt {w W : World} {N : Nat} {a b p : PS} (h : BoxP w W N a b p) : N + 1 + 1 < W.heap.size := (Array.getElem?_eq_some_iff.1 h.res).1
theorem BoxP.below {w W W' : World} {N : Nat} {a b p : PS} (h : BoxP w W N a b p) (hb : Below W.heap.size W W') : BoxP w W' N a b p := by
  have hl := h.lt
  have hn := h.nw
  exact ⟨h.bel.trans (hb.mono (by omega)), h.nw, h.bx.below hb, h.by_.below hb, h.res.below hb⟩
theorem BoxP.new (w : World) (a b : PS) : BoxP w (((w.alloc (.cells #[.string a.1, .string a.2] 24)).alloc (.cells #[.string b.1, .string b.2] 24)).alloc (.cells #[.string ⟨#[]⟩, .string ⟨#[]⟩] 24)) w.heap.size a b (⟨#[]⟩, ⟨#[]⟩) := by
  obtain ⟨f, g, c, d, e⟩ := allocs3 w (.cells #[.string a.1, .string a.2] 24) (.cells #[.string b.1, .string b.2] 24) (.cells #[.string ⟨#[]⟩, .string ⟨#[]⟩] 24)
  exact ⟨(((Below.refl _ w).alloc (Nat.le_refl _) _).alloc (by simp) _).alloc (by simp; omega) _, rfl, f, g, c⟩
theorem BoxP.drew {w W : World} {N : Nat} {a b p : PS} (h : BoxP w W N a b p) : BoxP w W.drew N a b p := ⟨below_drew1 h.bel, h.nw, h.bx, h.by_, h.res⟩
abbrev BoxPS (N : Nat) (a b : PS) (W : World) : Prop := W.cell? ⟨N, 0, none⟩ = some (.string a.1) ∧ W.cell? ⟨N, 1, none⟩ = some (.string a.2) ∧ W.cell? ⟨N + 1, 0, none⟩ = some (.string b.1) ∧ W.cell? ⟨N + 1, 1, none⟩ = some (.string b.2)
theorem BoxP.s {w W : World} {N : Nat} {a b p : PS} (h : BoxP w W N a b p) : BoxPS N a b W := ⟨h.bx.cell.1, h.bx.cell.2.1, h.by_.cell.1, h.by_.cell.2.1⟩
theorem BoxP.r {w W : World} {N : Nat} {a b p : PS} (h : BoxP w W N a b p) : BoxR N W p := h.res.cell
theorem boxPS_set {N : Nat} {a b : PS} {W : World} (h : BoxPS N a b W) (s t : Value) : BoxPS N a b ((W.setCell ⟨N + 1 + 1, 0, none⟩ s).setCell ⟨N + 1 + 1, 1, none⟩ t) := boxS_set h s t
theorem taken_box {w W : World} {N : Nat} {a b : PS} (q : PS) (h1 : okN q.1 = true) (h2 : okN q.2 = true) (hb : BoxP w W N a b (⟨#[]⟩, ⟨#[]⟩)) :
    Calls Tryz.prog 86 #[pv q] W fun e W' => ∃ A L c B M d, e = .returned (.agg #[.slice A L c, .slice B M d]) ∧ Hid (Num W' (.slice A L c) (nval q.1) ∧ Num W' (.slice B M d) (nval q.2) ∧ Below W.heap.size W W' ∧ BoxP w W' N a b (⟨#[]⟩, ⟨#[]⟩)) ∧ BoxPS N a b W' :=
  (taken_calls q h1 h2 W).mono fun e W' ⟨A, L, c, B, M, d, r1, ⟨r2, r3⟩, r4⟩ => ⟨A, L, c, B, M, d, r1, Lib.hid ⟨r2, r3, r4, hb.below r4⟩, (hb.below r4).s⟩
theorem check_box {w W : World} {N : Nat} {a b : PS} (q : PS) (hs : Small q) (hb : BoxP w W N a b (⟨#[]⟩, ⟨#[]⟩)) :
    Calls Tryz.prog 34 #[pv q] W fun e W' => e = .returned (.int .i64 (checkR q)) ∧ Hid (Below W.heap.size W W' ∧ BoxP w W' N a b (⟨#[]⟩, ⟨#[]⟩)) ∧ BoxPS N a b W' ∧ BoxR N W' (⟨#[]⟩, ⟨#[]⟩) :=
  (check_calls q hs W).mono fun e W' ⟨r1, r2⟩ => ⟨r1, Lib.hid ⟨r2, hb.below r2⟩, (hb.below r2).s, (hb.below r2).r⟩
theorem addR_eq {a b : PS} (ha : okP a = true) (hb : okP b = true) : addR a b = mkR (((nval a.1 * nval b.2 + nval b.1 * nval a.2 : Nat) : Rat) / ((nval a.2 * nval b.2 : Nat) : Rat)) := by
  unfold addR; rw [ha, hb, Bool.and_self, if_pos rfl, rat_add ha hb]
theorem mulR_eq {a b : PS} (ha : okP a = true) (hb : okP b = true) : mulR a b = mkR (((nval a.1 * nval b.1 : Nat) : Rat) / ((nval a.2 * nval b.2 : Nat) : Rat)) := by
  unfold mulR; rw [ha, hb, Bool.and_self, if_pos rfl, rat_mul a b]
theorem divR_eq {a b : PS} (ha : okP a = true) (hb : okP b = true) : divR a b = div1R (nval a.1) (nval a.2) (nval b.1) (nval b.2) := by
  unfold divR div1R; rw [ha, hb, Bool.and_self, if_pos rfl]
  by_cases h : nval b.1 = 0
  · rw [if_pos ((rat_zero hb).2 h), if_pos h]
  · rw [if_neg (fun e => h ((rat_zero hb).1 e)), if_neg h, rat_div a b]
theorem subR_eq {a b : PS} (ha : okP a = true) (hb : okP b = true) : subR a b = sub1R (nval a.1) (nval a.2) (nval b.1) (nval b.2) := by
  unfold subR sub1R; rw [ha, hb, Bool.and_self, if_pos rfl]
  by_cases h : nval a.1 * nval b.2 < nval b.1 * nval a.2
  · rw [if_pos ((rat_lt ha hb).2 h), if_pos h]
  · rw [if_neg (fun e => h ((rat_lt ha hb).1 e)), if_neg h, rat_sub ha hb (fun e => h ((rat_lt ha hb).1 e))]

theorem add1_box {w W : World} {N : Nat} {a b : PS} (A1 A2 B1 B2 : Option Addr) (L1 L2 M1 M2 c1 c2 d1 d2 : Nat) (ha : okP a = true) (hb : okP b = true) (ht : Tab w) (hB : BoxP w W N a b (⟨#[]⟩, ⟨#[]⟩))
    (hx1 : Num W (.slice A1 L1 c1) (nval a.1)) (hx2 : Num W (.slice A2 L2 c2) (nval a.2)) (hy1 : Num W (.slice B1 M1 d1) (nval b.1)) (hy2 : Num W (.slice B2 M2 d2) (nval b.2)) :
    Calls Tryz.prog 88 #[.agg #[.slice A1 L1 c1, .slice A2 L2 c2], .agg #[.slice B1 M1 d1, .slice B2 M2 d2]] W fun e W' => ∃ s t x, e = .returned (.tuple #[.agg #[.string s, .string t], .int .i64 x]) ∧ Hid (addR a b = ((s, t), x) ∧ BoxP w W' N a b (⟨#[]⟩, ⟨#[]⟩)) ∧ BoxPS N a b W' ∧ BoxR N W' (⟨#[]⟩, ⟨#[]⟩) := by
  have oa := okP_iff.1 ha
  have ob := okP_iff.1 hb
  refine (add1_calls A1 A2 B1 B2 L1 L2 M1 M2 c1 c2 d1 d2 _ _ _ _ W (ht.below hB.bel) hx1 hx2 hy1 hy2 (fits_nval oa.1.1) (fits_nval oa.1.2) (fits_nval ob.1.1) (fits_nval ob.1.2) oa.2.1 ob.2.1).mono ?_
  rintro e W' ⟨rfl, h⟩
  rw [← addR_eq ha hb]
  exact ⟨_, _, _, rfl, Lib.hid ⟨rfl, hB.below h⟩, (hB.below h).s, (hB.below h).r⟩
theorem addR_no {a b : PS} (h : ¬ (okP a = true ∧ okP b = true)) : addR a b = no 2 := by
  unfold addR; rw [if_neg (by simpa using h)]
set_option maxRecDepth 100000 in
set_option maxHeartbeats 1000000 in
theorem two_add (a b : PS) (sa : Small a) (sb : Small b) (w : World) (ht : Tab w) :
    Calls Tryz.prog 62 #[pv a, pv b, .func (.func 88) #[] #[]] w fun e W => e = .returned (rv (addR a b)) ∧ Below w.heap.size w W := by
  obtain ⟨an, ad⟩ := a
  obtain ⟨bn, bd⟩ := b
  have HT := Lib.hid (And.intro ht (And.intro sa sb))
  obtain ⟨N, hN⟩ : ∃ N, w.heap.size = N := ⟨_, rfl⟩
  clear ht sa sb
  go_enter Tryz.func62, Tryz.ntmps62
  go_wp2_with fail
  obtain ⟨W0, hW0⟩ : ∃ W0, (((w.alloc (.cells #[.string an, .string ad] 24)).alloc (.cells #[.string bn, .string bd] 24)).alloc (.cells #[.string ⟨#[]⟩, .string ⟨#[]⟩] 24)) = W0 := ⟨_, rfl⟩
  have h0 := BoxP.new w (an, ad) (bn, bd)
  simp only [hN] at h0
  rw [hW0] at h0 ⊢
  have H0 := Lib.hid h0
  clear h0 hW0 hN
  refine (check_box (an, ad) HT.out.2.1 H0.out).mono ?_
  rintro e W1 ⟨rfl, H1, k1, q1⟩
  by_cases ha : okP (an, ad) = true
  · rw [checkR_ok ha]
    obtain ⟨k11, k12, k13, k14⟩ := k1
    go_wp2_with fail
    refine (check_box (bn, bd) HT.out.2.2 H1.out.2).mono ?_
    rintro e W2 ⟨rfl, H2, k2, q2⟩
    by_cases hb : okP (bn, bd) = true
    · rw [checkR_ok hb]
      have HO := Lib.hid (And.intro ha hb)
      have HD := Lib.hid H2.out.2.drew
      have hS := H2.out.2.drew.s
      clear ha hb k11 k12 k13 k14 q1 k2 q2
      go_wp2_with fail
      go_region_held3 (BoxPS N (an, ad) (bn, bd)) (first | exact hS | exact k4 | exact k5 | exact k6 | exact boxPS_set k6 _ _) (first
        | (go_at_call 86; (with_reducible refine (taken_box (an, ad) (okP_iff.1 HO.out.1).1.1 (okP_iff.1 HO.out.1).1.2 HD.out).mono ?_); rintro e W4 ⟨A1, L1, c1, A2, L2, c2, rfl, H4, k4⟩)
        | (go_at_call 86; (with_reducible refine (taken_box (bn, bd) (okP_iff.1 HO.out.2).1.1 (okP_iff.1 HO.out.2).1.2 H4.out.2.2.2).mono ?_); rintro e W5 ⟨B1, M1, d1, B2, M2, d2, rfl, H5, k5⟩)
        | (go_at_call 88; (with_reducible refine (add1_box A1 A2 B1 B2 L1 L2 M1 M2 c1 c2 d1 d2 HO.out.1 HO.out.2 HT.out.1 H5.out.2.2.2 (H4.out.1.below H5.out.2.2.1) (H4.out.2.1.below H5.out.2.2.1) H5.out.1 H5.out.2.1).mono ?_); rintro e W6 ⟨s6, t6, x6, rfl, H6, k6, q1, q2, q3, q4⟩))
      go_wp2_with fail
      refine bodyPost_ret (results_pb rfl _ rfl (H6.out.2.res.set _ _)) rfl ⟨by rw [H6.out.1]; rfl, ?_⟩
      have hn := H6.out.2.nw
      exact (H6.out.2.bel.setCell (p := ⟨N + 1 + 1, 0, none⟩) (by show _ ≤ N + 1 + 1; omega) _).setCell (p := ⟨N + 1 + 1, 1, none⟩) (by show _ ≤ N + 1 + 1; omega) _
    · have HE := Lib.hid (addR_no (a := (an, ad)) (b := (bn, bd)) (fun h => hb h.2))
      rw [checkR_no hb]
      obtain ⟨q21, q22, q23, q24⟩ := q2
      clear ha hb k11 k12 k13 k14 q1 k2
      go_wp2_with fail
      have hn := H2.out.2.nw
      refine bodyPost_ret (results_pb rfl _ rfl (H2.out.2.res.set _ _)) rfl ⟨by rw [HE.out]; rfl, ?_⟩
      exact (H2.out.2.bel.setCell (p := ⟨N + 1 + 1, 0, none⟩) (by show _ ≤ N + 1 + 1; omega) _).setCell (p := ⟨N + 1 + 1, 1, none⟩) (by show _ ≤ N + 1 + 1; omega) _
  · have HE := Lib.hid (addR_no (a := (an, ad)) (b := (bn, bd)) (fun h => ha h.1))
    rw [checkR_no ha]
    obtain ⟨q11, q12, q13, q14⟩ := q1
    clear ha k1
    go_wp2_with fail
    refine bodyPost_ret (results_pb rfl _ rfl (H1.out.2.res.set _ _)) rfl ⟨by rw [HE.out]; rfl, ?_⟩
    have hn := H1.out.2.nw
    exact (H1.out.2.bel.setCell (p := ⟨N + 1 + 1, 0, none⟩) (by show _ ≤ N + 1 + 1; omega) _).setCell (p := ⟨N + 1 + 1, 1, none⟩) (by show _ ≤ N + 1 + 1; omega) _
set_option maxRecDepth 100000 in
set_option maxHeartbeats 1000000 in
theorem add_calls (a b : PS) (sa : Small a) (sb : Small b) (w : World) (ht : Tab w) :
    Calls Tryz.prog 35 #[pv a, pv b] w fun e W => e = .returned (rv (addR a b)) ∧ Below w.heap.size w W := by
  obtain ⟨an, ad⟩ := a
  obtain ⟨bn, bd⟩ := b
  obtain ⟨N, hN⟩ : ∃ N, w.heap.size = N := ⟨_, rfl⟩
  have HT := Lib.hid (fun W hb => two_add (an, ad) (bn, bd) sa sb W (ht.below hb))
  clear ht sa sb
  obtain ⟨s6, t6, x6, hR⟩ : ∃ s t x, addR (an, ad) (bn, bd) = ((s, t), x) := ⟨_, _, _, rfl⟩
  rw [hR] at HT ⊢
  clear hR
  go_enter Tryz.func35, Tryz.ntmps35
  go_wp2_with fail
  obtain ⟨W0, hW0⟩ : ∃ W0, (((w.alloc (.cells #[.string an, .string ad] 24)).alloc (.cells #[.string bn, .string bd] 24)).alloc (.cells #[.string ⟨#[]⟩, .string ⟨#[]⟩] 24)) = W0 := ⟨_, rfl⟩
  have h0 := BoxP.new w (an, ad) (bn, bd)
  simp only [hN] at h0
  rw [hW0] at h0 ⊢
  have H0 := Lib.hid h0
  clear h0 hW0 hN
  refine (HT.out W0 H0.out.bel).mono ?_
  rintro e W1 ⟨rfl, hb⟩
  have H1 := Lib.hid (H0.out.below hb)
  obtain ⟨q11, q12, q13, q14⟩ := (H0.out.below hb).r
  clear hb
  go_wp2_with fail
  refine bodyPost_ret (results_pb rfl _ rfl (H1.out.res.set _ _)) rfl ⟨rfl, ?_⟩
  have hn := H1.out.nw
  exact (H1.out.bel.setCell (p := ⟨N + 1 + 1, 0, none⟩) (by show _ ≤ N + 1 + 1; omega) _).setCell (p := ⟨N + 1 + 1, 1, none⟩) (by show _ ≤ N + 1 + 1; omega) _

theorem sub1_box {w W : World} {N : Nat} {a b : PS} (A1 A2 B1 B2 : Option Addr) (L1 L2 M1 M2 c1 c2 d1 d2 : Nat) (ha : okP a = true) (hb : okP b = true) (ht : Tab w) (hB : BoxP w W N a b (⟨#[]⟩, ⟨#[]⟩))
    (hx1 : Num W (.slice A1 L1 c1) (nval a.1)) (hx2 : Num W (.slice A2 L2 c2) (nval a.2)) (hy1 : Num W (.slice B1 M1 d1) (nval b.1)) (hy2 : Num W (.slice B2 M2 d2) (nval b.2)) :
    Calls Tryz.prog 90 #[.agg #[.slice A1 L1 c1, .slice A2 L2 c2], .agg #[.slice B1 M1 d1, .slice B2 M2 d2]] W fun e W' => ∃ s t x, e = .returned (.tuple #[.agg #[.string s, .string t], .int .i64 x]) ∧ Hid (subR a b = ((s, t), x) ∧ BoxP w W' N a b (⟨#[]⟩, ⟨#[]⟩)) ∧ BoxPS N a b W' ∧ BoxR N W' (⟨#[]⟩, ⟨#[]⟩) := by
  have oa := okP_iff.1 ha
  have ob := okP_iff.1 hb
  refine (sub1_calls A1 A2 B1 B2 L1 L2 M1 M2 c1 c2 d1 d2 _ _ _ _ W (ht.below hB.bel) hx1 hx2 hy1 hy2 (fits_nval oa.1.1) (fits_nval oa.1.2) (fits_nval ob.1.1) (fits_nval ob.1.2) oa.2.1 ob.2.1).mono ?_
  rintro e W' ⟨rfl, h⟩
  rw [← subR_eq ha hb]
  exact ⟨_, _, _, rfl, Lib.hid ⟨rfl, hB.below h⟩, (hB.below h).s, (hB.below h).r⟩
theorem subR_no {a b : PS} (h : ¬ (okP a = true ∧ okP b = true)) : subR a b = no 2 := by
  unfold subR; rw [if_neg (by simpa using h)]
set_option maxRecDepth 100000 in
set_option maxHeartbeats 1000000 in
theorem two_sub (a b : PS) (sa : Small a) (sb : Small b) (w : World) (ht : Tab w) :
    Calls Tryz.prog 62 #[pv a, pv b, .func (.func 90) #[] #[]] w fun e W => e = .returned (rv (subR a b)) ∧ Below w.heap.size w W := by
  obtain ⟨an, ad⟩ := a
  obtain ⟨bn, bd⟩ := b
  have HT := Lib.hid (And.intro ht (And.intro sa sb))
  obtain ⟨N, hN⟩ : ∃ N, w.heap.size = N := ⟨_, rfl⟩
  clear ht sa sb
  go_enter Tryz.func62, Tryz.ntmps62
  go_wp2_with fail
  obtain ⟨W0, hW0⟩ : ∃ W0, (((w.alloc (.cells #[.string an, .string ad] 24)).alloc (.cells #[.string bn, .string bd] 24)).alloc (.cells #[.string ⟨#[]⟩, .string ⟨#[]⟩] 24)) = W0 := ⟨_, rfl⟩
  have h0 := BoxP.new w (an, ad) (bn, bd)
  simp only [hN] at h0
  rw [hW0] at h0 ⊢
  have H0 := Lib.hid h0
  clear h0 hW0 hN
  refine (check_box (an, ad) HT.out.2.1 H0.out).mono ?_
  rintro e W1 ⟨rfl, H1, k1, q1⟩
  by_cases ha : okP (an, ad) = true
  · rw [checkR_ok ha]
    obtain ⟨k11, k12, k13, k14⟩ := k1
    go_wp2_with fail
    refine (check_box (bn, bd) HT.out.2.2 H1.out.2).mono ?_
    rintro e W2 ⟨rfl, H2, k2, q2⟩
    by_cases hb : okP (bn, bd) = true
    · rw [checkR_ok hb]
      have HO := Lib.hid (And.intro ha hb)
      have HD := Lib.hid H2.out.2.drew
      have hS := H2.out.2.drew.s
      clear ha hb k11 k12 k13 k14 q1 k2 q2
      go_wp2_with fail
      go_region_held3 (BoxPS N (an, ad) (bn, bd)) (first | exact hS | exact k4 | exact k5 | exact k6 | exact boxPS_set k6 _ _) (first
        | (go_at_call 86; (with_reducible refine (taken_box (an, ad) (okP_iff.1 HO.out.1).1.1 (okP_iff.1 HO.out.1).1.2 HD.out).mono ?_); rintro e W4 ⟨A1, L1, c1, A2, L2, c2, rfl, H4, k4⟩)
        | (go_at_call 86; (with_reducible refine (taken_box (bn, bd) (okP_iff.1 HO.out.2).1.1 (okP_iff.1 HO.out.2).1.2 H4.out.2.2.2).mono ?_); rintro e W5 ⟨B1, M1, d1, B2, M2, d2, rfl, H5, k5⟩)
        | (go_at_call 90; (with_reducible refine (sub1_box A1 A2 B1 B2 L1 L2 M1 M2 c1 c2 d1 d2 HO.out.1 HO.out.2 HT.out.1 H5.out.2.2.2 (H4.out.1.below H5.out.2.2.1) (H4.out.2.1.below H5.out.2.2.1) H5.out.1 H5.out.2.1).mono ?_); rintro e W6 ⟨s6, t6, x6, rfl, H6, k6, q1, q2, q3, q4⟩))
      go_wp2_with fail
      refine bodyPost_ret (results_pb rfl _ rfl (H6.out.2.res.set _ _)) rfl ⟨by rw [H6.out.1]; rfl, ?_⟩
      have hn := H6.out.2.nw
      exact (H6.out.2.bel.setCell (p := ⟨N + 1 + 1, 0, none⟩) (by show _ ≤ N + 1 + 1; omega) _).setCell (p := ⟨N + 1 + 1, 1, none⟩) (by show _ ≤ N + 1 + 1; omega) _
    · have HE := Lib.hid (subR_no (a := (an, ad)) (b := (bn, bd)) (fun h => hb h.2))
      rw [checkR_no hb]
      obtain ⟨q21, q22, q23, q24⟩ := q2
      clear ha hb k11 k12 k13 k14 q1 k2
      go_wp2_with fail
      have hn := H2.out.2.nw
      refine bodyPost_ret (results_pb rfl _ rfl (H2.out.2.res.set _ _)) rfl ⟨by rw [HE.out]; rfl, ?_⟩
      exact (H2.out.2.bel.setCell (p := ⟨N + 1 + 1, 0, none⟩) (by show _ ≤ N + 1 + 1; omega) _).setCell (p := ⟨N + 1 + 1, 1, none⟩) (by show _ ≤ N + 1 + 1; omega) _
  · have HE := Lib.hid (subR_no (a := (an, ad)) (b := (bn, bd)) (fun h => ha h.1))
    rw [checkR_no ha]
    obtain ⟨q11, q12, q13, q14⟩ := q1
    clear ha k1
    go_wp2_with fail
    refine bodyPost_ret (results_pb rfl _ rfl (H1.out.2.res.set _ _)) rfl ⟨by rw [HE.out]; rfl, ?_⟩
    have hn := H1.out.2.nw
    exact (H1.out.2.bel.setCell (p := ⟨N + 1 + 1, 0, none⟩) (by show _ ≤ N + 1 + 1; omega) _).setCell (p := ⟨N + 1 + 1, 1, none⟩) (by show _ ≤ N + 1 + 1; omega) _
set_option maxRecDepth 100000 in
set_option maxHeartbeats 1000000 in
theorem sub_calls (a b : PS) (sa : Small a) (sb : Small b) (w : World) (ht : Tab w) :
    Calls Tryz.prog 36 #[pv a, pv b] w fun e W => e = .returned (rv (subR a b)) ∧ Below w.heap.size w W := by
  obtain ⟨an, ad⟩ := a
  obtain ⟨bn, bd⟩ := b
  obtain ⟨N, hN⟩ : ∃ N, w.heap.size = N := ⟨_, rfl⟩
  have HT := Lib.hid (fun W hb => two_sub (an, ad) (bn, bd) sa sb W (ht.below hb))
  clear ht sa sb
  obtain ⟨s6, t6, x6, hR⟩ : ∃ s t x, subR (an, ad) (bn, bd) = ((s, t), x) := ⟨_, _, _, rfl⟩
  rw [hR] at HT ⊢
  clear hR
  go_enter Tryz.func36, Tryz.ntmps36
  go_wp2_with fail
  obtain ⟨W0, hW0⟩ : ∃ W0, (((w.alloc (.cells #[.string an, .string ad] 24)).alloc (.cells #[.string bn, .string bd] 24)).alloc (.cells #[.string ⟨#[]⟩, .string ⟨#[]⟩] 24)) = W0 := ⟨_, rfl⟩
  have h0 := BoxP.new w (an, ad) (bn, bd)
  simp only [hN] at h0
  rw [hW0] at h0 ⊢
  have H0 := Lib.hid h0
  clear h0 hW0 hN
  refine (HT.out W0 H0.out.bel).mono ?_
  rintro e W1 ⟨rfl, hb⟩
  have H1 := Lib.hid (H0.out.below hb)
  obtain ⟨q11, q12, q13, q14⟩ := (H0.out.below hb).r
  clear hb
  go_wp2_with fail
  refine bodyPost_ret (results_pb rfl _ rfl (H1.out.res.set _ _)) rfl ⟨rfl, ?_⟩
  have hn := H1.out.nw
  exact (H1.out.bel.setCell (p := ⟨N + 1 + 1, 0, none⟩) (by show _ ≤ N + 1 + 1; omega) _).setCell (p := ⟨N + 1 + 1, 1, none⟩) (by show _ ≤ N + 1 + 1; omega) _

theorem mul1_box {w W : World} {N : Nat} {a b : PS} (A1 A2 B1 B2 : Option Addr) (L1 L2 M1 M2 c1 c2 d1 d2 : Nat) (ha : okP a = true) (hb : okP b = true) (ht : Tab w) (hB : BoxP w W N a b (⟨#[]⟩, ⟨#[]⟩))
    (hx1 : Num W (.slice A1 L1 c1) (nval a.1)) (hx2 : Num W (.slice A2 L2 c2) (nval a.2)) (hy1 : Num W (.slice B1 M1 d1) (nval b.1)) (hy2 : Num W (.slice B2 M2 d2) (nval b.2)) :
    Calls Tryz.prog 63 #[.agg #[.slice A1 L1 c1, .slice A2 L2 c2], .agg #[.slice B1 M1 d1, .slice B2 M2 d2]] W fun e W' => ∃ s t x, e = .returned (.tuple #[.agg #[.string s, .string t], .int .i64 x]) ∧ Hid (mulR a b = ((s, t), x) ∧ BoxP w W' N a b (⟨#[]⟩, ⟨#[]⟩)) ∧ BoxPS N a b W' ∧ BoxR N W' (⟨#[]⟩, ⟨#[]⟩) := by
  have oa := okP_iff.1 ha
  have ob := okP_iff.1 hb
  refine (mul1_calls A1 A2 B1 B2 L1 L2 M1 M2 c1 c2 d1 d2 _ _ _ _ W (ht.below hB.bel) hx1 hx2 hy1 hy2 (fits_nval oa.1.1) (fits_nval oa.1.2) (fits_nval ob.1.1) (fits_nval ob.1.2) oa.2.1 ob.2.1).mono ?_
  rintro e W' ⟨rfl, h⟩
  rw [← mulR_eq ha hb]
  exact ⟨_, _, _, rfl, Lib.hid ⟨rfl, hB.below h⟩, (hB.below h).s, (hB.below h).r⟩
theorem mulR_no {a b : PS} (h : ¬ (okP a = true ∧ okP b = true)) : mulR a b = no 2 := by
  unfold mulR; rw [if_neg (by simpa using h)]
set_option maxRecDepth 100000 in
set_option maxHeartbeats 1000000 in
theorem two_mul (a b : PS) (sa : Small a) (sb : Small b) (w : World) (ht : Tab w) :
    Calls Tryz.prog 62 #[pv a, pv b, .func (.func 63) #[] #[]] w fun e W => e = .returned (rv (mulR a b)) ∧ Below w.heap.size w W := by
  obtain ⟨an, ad⟩ := a
  obtain ⟨bn, bd⟩ := b
  have HT := Lib.hid (And.intro ht (And.intro sa sb))
  obtain ⟨N, hN⟩ : ∃ N, w.heap.size = N := ⟨_, rfl⟩
  clear ht sa sb
  go_enter Tryz.func62, Tryz.ntmps62
  go_wp2_with fail
  obtain ⟨W0, hW0⟩ : ∃ W0, (((w.alloc (.cells #[.string an, .string ad] 24)).alloc (.cells #[.string bn, .string bd] 24)).alloc (.cells #[.string ⟨#[]⟩, .string ⟨#[]⟩] 24)) = W0 := ⟨_, rfl⟩
  have h0 := BoxP.new w (an, ad) (bn, bd)
  simp only [hN] at h0
  rw [hW0] at h0 ⊢
  have H0 := Lib.hid h0
  clear h0 hW0 hN
  refine (check_box (an, ad) HT.out.2.1 H0.out).mono ?_
  rintro e W1 ⟨rfl, H1, k1, q1⟩
  by_cases ha : okP (an, ad) = true
  · rw [checkR_ok ha]
    obtain ⟨k11, k12, k13, k14⟩ := k1
    go_wp2_with fail
    refine (check_box (bn, bd) HT.out.2.2 H1.out.2).mono ?_
    rintro e W2 ⟨rfl, H2, k2, q2⟩
    by_cases hb : okP (bn, bd) = true
    · rw [checkR_ok hb]
      have HO := Lib.hid (And.intro ha hb)
      have HD := Lib.hid H2.out.2.drew
      have hS := H2.out.2.drew.s
      clear ha hb k11 k12 k13 k14 q1 k2 q2
      go_wp2_with fail
      go_region_held3 (BoxPS N (an, ad) (bn, bd)) (first | exact hS | exact k4 | exact k5 | exact k6 | exact boxPS_set k6 _ _) (first
        | (go_at_call 86; (with_reducible refine (taken_box (an, ad) (okP_iff.1 HO.out.1).1.1 (okP_iff.1 HO.out.1).1.2 HD.out).mono ?_); rintro e W4 ⟨A1, L1, c1, A2, L2, c2, rfl, H4, k4⟩)
        | (go_at_call 86; (with_reducible refine (taken_box (bn, bd) (okP_iff.1 HO.out.2).1.1 (okP_iff.1 HO.out.2).1.2 H4.out.2.2.2).mono ?_); rintro e W5 ⟨B1, M1, d1, B2, M2, d2, rfl, H5, k5⟩)
        | (go_at_call 63; (with_reducible refine (mul1_box A1 A2 B1 B2 L1 L2 M1 M2 c1 c2 d1 d2 HO.out.1 HO.out.2 HT.out.1 H5.out.2.2.2 (H4.out.1.below H5.out.2.2.1) (H4.out.2.1.below H5.out.2.2.1) H5.out.1 H5.out.2.1).mono ?_); rintro e W6 ⟨s6, t6, x6, rfl, H6, k6, q1, q2, q3, q4⟩))
      go_wp2_with fail
      refine bodyPost_ret (results_pb rfl _ rfl (H6.out.2.res.set _ _)) rfl ⟨by rw [H6.out.1]; rfl, ?_⟩
      have hn := H6.out.2.nw
      exact (H6.out.2.bel.setCell (p := ⟨N + 1 + 1, 0, none⟩) (by show _ ≤ N + 1 + 1; omega) _).setCell (p := ⟨N + 1 + 1, 1, none⟩) (by show _ ≤ N + 1 + 1; omega) _
    · have HE := Lib.hid (mulR_no (a := (an, ad)) (b := (bn, bd)) (fun h => hb h.2))
      rw [checkR_no hb]
      obtain ⟨q21, q22, q23, q24⟩ := q2
      clear ha hb k11 k12 k13 k14 q1 k2
      go_wp2_with fail
      have hn := H2.out.2.nw
      refine bodyPost_ret (results_pb rfl _ rfl (H2.out.2.res.set _ _)) rfl ⟨by rw [HE.out]; rfl, ?_⟩
      exact (H2.out.2.bel.setCell (p := ⟨N + 1 + 1, 0, none⟩) (by show _ ≤ N + 1 + 1; omega) _).setCell (p := ⟨N + 1 + 1, 1, none⟩) (by show _ ≤ N + 1 + 1; omega) _
  · have HE := Lib.hid (mulR_no (a := (an, ad)) (b := (bn, bd)) (fun h => ha h.1))
    rw [checkR_no ha]
    obtain ⟨q11, q12, q13, q14⟩ := q1
    clear ha k1
    go_wp2_with fail
    refine bodyPost_ret (results_pb rfl _ rfl (H1.out.2.res.set _ _)) rfl ⟨by rw [HE.out]; rfl, ?_⟩
    have hn := H1.out.2.nw
    exact (H1.out.2.bel.setCell (p := ⟨N + 1 + 1, 0, none⟩) (by show _ ≤ N + 1 + 1; omega) _).setCell (p := ⟨N + 1 + 1, 1, none⟩) (by show _ ≤ N + 1 + 1; omega) _
set_option maxRecDepth 100000 in
set_option maxHeartbeats 1000000 in
theorem mul_calls (a b : PS) (sa : Small a) (sb : Small b) (w : World) (ht : Tab w) :
    Calls Tryz.prog 18 #[pv a, pv b] w fun e W => e = .returned (rv (mulR a b)) ∧ Below w.heap.size w W := by
  obtain ⟨an, ad⟩ := a
  obtain ⟨bn, bd⟩ := b
  obtain ⟨N, hN⟩ : ∃ N, w.heap.size = N := ⟨_, rfl⟩
  have HT := Lib.hid (fun W hb => two_mul (an, ad) (bn, bd) sa sb W (ht.below hb))
  clear ht sa sb
  obtain ⟨s6, t6, x6, hR⟩ : ∃ s t x, mulR (an, ad) (bn, bd) = ((s, t), x) := ⟨_, _, _, rfl⟩
  rw [hR] at HT ⊢
  clear hR
  go_enter Tryz.func18, Tryz.ntmps18
  go_wp2_with fail
  obtain ⟨W0, hW0⟩ : ∃ W0, (((w.alloc (.cells #[.string an, .string ad] 24)).alloc (.cells #[.string bn, .string bd] 24)).alloc (.cells #[.string ⟨#[]⟩, .string ⟨#[]⟩] 24)) = W0 := ⟨_, rfl⟩
  have h0 := BoxP.new w (an, ad) (bn, bd)
  simp only [hN] at h0
  rw [hW0] at h0 ⊢
  have H0 := Lib.hid h0
  clear h0 hW0 hN
  refine (HT.out W0 H0.out.bel).mono ?_
  rintro e W1 ⟨rfl, hb⟩
  have H1 := Lib.hid (H0.out.below hb)
  obtain ⟨q11, q12, q13, q14⟩ := (H0.out.below hb).r
  clear hb
  go_wp2_with fail
  refine bodyPost_ret (results_pb rfl _ rfl (H1.out.res.set _ _)) rfl ⟨rfl, ?_⟩
  have hn := H1.out.nw
  exact (H1.out.bel.setCell (p := ⟨N + 1 + 1, 0, none⟩) (by show _ ≤ N + 1 + 1; omega) _).setCell (p := ⟨N + 1 + 1, 1, none⟩) (by show _ ≤ N + 1 + 1; omega) _

theorem div1_box {w W : World} {N : Nat} {a b : PS} (A1 A2 B1 B2 : Option Addr) (L1 L2 M1 M2 c1 c2 d1 d2 : Nat) (ha : okP a = true) (hb : okP b = true) (ht : Tab w) (hB : BoxP w W N a b (⟨#[]⟩, ⟨#[]⟩))
    (hx1 : Num W (.slice A1 L1 c1) (nval a.1)) (hx2 : Num W (.slice A2 L2 c2) (nval a.2)) (hy1 : Num W (.slice B1 M1 d1) (nval b.1)) (hy2 : Num W (.slice B2 M2 d2) (nval b.2)) :
    Calls Tryz.prog 70 #[.agg #[.slice A1 L1 c1, .slice A2 L2 c2], .agg #[.slice B1 M1 d1, .slice B2 M2 d2]] W fun e W' => ∃ s t x, e = .returned (.tuple #[.agg #[.string s, .string t], .int .i64 x]) ∧ Hid (divR a b = ((s, t), x) ∧ BoxP w W' N a b (⟨#[]⟩, ⟨#[]⟩)) ∧ BoxPS N a b W' ∧ BoxR N W' (⟨#[]⟩, ⟨#[]⟩) := by
  have oa := okP_iff.1 ha
  have ob := okP_iff.1 hb
  refine (div1_calls A1 A2 B1 B2 L1 L2 M1 M2 c1 c2 d1 d2 _ _ _ _ W (ht.below hB.bel) hx1 hx2 hy1 hy2 (fits_nval oa.1.1) (fits_nval oa.1.2) (fits_nval ob.1.1) (fits_nval ob.1.2) oa.2.1 ob.2.1).mono ?_
  rintro e W' ⟨rfl, h⟩
  rw [← divR_eq ha hb]
  exact ⟨_, _, _, rfl, Lib.hid ⟨rfl, hB.below h⟩, (hB.below h).s, (hB.below h).r⟩
theorem divR_no {a b : PS} (h : ¬ (okP a = true ∧ okP b = true)) : divR a b = no 2 := by
  unfold divR; rw [if_neg (by simpa using h)]
set_option maxRecDepth 100000 in
set_option maxHeartbeats 1000000 in
theorem two_div (a b : PS) (sa : Small a) (sb : Small b) (w : World) (ht : Tab w) :
    Calls Tryz.prog 62 #[pv a, pv b, .func (.func 70) #[] #[]] w fun e W => e = .returned (rv (divR a b)) ∧ Below w.heap.size w W := by
  obtain ⟨an, ad⟩ := a
  obtain ⟨bn, bd⟩ := b
  have HT := Lib.hid (And.intro ht (And.intro sa sb))
  obtain ⟨N, hN⟩ : ∃ N, w.heap.size = N := ⟨_, rfl⟩
  clear ht sa sb
  go_enter Tryz.func62, Tryz.ntmps62
  go_wp2_with fail
  obtain ⟨W0, hW0⟩ : ∃ W0, (((w.alloc (.cells #[.string an, .string ad] 24)).alloc (.cells #[.string bn, .string bd] 24)).alloc (.cells #[.string ⟨#[]⟩, .string ⟨#[]⟩] 24)) = W0 := ⟨_, rfl⟩
  have h0 := BoxP.new w (an, ad) (bn, bd)
  simp only [hN] at h0
  rw [hW0] at h0 ⊢
  have H0 := Lib.hid h0
  clear h0 hW0 hN
  refine (check_box (an, ad) HT.out.2.1 H0.out).mono ?_
  rintro e W1 ⟨rfl, H1, k1, q1⟩
  by_cases ha : okP (an, ad) = true
  · rw [checkR_ok ha]
    obtain ⟨k11, k12, k13, k14⟩ := k1
    go_wp2_with fail
    refine (check_box (bn, bd) HT.out.2.2 H1.out.2).mono ?_
    rintro e W2 ⟨rfl, H2, k2, q2⟩
    by_cases hb : okP (bn, bd) = true
    · rw [checkR_ok hb]
      have HO := Lib.hid (And.intro ha hb)
      have HD := Lib.hid H2.out.2.drew
      have hS := H2.out.2.drew.s
      clear ha hb k11 k12 k13 k14 q1 k2 q2
      go_wp2_with fail
      go_region_held3 (BoxPS N (an, ad) (bn, bd)) (first | exact hS | exact k4 | exact k5 | exact k6 | exact boxPS_set k6 _ _) (first
        | (go_at_call 86; (with_reducible refine (taken_box (an, ad) (okP_iff.1 HO.out.1).1.1 (okP_iff.1 HO.out.1).1.2 HD.out).mono ?_); rintro e W4 ⟨A1, L1, c1, A2, L2, c2, rfl, H4, k4⟩)
        | (go_at_call 86; (with_reducible refine (taken_box (bn, bd) (okP_iff.1 HO.out.2).1.1 (okP_iff.1 HO.out.2).1.2 H4.out.2.2.2).mono ?_); rintro e W5 ⟨B1, M1, d1, B2, M2, d2, rfl, H5, k5⟩)
        | (go_at_call 70; (with_reducible refine (div1_box A1 A2 B1 B2 L1 L2 M1 M2 c1 c2 d1 d2 HO.out.1 HO.out.2 HT.out.1 H5.out.2.2.2 (H4.out.1.below H5.out.2.2.1) (H4.out.2.1.below H5.out.2.2.1) H5.out.1 H5.out.2.1).mono ?_); rintro e W6 ⟨s6, t6, x6, rfl, H6, k6, q1, q2, q3, q4⟩))
      go_wp2_with fail
      refine bodyPost_ret (results_pb rfl _ rfl (H6.out.2.res.set _ _)) rfl ⟨by rw [H6.out.1]; rfl, ?_⟩
      have hn := H6.out.2.nw
      exact (H6.out.2.bel.setCell (p := ⟨N + 1 + 1, 0, none⟩) (by show _ ≤ N + 1 + 1; omega) _).setCell (p := ⟨N + 1 + 1, 1, none⟩) (by show _ ≤ N + 1 + 1; omega) _
    · have HE := Lib.hid (divR_no (a := (an, ad)) (b := (bn, bd)) (fun h => hb h.2))
      rw [checkR_no hb]
      obtain ⟨q21, q22, q23, q24⟩ := q2
      clear ha hb k11 k12 k13 k14 q1 k2
      go_wp2_with fail
      have hn := H2.out.2.nw
      refine bodyPost_ret (results_pb rfl _ rfl (H2.out.2.res.set _ _)) rfl ⟨by rw [HE.out]; rfl, ?_⟩
      exact (H2.out.2.bel.setCell (p := ⟨N + 1 + 1, 0, none⟩) (by show _ ≤ N + 1 + 1; omega) _).setCell (p := ⟨N + 1 + 1, 1, none⟩) (by show _ ≤ N + 1 + 1; omega) _
  · have HE := Lib.hid (divR_no (a := (an, ad)) (b := (bn, bd)) (fun h => ha h.1))
    rw [checkR_no ha]
    obtain ⟨q11, q12, q13, q14⟩ := q1
    clear ha k1
    go_wp2_with fail
    refine bodyPost_ret (results_pb rfl _ rfl (H1.out.2.res.set _ _)) rfl ⟨by rw [HE.out]; rfl, ?_⟩
    have hn := H1.out.2.nw
    exact (H1.out.2.bel.setCell (p := ⟨N + 1 + 1, 0, none⟩) (by show _ ≤ N + 1 + 1; omega) _).setCell (p := ⟨N + 1 + 1, 1, none⟩) (by show _ ≤ N + 1 + 1; omega) _
set_option maxRecDepth 100000 in
set_option maxHeartbeats 1000000 in
theorem div_calls (a b : PS) (sa : Small a) (sb : Small b) (w : World) (ht : Tab w) :
    Calls Tryz.prog 20 #[pv a, pv b] w fun e W => e = .returned (rv (divR a b)) ∧ Below w.heap.size w W := by
  obtain ⟨an, ad⟩ := a
  obtain ⟨bn, bd⟩ := b
  obtain ⟨N, hN⟩ : ∃ N, w.heap.size = N := ⟨_, rfl⟩
  have HT := Lib.hid (fun W hb => two_div (an, ad) (bn, bd) sa sb W (ht.below hb))
  clear ht sa sb
  obtain ⟨s6, t6, x6, hR⟩ : ∃ s t x, divR (an, ad) (bn, bd) = ((s, t), x) := ⟨_, _, _, rfl⟩
  rw [hR] at HT ⊢
  clear hR
  go_enter Tryz.func20, Tryz.ntmps20
  go_wp2_with fail
  obtain ⟨W0, hW0⟩ : ∃ W0, (((w.alloc (.cells #[.string an, .string ad] 24)).alloc (.cells #[.string bn, .string bd] 24)).alloc (.cells #[.string ⟨#[]⟩, .string ⟨#[]⟩] 24)) = W0 := ⟨_, rfl⟩
  have h0 := BoxP.new w (an, ad) (bn, bd)
  simp only [hN] at h0
  rw [hW0] at h0 ⊢
  have H0 := Lib.hid h0
  clear h0 hW0 hN
  refine (HT.out W0 H0.out.bel).mono ?_
  rintro e W1 ⟨rfl, hb⟩
  have H1 := Lib.hid (H0.out.below hb)
  obtain ⟨q11, q12, q13, q14⟩ := (H0.out.below hb).r
  clear hb
  go_wp2_with fail
  refine bodyPost_ret (results_pb rfl _ rfl (H1.out.res.set _ _)) rfl ⟨rfl, ?_⟩
  have hn := H1.out.nw
  exact (H1.out.bel.setCell (p := ⟨N + 1 + 1, 0, none⟩) (by show _ ≤ N + 1 + 1; omega) _).setCell (p := ⟨N + 1 + 1, 1, none⟩) (by show _ ≤ N + 1 + 1; omega) _
end Go.Proofs.CW
namespace Go.Proofs.CW
open Go.RowKit Go.Shelf Go.Sort Go.Lib Go.Proofs.YtjfclkbdkafkcaaGreatDoorW.PrintWords Go.Proofs.YtjfclkbdkafkcaaGreatDoor.PF
attribute [local go_sem] Oper.semAt_some

theorem itoa_calls (n : Int) (h0 : 0 ≤ n) (h1 : n ≤ 9223372036854775807) (w : World) (ht : Tab w) :
    Calls Tryz.prog 97 #[.int .i64 n] w fun e W => e = .returned (.string (nstr n.toNat)) ∧ Below w.heap.size w W := by
  refine (Tryz.strconv_Itoa n (by omega) h1 w ht).mono ?_
  rintro e W ⟨rfl, k, os, rfl⟩
  obtain ⟨m, rfl⟩ := Int.eq_ofNat_of_zero_le h0
  refine ⟨?_, below_of_grow k os⟩
  rw [Lib.itoa_nonneg, Int.toNat_natCast]
  rfl
set_option maxRecDepth 100000 in
/-- Of, at a number that is not negative. -/
theorem of_ok (n : Int) (h0 : 0 ≤ n) (h1 : n ≤ 9223372036854775807) (w : World) (ht : Tab w) :
    Calls Tryz.prog 43 #[.int .i64 n] w fun e W => e = .returned (.tuple #[.string (nstr n.toNat), .int .i64 0]) ∧ Below w.heap.size w W := by
  have HI := Lib.hid (fun W hb => itoa_calls n h0 h1 W (ht.below hb))
  have c0 : ¬ n < 0 := by omega
  clear ht
  go_enter Tryz.func43, Tryz.ntmps43
  go_wp2_with fail
  refine (HI.out w (Below.refl _ w)).mono ?_
  rintro e W ⟨rfl, hb⟩
  have HB := Lib.hid hb
  clear hb
  go_wp2_with fail
  go_ret2
  exact ⟨rfl, HB.out⟩
set_option maxRecDepth 100000 in
theorem of_neg (n : Int) (h0 : n < 0) (w : World) :
    Calls Tryz.prog 43 #[.int .i64 n] w fun e W => e = .returned (.tuple #[.string ⟨#[]⟩, .int .i64 11]) ∧ Below w.heap.size w W := by
  go_enter Tryz.func43, Tryz.ntmps43
  go_wp2_with fail
  go_ret2
  exact ⟨rfl, Below.refl _ _⟩
theorem makeR_no {n d : ByteArray} (h : ¬ (okN n = true ∧ okN d = true)) : makeR n d = no 2 := by
  unfold makeR; rw [if_neg (by simpa using h)]
theorem makeR_zero {n d : ByteArray} (h1 : okN n = true) (h2 : okN d = true) (h : d = s0) : makeR n d = no 10 := by
  unfold makeR; rw [h1, h2, Bool.and_self, if_pos rfl, if_pos ((nval_zero h2).2 h)]
theorem makeR_ok {n d : ByteArray} (h1 : okN n = true) (h2 : okN d = true) (h : d ≠ s0) : makeR n d = mkR ((nval n : Rat) / (nval d : Rat)) := by
  unfold makeR; rw [h1, h2, Bool.and_self, if_pos rfl, if_neg (fun e => h ((nval_zero h2).1 e))]
set_option maxRecDepth 100000 in
set_option maxHeartbeats 1000000 in
theorem make_calls (n d : ByteArray) (hn : n.size ≤ 9223372036854775807) (hd : d.size ≤ 9223372036854775807) (w : World) (ht : Tab w) :
    Calls Tryz.prog 47 #[.string n, .string d] w fun e W => e = .returned (rv (makeR n d)) ∧ Below w.heap.size w W := by
  obtain ⟨N, hN⟩ : ∃ N, w.heap.size = N := ⟨_, rfl⟩
  have HR := Lib.hid (fun (s : ByteArray) (h : s.size ≤ 9223372036854775807) (W : World) => right_calls s W h)
  have HT := Lib.hid (And.intro ht (And.intro hn hd))
  clear ht hn hd
  go_enter Tryz.func47, Tryz.ntmps47
  go_wp2_with fail
  have h0 : PB (w.alloc (.cells #[.string ⟨#[]⟩, .string ⟨#[]⟩] 24)) N (⟨#[]⟩, ⟨#[]⟩) := by rw [← hN]; exact PB.new w _ _
  have hb0 : Below w.heap.size w (w.alloc (.cells #[.string ⟨#[]⟩, .string ⟨#[]⟩] 24)) := (Below.refl _ w).alloc (Nat.le_refl _) _
  have hz0 : N < (w.alloc (.cells #[.string ⟨#[]⟩, .string ⟨#[]⟩] 24)).heap.size := by rw [World.size_alloc]; omega
  have hnw : w.heap.size ≤ N := by omega
  obtain ⟨W0, hW0⟩ : ∃ W0, w.alloc (.cells #[.string ⟨#[]⟩, .string ⟨#[]⟩] 24) = W0 := ⟨_, rfl⟩
  rw [hW0] at h0 hb0 hz0 ⊢
  have H0 := Lib.hid (And.intro h0 (And.intro hb0 (And.intro hz0 hnw)))
  clear h0 hb0 hz0 hnw hN hW0
  refine (HR.out n HT.out.2.1 _).mono ?_
  rintro e w1 ⟨rfl, hb⟩
  have H1 := Lib.hid (And.intro (H0.out.1.below hb) (And.intro (H0.out.2.1.trans (hb.mono H0.out.2.1.size)) (show N < w1.heap.size from Nat.lt_of_lt_of_le H0.out.2.2.1 hb.size)))
  clear hb
  have hnw := H0.out.2.2.2
  by_cases h1 : okN n = true
  · rw [h1]
    go_wp2_with fail
    refine (HR.out d HT.out.2.2 _).mono ?_
    rintro e w2 ⟨rfl, hb⟩
    have H2 := Lib.hid (And.intro (H1.out.1.below hb) (And.intro (H1.out.2.1.trans (hb.mono H1.out.2.1.size)) (show N < w2.heap.size from Nat.lt_of_lt_of_le H1.out.2.2 hb.size)))
    clear hb
    by_cases h2 : okN d = true
    · rw [h2]
      by_cases h3 : d = s0
      · have h3b := (str_eq d [48]).2 h3
        have HE := Lib.hid (makeR_zero h1 h2 h3)
        obtain ⟨q1, q2, q3, q4⟩ := H2.out.1.cell
        clear h3 h1 h2
        go_wp2_with fail
        refine bodyPost_ret (results_pb rfl _ rfl (H2.out.1.set _ _)) rfl ⟨by rw [HE.out]; rfl, ?_⟩
        exact (H2.out.2.1.setCell (p := ⟨N, 0, none⟩) hnw _).setCell (p := ⟨N, 1, none⟩) hnw _
      · have h3b := str_ne (l := [48]) h3
        have HE := Lib.hid (makeR_ok h1 h2 h3)
        have HN := Lib.hid (And.intro h1 (And.intro h2 (fun e => h3 ((nval_zero h2).1 e))))
        clear h3 h1 h2
        go_wp2_with fail
        refine (of_num n HN.out.1 w2).mono ?_
        rintro e w3 ⟨A1, L1, c1, rfl, hu, hb⟩
        have H3 := Lib.hid (And.intro (H2.out.1.below hb) (And.intro (H2.out.2.1.trans (hb.mono H2.out.2.1.size)) (And.intro (show N < w3.heap.size from Nat.lt_of_lt_of_le H2.out.2.2 hb.size) hu.num)))
        clear hu hb
        go_wp2_with fail
        refine (of_num d HN.out.2.1 w3).mono ?_
        rintro e w4 ⟨A2, L2, c2, rfl, hu, hb⟩
        have H4 := Lib.hid (And.intro (H3.out.1.below hb) (And.intro (H3.out.2.1.trans (hb.mono H3.out.2.1.size)) (And.intro (show N < w4.heap.size from Nat.lt_of_lt_of_le H3.out.2.2.1 hb.size) (And.intro (H3.out.2.2.2.below hb) hu.num))))
        clear hu hb
        go_wp2_with fail
        refine (part_num _ _ _ _ w4 H4.out.2.2.2.1 H4.out.2.2.2.2 HN.out.2.2 ((fits_nval HN.out.1).up (by omega)) ((fits_nval HN.out.2.1).up (by omega)) (HT.out.1.below H4.out.2.1)).mono ?_
        rintro e w5 ⟨s, t, x, rfl, hr, hb⟩
        have H5 := Lib.hid (And.intro (H4.out.1.below hb) (And.intro (H4.out.2.1.trans (hb.mono H4.out.2.1.size)) hr))
        obtain ⟨q1, q2, q3, q4⟩ := (H4.out.1.below hb).cell
        clear hr hb
        go_wp2_with fail
        refine bodyPost_ret (results_pb rfl _ rfl (H5.out.1.set _ _)) rfl ⟨by rw [HE.out, H5.out.2.2]; rfl, ?_⟩
        exact (H5.out.2.1.setCell (p := ⟨N, 0, none⟩) hnw _).setCell (p := ⟨N, 1, none⟩) hnw _
    · have h2f : okN d = false := by simpa using h2
      have HE := Lib.hid (makeR_no (n := n) (d := d) (fun h => h2 h.2))
      obtain ⟨q1, q2, q3, q4⟩ := H2.out.1.cell
      rw [h2f]
      clear h1 h2 h2f
      go_wp2_with fail
      refine bodyPost_ret (results_pb rfl _ rfl (H2.out.1.set _ _)) rfl ⟨by rw [HE.out]; rfl, ?_⟩
      exact (H2.out.2.1.setCell (p := ⟨N, 0, none⟩) hnw _).setCell (p := ⟨N, 1, none⟩) hnw _
  · have h1f : okN n = false := by simpa using h1
    have HE := Lib.hid (makeR_no (n := n) (d := d) (fun h => h1 h.1))
    obtain ⟨q1, q2, q3, q4⟩ := H1.out.1.cell
    rw [h1f]
    clear h1 h1f
    go_wp2_with fail
    refine bodyPost_ret (results_pb rfl _ rfl (H1.out.1.set _ _)) rfl ⟨by rw [HE.out]; rfl, ?_⟩
    exact (H1.out.2.1.setCell (p := ⟨N, 0, none⟩) hnw _).setCell (p := ⟨N, 1, none⟩) hnw _
end Go.Proofs.CW
namespace Go.Proofs.CW
open Go.RowKit Go.Shelf Go.Sort Go.Lib Go.Proofs.YtjfclkbdkafkcaaGreatDoorW.PrintWords Go.Proofs.YtjfclkbdkafkcaaGreatDoor.PF
attribute [local go_sem] Oper.semAt_some

/-- The end of work that a misfit ends. -/
abbrev thrown (x : Int) : Ending := .panicked [{ v := .iface 144 (.agg #[.int .i64 x]), recovered := false }]
theorem results_p {fn : Func} {t : Tmp} (hr : fn.results = #[.cell t 24]) (tmps : Array Value) {W : World} {g : Nat} {p : PS} (ht : tmps.getD t undef = .pointer (some ⟨g, 0, none⟩)) (h : PB W g p) :
    (results fn tmps).run Tryz.prog W = .ok (pv p) W := by
  obtain ⟨h0, h1, _, _⟩ := h.cell
  have ht' : tmps[t]?.getD undef = .pointer (some ⟨g, 0, none⟩) := by simpa using ht
  simp [results, hr, go_sem, ht', h0, h1]
set_option maxRecDepth 100000 in
set_option maxHeartbeats 400000 in
theorem must_ok (p : PS) (w : World) : Calls Tryz.prog 124 #[pv p, .int .i64 0] w fun e W => e = .returned (pv p) ∧ Below w.heap.size w W := by
  obtain ⟨s, t⟩ := p
  go_enter Tryz.func124, Tryz.ntmps124
  go_wp2_with fail
  have h := PB.new (w.alloc (.cells #[.string s, .string t] 24)) s t
  rw [World.size_alloc] at h
  exact bodyPost_ret (results_p rfl _ rfl h) rfl ⟨rfl, ((Below.refl _ w).alloc (Nat.le_refl _) _).alloc (by simp) _⟩
set_option maxRecDepth 100000 in
set_option maxHeartbeats 400000 in
theorem must_no (p : PS) (x : Int) (h0 : x ≠ 0) (w : World) : Calls Tryz.prog 124 #[pv p, .int .i64 x] w fun e W => e = thrown x ∧ Below w.heap.size w W := by
  obtain ⟨s, t⟩ := p
  have hb : (x != 0) = true := by simp [h0]
  clear h0
  go_enter Tryz.func124, Tryz.ntmps124
  go_wp2_with fail
  exact ⟨rfl, rfl, ((Below.refl _ w).alloc (Nat.le_refl _) _).alloc (by simp) _⟩
/-- How a part, or the error, comes back. -/
def outP : Except Int PS → Ending
  | .ok p => .returned (pv p)
  | .error x => thrown x
theorem must_calls (r : Res) (w : World) : Calls Tryz.prog 124 #[pv r.1, .int .i64 r.2] w fun e W => e = outP (toE r) ∧ Below w.heap.size w W := by
  unfold toE
  by_cases h : r.2 = 0
  · rw [if_pos h, h]; exact must_ok r.1 w
  · rw [if_neg h]; exact must_no r.1 r.2 h w
end Go.Proofs.CW
namespace Go.Proofs.CW
open Go.RowKit Go.Shelf Go.Sort Go.Lib Go.Proofs.YtjfclkbdkafkcaaGreatDoorW.PrintWords Go.Proofs.YtjfclkbdkafkcaaGreatDoor.PF
attribute [local go_sem] Oper.semAt_some

/-- Lists of parts in memory. -/
abbrev kP : Kd PS := Kd.pair Kd.string Kd.string
theorem kP_open {w : World} {x : PS} {cs : List Value} (h : kP.K w x cs) : cs = [.string x.1, .string x.2] := by
  obtain ⟨_, _, rfl, rfl, rfl⟩ := h
  exact rfl
theorem kP_mk (w : World) (x : PS) : kP.K w x [.string x.1, .string x.2] := ⟨[.string x.1], [.string x.2], rfl, rfl, rfl⟩
theorem at_P {w : World} {A : Option Addr} {n : Nat} {xs : List PS} (h : Kd.C kP w A n xs) (i : Nat) (h1 : i < n) (hx : i < xs.length) :
    ∃ ad, A = some ad ∧ w.cell? (ad.add (i * 2)) = some (.string xs[i].1) ∧ w.cell? ⟨(ad.add (i * 2)).block, (ad.add (i * 2)).off + 1, none⟩ = some (.string xs[i].2) := by
  obtain ⟨ad, c, e, _, hK, hc0⟩ := Kd.C_get h p0 (i : Int) (by omega) (by omega)
  rw [Int.toNat_natCast] at hK hc0
  have hc : ∀ j u, c[j]? = some u → w.cell? (ad.add (i * 2 + j)) = some u := hc0
  obtain rfl := kP_open hK
  have e2 : xs.getD i p0 = xs[i] := by rw [List.getD_eq_getElem?_getD, List.getElem?_eq_getElem hx]; rfl
  rw [e2] at hc
  exact ⟨ad, e, hc 0 _ rfl, by rw [← add_field _ _ 1 (by omega)]; exact hc 1 _ rfl⟩
set_option maxRecDepth 100000 in
set_option maxHeartbeats 1000000 in
theorem sum1_calls (a b : PS) (sa : Small a) (sb : Small b) (w : World) (ht : Tab w) :
    Calls Tryz.prog 126 #[pv a, pv b] w fun e W => e = outP (toE (addR a b)) ∧ Below w.heap.size w W := by
  obtain ⟨an, ad⟩ := a
  obtain ⟨bn, bd⟩ := b
  have HA := Lib.hid (fun W (hb : Below w.heap.size w W) => add_calls (an, ad) (bn, bd) sa sb W (ht.below hb))
  obtain ⟨s6, t6, x6, hR⟩ : ∃ s t x, addR (an, ad) (bn, bd) = ((s, t), x) := ⟨_, _, _, rfl⟩
  obtain ⟨N, hN⟩ : ∃ N, w.heap.size = N := ⟨_, rfl⟩
  rw [hR] at HA ⊢
  have HM := Lib.hid (must_calls ((s6, t6), x6))
  clear hR ht sa sb
  go_enter Tryz.func126, Tryz.ntmps126
  go_wp2_with fail
  obtain ⟨W0, hW0⟩ : ∃ W0, (((w.alloc (.cells #[.string an, .string ad] 24)).alloc (.cells #[.string bn, .string bd] 24)).alloc (.cells #[.string ⟨#[]⟩, .string ⟨#[]⟩] 24)) = W0 := ⟨_, rfl⟩
  have h0 := BoxP.new w (an, ad) (bn, bd)
  simp only [hN] at h0
  rw [hW0] at h0 ⊢
  have H0 := Lib.hid h0
  clear h0 hW0 hN
  refine (HA.out W0 H0.out.bel).mono ?_
  rintro e W1 ⟨rfl, hb⟩
  have H1 := Lib.hid (H0.out.below hb)
  clear hb
  go_wp2_with fail
  refine (HM.out W1).mono ?_
  rintro e W2 ⟨he, hb⟩
  have H2 := Lib.hid (H1.out.below hb)
  obtain ⟨q1, q2, q3, q4⟩ := H2.out.r
  clear hb
  cases hE : toE ((s6, t6), x6) with
  | ok p =>
    obtain ⟨s, t⟩ := p
    rw [hE] at he
    have he2 : e = .returned (.agg #[.string s, .string t]) := he
    subst he2
    have HE := Lib.hid hE
    clear hE he
    go_wp2_with fail
    refine bodyPost_ret (results_p rfl _ rfl (H2.out.res.set _ _)) rfl ⟨by rw [HE.out]; rfl, ?_⟩
    have hn := H2.out.nw
    exact (H2.out.bel.setCell (p := ⟨N + 1 + 1, 0, none⟩) (by show _ ≤ N + 1 + 1; omega) _).setCell (p := ⟨N + 1 + 1, 1, none⟩) (by show _ ≤ N + 1 + 1; omega) _
  | error x =>
    rw [hE] at he
    have he2 : e = thrown x := he
    subst he2
    have HE := Lib.hid hE
    clear hE he
    go_wp2_with fail
    exact ⟨rfl, by rw [HE.out]; rfl, H2.out.bel⟩
end Go.Proofs.CW
namespace Go.Proofs.CW
open Go.RowKit Go.Shelf Go.Sort Go.Lib Go.Proofs.YtjfclkbdkafkcaaGreatDoorW.PrintWords Go.Proofs.YtjfclkbdkafkcaaGreatDoor.PF
attribute [local go_sem] Oper.semAt_some

/-- Two parts in boxes. -/
structure Box2 (w W : World) (N : Nat) (a b : PS) : Prop where
  bel : Below w.heap.size w W
  nw : w.heap.size = N
  bx : PB W N a
  by_ : PB W (N + 1) b
theorem Box2.lt {w W : World} {N : Nat} {a b : PS} (h : Box2 w W N a b) : N + 1 < W.heap.size := (Array.getElem?_eq_some_iff.1 h.by_).1
theorem Box2.below {w W W' : World} {N : Nat} {a b : PS} (h : Box2 w W N a b) (hb : Below W.heap.size W W') : Box2 w W' N a b := by
  have hl := h.lt
  have hn := h.nw
  exact ⟨h.bel.trans (hb.mono (by omega)), h.nw, h.bx.below hb, h.by_.below hb⟩
theorem Box2.new (w : World) (a b : PS) : Box2 w ((w.alloc (.cells #[.string a.1, .string a.2] 24)).alloc (.cells #[.string b.1, .string b.2] 24)) w.heap.size a b := by
  refine ⟨((Below.refl _ w).alloc (Nat.le_refl _) _).alloc (by simp) _, rfl, (PB.new w a.1 a.2).alloc _, ?_⟩
  have := PB.new (w.alloc (.cells #[.string a.1, .string a.2] 24)) b.1 b.2
  rw [World.size_alloc] at this
  exact this
theorem Box2.s {w W : World} {N : Nat} {a b : PS} (h : Box2 w W N a b) : BoxPS N a b W := ⟨h.bx.cell.1, h.bx.cell.2.1, h.by_.cell.1, h.by_.cell.2.1⟩
end Go.Proofs.CW
namespace Go.Proofs.CW
open Go.RowKit Go.Shelf Go.Sort Go.Lib Go.Proofs.YtjfclkbdkafkcaaGreatDoorW.PrintWords Go.Proofs.YtjfclkbdkafkcaaGreatDoor.PF
attribute [local go_sem] Oper.semAt_some

/-- All strings lie in memory. -/
def Smalls (l : List PS) : Prop := ∀ p ∈ l, Small p
theorem foldlM_drop {i : Nat} {l : List PS} (hi : i < l.length) (f : PS → PS → Except Int PS) (s : PS) : (l.drop i).foldlM f s = (do let x ← f s l[i]; (l.drop (i + 1)).foldlM f x) := by
  rw [List.drop_eq_getElem_cons hi, List.foldlM_cons]
theorem small_add {a b p : PS} (h : toE (addR a b) = .ok p) : Small p := by
  unfold toE at h
  by_cases h0 : (addR a b).2 = 0
  · rw [if_pos h0] at h
    injection h with h
    subst h
    unfold addR at h0 ⊢
    by_cases hk : (okP a && okP b) = true
    · rw [if_pos hk] at h0 ⊢
      unfold mkR at h0 ⊢
      by_cases hf : fits (rat a + rat b) = true
      · rw [if_pos hf]
        exact Small.of (Is.mk_fits (Rat.add_nonneg (rat_nonneg a) (rat_nonneg b)) hf).ok
      · rw [if_neg hf] at h0; cases h0
    · rw [if_neg hk] at h0; cases h0
  · rw [if_neg h0] at h; cases h
set_option maxRecDepth 100000 in
set_option maxHeartbeats 1000000 in
/-- fold with the sum's step. -/
theorem fold1_calls (A : Option Addr) (c : Nat) (l : List PS) (s : PS) (hs : Small s) (hsm : Smalls l) (hl : l.length ≤ 1000000) (w : World) (ht : Tab w) (hc : Kd.C kP w A l.length l) :
    Calls Tryz.prog 125 #[.slice A l.length c, pv s, .func (.func 126) #[] #[]] w fun e W => e = outP (l.foldlM (fun s p => toE (addR s p)) s) ∧ Below w.heap.size w W := by
  obtain ⟨sn, sd⟩ := s
  have HC := Lib.hid (And.intro hc (And.intro ht hsm))
  have HS := Lib.hid hs
  obtain ⟨N, hN⟩ : ∃ N, w.heap.size = N := ⟨_, rfl⟩
  have HN := Lib.hid hN
  clear hc ht hsm hs
  go_enter Tryz.func125, Tryz.ntmps125
  go_wp2_with fail
  have h0 := Box2.new w (sn, sd) (⟨#[]⟩, ⟨#[]⟩)
  simp only [hN] at h0
  have H0 := Lib.hid h0
  clear h0 hN
  go_loopg [11] l.length (fun k s11 wr => ∃ (i : Nat) (s : PS), s11 = .int .i64 i ∧ i ≤ l.length ∧ Hid (i + k = l.length ∧ (l.drop i).foldlM (fun s p => toE (addR s p)) s = l.foldlM (fun s p => toE (addR s p)) (sn, sd) ∧ Small s) ∧ Hid (Box2 w wr N s (⟨#[]⟩, ⟨#[]⟩)))
  case atStart => exact ⟨0, (sn, sd), rfl, Nat.zero_le _, Lib.hid ⟨by simp, rfl, HS.out⟩, H0⟩
  case round =>
    obtain ⟨i, s, rfl, hi, HI, HB⟩ := hrel
    obtain ⟨s1, s2⟩ := s
    by_cases hlt : i < l.length
    · have i1 : (i : Int) < (l.length : Int) := by omega
      have i0 : (0 : Int) ≤ (i : Int) := by omega
      obtain ⟨ad, e, hc1, hc2⟩ := at_P (Kd.C_below HC.out.1 HB.out.bel) i hlt hlt
      subst e
      obtain ⟨p, hp⟩ : ∃ p, l[i] = p := ⟨_, rfl⟩
      rw [hp] at hc1 hc2
      have hst := foldlM_drop hlt (fun s p => toE (addR s p)) (s1, s2)
      rw [hp] at hst
      have hsp : Small p := hp ▸ HC.out.2.2 l[i] (List.getElem_mem hlt)
      obtain ⟨pn, pd⟩ := p
      have HP := Lib.hid (And.intro hst hsp)
      have hB2 := HB.out.below ((Below.refl _ wr).alloc (Nat.le_refl _) (.cells #[.string pn, .string pd] 24))
      obtain ⟨q1, q2, _, _⟩ := hB2.bx.cell
      have HB2 := Lib.hid hB2
      clear hp hst hsp hB2
      go_wp2_with fail
      refine (sum1_calls (s1, s2) (pn, pd) HI.out.2.2 HP.out.2 _ (HC.out.2.1.below HB2.out.bel)).mono ?_
      rintro e W ⟨he, hb⟩
      have H3 := Lib.hid (HB2.out.below hb)
      obtain ⟨q5, q6, q7, q8⟩ := (HB2.out.below hb).bx.cell
      clear hb q1 q2
      cases hE : toE (addR (s1, s2) (pn, pd)) with
      | ok x =>
        rw [hE] at he
        have hx := small_add hE
        obtain ⟨x1, x2⟩ := x
        have he2 : e = .returned (.agg #[.string x1, .string x2]) := he
        subst he2
        have HX := Lib.hid (And.intro hx (show (l.drop (i + 1)).foldlM (fun s p => toE (addR s p)) (x1, x2) = l.foldlM (fun s p => toE (addR s p)) (sn, sd) by
          rw [← HI.out.2.1, HP.out.1, hE]; rfl))
        clear he hx hE
        go_wp2_with fail
        go_roundg (gk - 1)
        case measure => have := HI.out.1; omega
        case rel =>
          refine ⟨i + 1, (x1, x2), by go_num, by omega, Lib.hid ⟨by have := HI.out.1; omega, HX.out.2, HX.out.1⟩, Lib.hid ⟨?_, H3.out.nw, H3.out.bx.set _ _, ?_⟩⟩
          · have hn := H3.out.nw
            exact (H3.out.bel.setCell (p := ⟨N, 0, none⟩) (by show _ ≤ N; omega) _).setCell (p := ⟨N, 1, none⟩) (by show _ ≤ N; omega) _
          · exact (heap_far (heap_far H3.out.by_ (by show N + 1 ≠ N; omega)) (by show N + 1 ≠ N; omega))
      | error x =>
        rw [hE] at he
        have he2 : e = thrown x := he
        subst he2
        have HX := Lib.hid (show l.foldlM (fun s p => toE (addR s p)) (sn, sd) = .error x by
          rw [← HI.out.2.1, HP.out.1, hE]; rfl)
        clear he hE
        go_wp2_with fail
        exact ⟨rfl, by rw [HX.out]; rfl, H3.out.bel⟩
    · obtain rfl : i = l.length := by omega
      have HE := Lib.hid (show l.foldlM (fun s p => toE (addR s p)) (sn, sd) = .ok (s1, s2) by rw [← HI.out.2.1, List.drop_length]; rfl)
      obtain ⟨q1, q2, q3, q4⟩ := HB.out.bx.cell
      obtain ⟨q5, q6, q7, q8⟩ := HB.out.by_.cell
      go_wp2_with fail
      refine bodyPost_ret (results_p rfl _ rfl (HB.out.by_.set _ _)) rfl ⟨by rw [HE.out]; rfl, ?_⟩
      have hn := HB.out.nw
      exact (HB.out.bel.setCell (p := ⟨N + 1, 0, none⟩) (by show _ ≤ N + 1; omega) _).setCell (p := ⟨N + 1, 1, none⟩) (by show _ ≤ N + 1; omega) _
end Go.Proofs.CW
