/-
  Part 2 of the proof: RR, K9, Alg3, K10, K11, K12, Alg4, K13, Alg5, K14, K15, K16.
-/
import Derived.Test.YtjfclkbdkafkcaaGreatDoorYZ1
import Derived.OrdersHeld
import Derived.OrdersIn
import Derived.StillTail
import Derived.Test.YtjfclkbdkafkcaaGreatDoorYShelf
import Derived.Laws.Externs
import Derived.Deep.LoopGhost
import Derived.Lib.SmallJoins
import Derived.Lib.ItoaMem
import Derived.Lib.AppendIntMem
set_option linter.unusedVariables false
set_option linter.unusedSimpArgs false
namespace Go.Proofs.CW
open Go.RowKit Go.Shelf

/-! A region that draws, in a round of a range over a function: the loads taken first (OrdersHeld), each order. -/
theorem rowsIn_wide' {n : Nat} {P : Program} {row : String} {args : Array Value} {w : World} {R : Value → World → Prop} (h : Rows P row args w R) : RowsIn Fence.wide n P row args w R :=
  fun c cs _ => let ⟨v, w', r, s⟩ := h c cs; ⟨v, w', r, stepsIn_wide.2 s⟩
theorem operIn_round {l n : Nat} {P : Program} {Q : Exit → Act → World → Prop} {o : Oper} {a : Act} {w : World} {K : Act → World → Prop} (hd : ∀ c, o.op ≠ .defer c) (h : o.wp P a w K Q) : o.wpIn (Fence.wide.inRound l) n P a w K Q := by
  unfold Oper.wp at h
  unfold Oper.wpIn
  refine ⟨fun _ _ => trivial, ?_⟩
  rw [Oper.semAt_eq _ _ _ hd]
  generalize (execOp a.eval o).run P w = r at h ⊢
  have hdep : (Fence.wide.inRound l).depth.isSome = true → 1 ≤ n := fun e => by cases e
  cases r with
  | ok x w' =>
    cases x <;> simp only [Oper.upon] at h <;> simp only [Oper.uponIn]
    case enter f args =>
      refine ⟨hdep, ?_⟩
      have h2 : CallsIn Fence.wide (n - 1) P f args w' _ := callsIn_wide.2 h
      exact CallsIn.mono (F := Fence.wide) h2 fun e w'' he => by cases e <;> exact he
    case row row args => exact ⟨hdep, rowsIn_wide' h⟩
    all_goals exact h
  | halt x w' => cases x <;> simp only [Oper.upon] at h <;> simp only [Oper.uponIn] <;> exact h
theorem opIn_round {l n : Nat} {P : Program} {ops : Array Oper} {Q : Exit → Act → World → Prop} {i : Nat} {a : Act} {w : World} {K : Act → World → Prop} (hno : ¬ LetsOut Q) (hd : ∀ o : Oper, ops[i]? = some o → ∀ c, o.op ≠ .defer c) (h : wpOp P ops Q i K a w) :
    wpOpIn (Fence.wide.inRound l) n P ops Q i K a w := by
  unfold wpOp at h
  unfold wpOpIn
  split
  · rename_i ho; simp only [ho] at h; exact h
  · rename_i o ho
    simp only [ho] at h
    split
    · rename_i hw
      simp only [hw, if_true] at h
      rcases h with h | h
      · exact operIn_round (hd o ho) h
      · exact absurd h.2 hno
    · rename_i hw
      simp only [hw] at h
      exact ⟨fun _ _ => trivial, h⟩
theorem anyIn_round {l n : Nat} {P : Program} {md : Region.Mode} {ops : Array Oper} {Q : Exit → Act → World → Prop} (hno : ¬ LetsOut Q) (hd : ∀ (i : Nat) (o : Oper), ops[i]? = some o → ∀ c, o.op ≠ .defer c) :
    ∀ (fuel : Nat) (listed : Array Bool) (a : Act) (w : World), wpAny P md ops Q fuel listed a w → wpAnyIn (Fence.wide.inRound l) n P md ops Q fuel listed a w
  | 0, _, _, _, h => h
  | fuel + 1, _, _, _, h => ⟨h.1, fun i hi => wpOpIn_mono (fun a' w' h' => anyIn_round hno hd fuel _ a' w' h') (opIn_round hno (hd i) (h.2 i hi))⟩
def noDefer (ops : Array Oper) : Bool := ops.all fun o => match o.op with | .defer _ => false | _ => true
theorem noDefer_spec {ops : Array Oper} (h : noDefer ops = true) : ∀ (i : Nat) (o : Oper), ops[i]? = some o → ∀ c, o.op ≠ .defer c := by
  intro i o hi c e
  have h1 := Array.all_eq_true.1 h i (Array.getElem?_eq_some_iff.1 hi).1
  rw [(Array.getElem?_eq_some_iff.1 hi).2] at h1
  rw [e] at h1
  cases h1
/-! The last operation writes what the others load: S is asked only ahead of it. -/
section
variable {P : Program} {ops : Array Oper} {Q : Exit → Act → World → Prop} {md : Region.Mode} {S : World → Prop} {T : Array Bool → Act → World → Prop}
def wpAnyT (P : Program) (md : Region.Mode) (ops : Array Oper) (Q : Exit → Act → World → Prop) (S : World → Prop) (T : Array Bool → Act → World → Prop) : Nat → Array Bool → Act → World → Prop
  | 0, listed, a, w => T listed a w
  | fuel + 1, listed, a, w => Region.ready md ops listed ≠ [] ∧ ∀ i ∈ Region.ready md ops listed, wpOp P ops Q i (fun a' w' => S w' ∧ wpAnyT P md ops Q S T fuel (listed.setIfInBounds i true) a' w') a w
theorem wpAny_of_T {g : Nat} (hT : ∀ listed a w, T listed a w → wpAny P md ops Q g listed a w) : ∀ (fuel : Nat) (listed : Array Bool) (a : Act) (w : World), wpAnyT P md ops Q S T fuel listed a w → wpAny P md ops Q (fuel + g) listed a w
  | 0, listed, a, w, h => by rw [Nat.zero_add]; exact hT _ _ _ h
  | fuel + 1, listed, a, w, h => by
    rw [show fuel + 1 + g = (fuel + g) + 1 by omega]
    exact ⟨fun h0 => absurd h0 h.1, fun i hi => wpOp_mono (fun a' w' h' => wpAny_of_T hT fuel _ a' w' h'.2) (h.2 i hi)⟩
theorem wpAnyT_first {i n : Nat} {oi : Oper} {v : Value} (hi : ops[i]? = some oi) (hsel : ∀ (j : Nat) (o : Oper) cs b, ops[j]? = some o → o.op ≠ .select cs b)
    (hQ : ∀ c a w, Q (.panic c) (a.put oi.dst v) w → Q (.panic c) a w) (hlast : Region.waitsFor md ops n i = true) (hT : ∀ listed a w, T listed a w → ∀ j ∈ Region.ready md ops listed, j = n) :
    ∀ (fuel : Nat) (listed : Array Bool) (a : Act) (w : World),
      (∀ j oj, ops[j]? = some oj → j ≠ i → listed.getD j true = false → (∀ e ∈ oj.after, Region.binds md e = true → e.on ≠ i) → oi.apart ops oj = true) →
      i ∈ Region.ready md ops listed → YieldsIf P ops S oi v a → S w →
      wpAnyT P md ops Q S T fuel (listed.setIfInBounds i true) (a.put oi.dst v) w → wpAnyT P md ops Q S T (fuel + 1) listed a w := by
  intro fuel
  have hnw : ∀ (listed : Array Bool) (j : Nat) (oj : Oper), i ∈ Region.ready md ops listed → ops[j]? = some oj → (∀ e ∈ oj.after, Region.binds md e = true → listed.getD e.on false = true) → ∀ e ∈ oj.after, Region.binds md e = true → e.on ≠ i := by
    intro listed j oj hr hoj hall e he hb heq
    have h1 := hall e he hb
    have h0 := (mem_ready.1 hr).1
    rw [heq] at h1
    rcases Nat.lt_or_ge i listed.size with h' | h'
    · simp [h'] at h0 h1; rw [h0] at h1; cases h1
    · simp [Array.getElem?_eq_none h'] at h1
  induction fuel with
  | zero =>
    intro listed a w _ hr hy hS H
    refine ⟨fun h => (by rw [h] at hr; cases hr), fun j hj => ?_⟩
    by_cases hji : j = i
    · subst hji; exact hy.wpOp hi hS ⟨hS, H⟩
    · obtain ⟨hjun, oj, hoj, hall⟩ := mem_ready.1 hj
      have e1 := hT _ _ _ H j (ready_mono hj hji)
      subst e1
      obtain ⟨on, hon, e, he, hb, heq⟩ := Region.waitsFor_spec hlast
      have e2 : on = oj := Option.some.inj (hon.symm.trans hoj)
      subst e2
      exact absurd heq (hnw listed j on hr hoj hall e he hb)
  | succ fuel ih =>
    intro listed a w hfree hr hy hS H
    refine ⟨fun h => (by rw [h] at hr; cases hr), fun j hj => ?_⟩
    by_cases hji : j = i
    · subst hji; exact hy.wpOp hi hS ⟨hS, H⟩
    · have h1 := H.2 j (ready_mono hj hji)
      obtain ⟨hjun, oj, hoj, hall⟩ := mem_ready.1 hj
      have hnot := hnw listed j oj hr hoj hall
      have h2 := wpOp_putIf hoj (hfree j oj hoj hji hjun hnot) (fun cs b => hsel i oi cs b hi) (fun cs b => hsel j oj cs b hoj) hQ hy h1
      have hfree' : ∀ k ok, ops[k]? = some ok → k ≠ i → (listed.setIfInBounds j true).getD k true = false →
          (∀ e ∈ ok.after, Region.binds md e = true → e.on ≠ i) → oi.apart ops ok = true := fun k ok hk hki hun hno => by
        refine hfree k ok hk hki ?_ hno
        by_cases hjk : j = k
        · subst hjk; exact hjun
        · rw [_root_.Go.getD_set_ne true hjk] at hun; exact hun
      refine wpOp_mono (fun a' w' h3 => ⟨h3.2.1, ih (listed.setIfInBounds j true) a' w' hfree' (ready_mono hr (Ne.symm hji)) h3.1 h3.2.1 ?_⟩) h2
      rw [Array.setIfInBounds_comm _ _ hji]
      exact h3.2.2
theorem wpAnyT_take {n : Nat} (i : Nat) {oi : Oper} (v : Value) {fuel : Nat} {listed : Array Bool} {a : Act} {w : World} (hi : ops[i]? = some oi)
    (hs : Region.noSelect ops = true) (hf : Region.free md ops listed i = true) (hr : (Region.ready md ops listed).contains i = true)
    (hQ : ∀ c a (d : Option Tmp) v w, Q (.panic c) (a.put d v) w → Q (.panic c) a w) (hlast : Region.waitsFor md ops n i = true) (hT : ∀ listed a w, T listed a w → ∀ j ∈ Region.ready md ops listed, j = n)
    (hS : S w) (hw : Region.wanted oi (yielded ops a.tmps) = true) (hy : ∀ w, S w → (execOp a.eval oi).run P w = .ok (.value v) w)
    (h : wpAnyT P md ops Q S T fuel (listed.setIfInBounds i true) (a.put oi.dst v) w) : wpAnyT P md ops Q S T (fuel + 1) listed a w :=
  wpAnyT_first hi (Region.noSelect_spec hs) (fun c a w => hQ c a _ _ w) hlast hT fuel listed a w (Region.free_spec hi hf) (by simpa using hr) (.inl ⟨hw, hy⟩) hS h
/-- The one operation that may come up, a store. -/
theorem anyT_store {i fuel : Nat} {o : Oper} {listed : Array Bool} {a : Act} {w : World} (w' : World) (hr : Region.ready md ops listed = [i]) (hi : ops[i]? = some o)
    (hw : Region.wanted o (yielded ops a.tmps) = true) (he : (execOp a.eval o).run P w = .ok .skip w') (hS : S w') (h : wpAnyT P md ops Q S T fuel (listed.setIfInBounds i true) (a.put o.dst undef) w') : wpAnyT P md ops Q S T (fuel + 1) listed a w := by
  refine ⟨by rw [hr]; simp, fun j hj => ?_⟩
  rw [hr, List.mem_singleton] at hj
  rw [hj]
  unfold wpOp
  simp only [hi, hw, if_true]
  refine .inl ?_
  unfold Oper.wp
  rw [he]
  exact ⟨hS, h⟩
/-- The last operation, a store. -/
def lastDone (P : Program) (ops : Array Oper) (Q : Exit → Act → World → Prop) (md : Region.Mode) (n : Nat) (listed : Array Bool) (a : Act) (w : World) : Prop :=
  Region.ready md ops listed = [n] ∧ ∃ o w', ops[n]? = some o ∧ Region.wanted o (yielded ops a.tmps) = true ∧ (execOp a.eval o).run P w = .ok .skip w' ∧ Region.ready md ops (listed.setIfInBounds n true) = [] ∧ Q .normal (a.put o.dst undef) w'
theorem lastDone_only {n : Nat} : ∀ listed a w, lastDone P ops Q md n listed a w → ∀ j ∈ Region.ready md ops listed, j = n := fun listed a w h j hj => by
  rw [h.1] at hj; exact List.mem_singleton.1 hj
theorem lastDone_any {n : Nat} (listed : Array Bool) (a : Act) (w : World) (h : lastDone P ops Q md n listed a w) : wpAny P md ops Q 1 listed a w := by
  obtain ⟨hr, o, w', ho, hw, he, hr', hq⟩ := h
  refine ⟨fun h0 => (by rw [hr] at h0; cases h0), fun j hj => ?_⟩
  rw [hr, List.mem_singleton] at hj
  rw [hj]
  unfold wpOp
  simp only [ho, hw, if_true]
  refine .inl ?_
  unfold Oper.wp
  rw [he]
  exact ⟨hr', hq⟩
/-- A region that draws, in a round; the last operation (number m) a store. -/
theorem region_round_last (S : World → Prop) {l k id m : Nat} {a : Act} {w : World} (hm : P.follows .mixedOrders = true) (hnd : noDefer ops = true) (hsz : ops.size = m + 1) (hno : ¬ LetsOut Q)
    (h : wpAnyT P .any ops Q S (lastDone P ops Q .any m) m (Array.replicate ops.size false) a w.drew) : (Code.region id ops true).wpIn (Fence.wide.inRound l) k P Q a w := by
  refine wpIn_region_any hm (anyIn_round hno (noDefer_spec hnd) _ _ _ _ ?_)
  have h2 := wpAny_of_T (g := 1) (lastDone_any (P := P) (ops := ops) (Q := Q) (md := .any) (n := m)) _ _ _ _ h
  rw [← hsz] at h2
  exact h2
end
theorem cell_far {W : World} {p q : Addr} {x v : Value} (h : W.cell? q = some v) (hne : q.block ≠ p.block) : (W.setCell p x).cell? q = some v := (World.cell?_of_block (Below.heap_setCell W p x _ hne)).trans h
theorem frozen_far {W : World} {p q : Addr} {x : Value} {b : Bool} (h : W.frozen? q = b) (hne : q.block ≠ p.block) : (W.setCell p x).frozen? q = b := (World.frozen?_of_block (Below.heap_setCell W p x _ hne)).trans h
theorem heap_far {W : World} {p : Addr} {x : Value} {k : Nat} {o : Option Obj} (h : W.heap[k]? = o) (hne : k ≠ p.block) : (W.setCell p x).heap[k]? = o := (Below.heap_setCell W p x _ hne).trans h
theorem put_far {W W3 : World} {l k : Nat} {x : Obj} {o : Option Obj} (hW : W.putObj l x = W3) (h : W.heap[k]? = o) (hne : k ≠ l) : W3.heap[k]? = o := by
  subst hW; exact (World.putObj_heap_other hne).trans h
theorem inBlock_normal {id : Nat} {Q : Exit → Act → World → Prop} {a : Act} {w : World} (h : Q .normal a w) : Exit.inBlock id Q .normal a w := h
end Go.Proofs.CW
namespace Go.Proofs.CW
open Go.RowKit Go.Shelf Go.Proofs.YtjfclkbdkafkcaaGreatDoorW.PrintWords Go.Proofs.YtjfclkbdkafkcaaGreatDoor.PF
attribute [local go_sem] Oper.semAt_some

theorem made_nums (n : Nat) : madeCells #[Value.int .u64 0] (n * 1) = (nums .u64 (List.replicate n 0)).toArray := by
  apply Array.ext
  · simp [madeCells, nums]
  · intro i h1 h2
    simp [madeCells, nums, Nat.mod_one]
theorem make_nums (W : World) (n : Nat) (hn : n ≤ 1000000) : (Instr.makeSlice 92 (.int .i64 n) (.int .i64 n)).run Tryz.prog W = .ok (.slice (some ⟨W.heap.size, 0, none⟩) n n) (W.alloc (.cells (nums .u64 (List.replicate n 0)).toArray 113)) := by
  obtain ⟨i0, hi, hz0, hz1, hz2⟩ := info_parts info_u64
  have h := run_make (P := Tryz.prog) W 92 113 i0 (.int .u64 0) Tryz.underlying92 hi hz0 .i64 .i64 n n (by omega) (by omega) (by rw [hz2]; omega) (by omega)
  rw [hz1] at h
  simp only [Int.toNat_natCast] at h
  rw [show (Value.int IntKind.u64 0).cells = #[Value.int .u64 0] from rfl, made_nums] at h
  exact h
theorem allocs7 (w : World) (o0 o1 o2 o3 o4 o5 o6 : Obj) {W : World} (h : ((((((w.alloc o0).alloc o1).alloc o2).alloc o3).alloc o4).alloc o5).alloc o6 = W) :
    W.heap[w.heap.size]? = some o0 ∧ W.heap[w.heap.size + 1]? = some o1 ∧ W.heap[w.heap.size + 1 + 1]? = some o2 ∧ W.heap[w.heap.size + 1 + 1 + 1]? = some o3 ∧ W.heap[w.heap.size + 1 + 1 + 1 + 1]? = some o4 ∧
    W.heap[w.heap.size + 1 + 1 + 1 + 1 + 1]? = some o5 ∧ W.heap[w.heap.size + 1 + 1 + 1 + 1 + 1 + 1]? = some o6 ∧ Below w.heap.size w W ∧ W.heap.size = w.heap.size + 1 + 1 + 1 + 1 + 1 + 1 + 1 := by
  obtain ⟨a, b, c, d, e, f, g⟩ := allocs5 w o0 o1 o2 o3 o4
  subst h
  refine ⟨alloc_at (alloc_at a), alloc_at (alloc_at b), alloc_at (alloc_at c), alloc_at (alloc_at d), alloc_at (alloc_at e), alloc_at (alloc_new g _), alloc_new (by rw [World.size_alloc, g]) _, (f.alloc (by rw [g]; omega) _).alloc (by rw [World.size_alloc, g]; omega) _, by rw [World.size_alloc, World.size_alloc, g]⟩
/-- Between two rounds of short. -/
structure ShM (w : World) (N : Nat) (A : Option Addr) (c : Nat) (xs : List Int) (d : Int) (zs : List Int) (r : Int) (rec : Loop) (W : World) : Prop where
  by_ : W.heap[N]? = some (.cells #[.int .u64 d] 113 (0, 0))
  row : W.heap[N + 1]? = some (.cells (nums .u64 zs).toArray 113 (0, 0))
  out : W.heap[N + 1 + 1]? = some (.cells #[.slice (some ⟨N + 1, 0, none⟩) xs.length xs.length] 92 (0, 0))
  res : W.heap[N + 1 + 1 + 1]? = some (.cells #[.int .u64 r] 113 (0, 0))
  src : W.heap[N + 1 + 1 + 1 + 1]? = some (.cells #[.slice A xs.length c] 92 (0, 0))
  dfr : W.heap[N + 1 + 1 + 1 + 1 + 1]? = some (.deferred (some []))
  rcd : W.heap[N + 1 + 1 + 1 + 1 + 1 + 1]? = some (.loop rec)
  size : N + 1 + 1 + 1 + 1 + 1 + 1 < W.heap.size
  bel : Below N w W
theorem ShM.turn {w : World} {N : Nat} {A : Option Addr} {c : Nat} {xs : List Int} {d : Int} {zs zs' : List Int} {r r' : Int} {rec rec' : Loop} {W W' : World} (J : ShM w N A c xs d zs r rec W)
    (hh : ∀ k, k ≠ N + 1 → k ≠ N + 1 + 1 + 1 → k ≠ N + 1 + 1 + 1 + 1 + 1 + 1 → W'.heap[k]? = W.heap[k]?) (hz : W'.heap[N + 1]? = some (.cells (nums .u64 zs').toArray 113 (0, 0))) (hr : W'.heap[N + 1 + 1 + 1]? = some (.cells #[.int .u64 r'] 113 (0, 0)))
    (hl : W'.heap[N + 1 + 1 + 1 + 1 + 1 + 1]? = some (.loop rec')) (hs : W'.heap.size = W.heap.size) (h1 : W'.os = W.os) (h2 : W'.tape = W.tape) (h3 : W'.output = W.output) : ShM w N A c xs d zs' r' rec' W' :=
  ⟨(hh _ (by omega) (by omega) (by omega)).trans J.by_, hz, (hh _ (by omega) (by omega) (by omega)).trans J.out, hr, (hh _ (by omega) (by omega) (by omega)).trans J.src, (hh _ (by omega) (by omega) (by omega)).trans J.dfr, hl, by rw [hs]; exact J.size,
    ⟨h1.trans J.bel.os, h2.trans J.bel.tape, h3.trans J.bel.output, by rw [hs]; exact J.bel.size, fun k hk => (hh k (by omega) (by omega) (by omega)).trans (J.bel.block k hk)⟩⟩
theorem nums_set (xs : List Int) (i : Nat) (x : Int) : (nums .u64 xs).toArray.setIfInBounds i (.int .u64 x) = (nums .u64 (xs.set i x)).toArray := by
  simp [nums, List.map_set]
/-- A round: two stores. -/
theorem ShM.store {w : World} {N : Nat} {A : Option Addr} {c : Nat} {xs : List Int} {d : Int} {zs : List Int} {r : Int} {rec rec' : Loop} {W W2 W' : World} (J : ShM w N A c xs d zs r rec W) (i : Nat) (q r' : Int)
    (s1 : SameBut (N + 1 + 1 + 1 + 1 + 1 + 1) W W2) (s2 : SameBut (N + 1 + 1 + 1 + 1 + 1 + 1) ((W2.drew.setCell ⟨N + 1, i, none⟩ (.int .u64 q)).setCell ⟨N + 1 + 1 + 1, 0, none⟩ (.int .u64 r')) W') (hl : W'.heap[N + 1 + 1 + 1 + 1 + 1 + 1]? = some (.loop rec')) :
    ShM w N A c xs d (zs.set i q) r' rec' W' := by
  have e1 : W2.drew.heap[N + 1]? = some (.cells (nums .u64 zs).toArray 113 (0, 0)) := (s1.heap _ (by omega)).trans J.row
  have e2 := blk_set e1 i (.int .u64 q)
  rw [nums_set] at e2
  have e3 : (W2.drew.setCell ⟨N + 1, i, none⟩ (.int .u64 q)).heap[N + 1 + 1 + 1]? = some (.cells #[.int .u64 r] 113 (0, 0)) := blk_far ((s1.heap _ (by omega)).trans J.res) (by show _ ≠ N + 1; omega) _
  have e4 := blk_set e3 0 (.int .u64 r')
  refine J.turn (fun k h1 h2 h => (s2.heap k h).trans ((Below.heap_setCell _ _ _ k h2).trans ((Below.heap_setCell _ _ _ k h1).trans (s1.heap k h)))) ((s2.heap _ (by omega)).trans (blk_far e2 (by show _ ≠ N + 1 + 1 + 1; omega) _)) ((s2.heap _ (by omega)).trans (by simpa using e4)) hl ?_
    (s2.os.trans s1.os) (s2.tape.trans s1.tape) (s2.output.trans s1.output)
  rw [s2.size, ← s1.size]; simp

theorem own_of_block {W : World} {g base n : Nat} {zs : List Int} (hg : W.heap[g]? = some (.cells (nums .u64 zs).toArray 113 (0, 0))) (hn : n = zs.length) (hb : base ≤ g) (hl : n ≤ 1000000) : Own W base (.slice (some ⟨g, 0, none⟩) n n) zs := by
  subst hn
  exact ⟨by simp [nums], .inr ⟨g, zs.length, (nums .u64 zs).toArray, rfl, hb, hg, Nat.le_refl _, by unfold maxLen; omega, by simp [nums], by simp [nums, List.take_of_length_le]⟩⟩
theorem limbs_of_block {W : World} {g n : Nat} {zs : List Int} (hg : W.heap[g]? = some (.cells (nums .u64 zs).toArray 113 (0, 0))) (hn : n = zs.length) (hl : n ≤ 1000000) : Limbs W (fun k => k = g) (.slice (some ⟨g, 0, none⟩) n n) zs := by
  subst hn
  have ho := own_of_block hg rfl (Nat.zero_le g) hl
  exact Kd.R_V (Kd.R_of_own ho (fun k hk => (Option.some.inj hk).symm))
theorem NumIn.step {W W' : World} {ok : Nat → Prop} {v : Value} {n : Nat} (h : NumIn W ok v n) (hm : ∀ k, ok k → k < W.heap.size → W'.heap[k]? = W.heap[k]?) : NumIn W' ok v n := by
  obtain ⟨xs, h1, h2⟩ := h.ex
  exact ⟨xs, Kd.V_step h1 hm, h2⟩

set_option maxRecDepth 100000 in
set_option maxHeartbeats 1000000 in
theorem short_in (F : Fence) (n : Nat) (hFw : Fence.wide = F) (hro : F.round = none) (hF : ∀ f, F.fn f) (hC : ∀ {m f : Nat} {args : Array Value} {w : World} {R : Ending → World → Prop}, Calls Tryz.prog f args w R → CallsIn F m Tryz.prog f args w R) (hn : 5 ≤ n)
    (A : Option Addr) (c : Nat) (xs : List Int) (hlen : xs.length ≤ 100000) (hlx : Lim 1000000000 xs) (d : Int) (hd : 0 < d ∧ d ≤ 1000000000) (w : World) (hx : Kd.C (Kd.int .u64) w A xs.length xs) :
    CallsIn F n Tryz.prog 138 #[.slice A xs.length c, .int .u64 d] w fun e W => ∃ v r, e = .returned (.tuple #[v, .int .u64 r]) ∧ (NumIn W (fun k => w.heap.size ≤ k) v (lv 1000000000 xs / d).toNat ∧ r = lv 1000000000 xs % d) ∧ Below w.heap.size w W := by
  have h1 : 1 ≤ n := by omega
  have hmk := fun (W : World) => make_nums W xs.length (by omega)
  have HX := Lib.hid hx
  have HL := Lib.hid hlx
  clear hx hlx
  (refine callsIn_of_wp_marks Tryz.func138 rfl (hF _) ?_ hro; simp only [Tryz.ntmps138, List.size_toArray, List.length_cons, List.length_nil, Nat.reduceAdd, Nat.reduceSub, Array.replicate_succ, Array.replicate_zero, List.push_toArray, List.append_toArray, List.nil_append, List.cons_append])
  gi_wp2_with fail
  refine (hC (backward_calls A xs.length c _)).mono ?_
  rintro e w1 ⟨rfl, rfl⟩
  gi_wp2_with fail
  refine range_in hro h1 (hF _) rfl (enters_of Tryz.func154 (by kernel_rfl) rfl) ?_
  intro fn hfn
  simp only [World.size_alloc, List.append_toArray, List.cons_append, List.nil_append]
  generalize hrec : loopRec fn _ _ _ _ _ _ _ = rec
  generalize hW1 : World.alloc _ (.loop rec) = W1
  have hM : ShM w w.heap.size A c xs d (List.replicate xs.length 0) 0 rec W1 := by
    obtain ⟨f0, f1, f2, f3, f4, f5, f6, f7, f8⟩ := allocs7 w _ _ _ _ _ _ _ hW1
    exact ⟨f0, f1, f2, f3, f4, f5, f6, by rw [f8]; omega, f7⟩
  clear hW1
  have Hrec := Lib.hid hrec
  clear hrec
  refine (backward_in F (n - 1) hro hF (by omega) _ _ c A xs (by omega) (fun i W => ∃ zs r, ShM w w.heap.size A c xs d zs r rec W ∧ Short d xs zs i r) (fun W => False)
    (fun i W ⟨zs, r, h1, h2⟩ => ⟨h1.src, Kd.C_below HX.out h1.bel⟩) ?round W1 ⟨_, _, hM, Short.start hd.1 xs⟩).mono ?done
  case round =>
    rintro i W hi ⟨zs, r, hJ, hS⟩
    have er := Hrec.out
    subst er
    have hcar := hS.car
    obtain ⟨hr1, hr2⟩ := hcar
    obtain ⟨xi, hxi⟩ : ∃ x, xs.getD i 0 = x := ⟨_, rfl⟩
    have hxr := lim_getD b9 HL.out i
    rw [hxi] at hxr ⊢
    have hst := hS.step hi hxi hxr
    have hzl := hS.len
    obtain ⟨hx1, hx2⟩ := hxr
    have HST := Lib.hid hst
    have HJ := Lib.hid hJ
    clear hJ hS hxi hst
    refine yield_round2 (hF _) HJ.out.rcd rfl rfl { tmps := #[.slice A xs.length c, .int .u64 d, undef, .pointer (some ⟨w.heap.size, 0, none⟩), .slice none 0 0, .int .u64 0, .pointer (some ⟨w.heap.size + 1 + 1, 0, none⟩), .pointer (some ⟨w.heap.size + 1 + 1 + 1, 0, none⟩), .int .i64 i, .int .u64 xi, .slice A xs.length c, .int .i64 xs.length, .slice (some ⟨w.heap.size + 1, 0, none⟩) xs.length xs.length, .slice A xs.length c, .func (.func 154) #[] #[.pointer (some ⟨w.heap.size + 1 + 1 + 1 + 1, 0, none⟩)], .int .i64 i, .int .u64 xi, undef, undef, undef, undef, undef, undef, undef, undef, undef, undef, undef, undef, undef, undef, undef, undef, undef, undef], defers := [] } ?_ ?_
    · intro K hK
      gi_wp2
      exact hK
    · intro W2 hsb hl2
      have J := HJ.out
      have b0 := blk_cell ((hsb.heap _ (by omega)).trans J.by_) 0
      have b1 := blk_cell ((hsb.heap _ (by omega)).trans J.row) i
      have b2 := blk_cell ((hsb.heap _ (by omega)).trans J.out) 0
      have b3 := blk_cell ((hsb.heap _ (by omega)).trans J.res) 0
      have f1 := blk_frozen ((hsb.heap _ (by omega)).trans J.row) i
      have f3 := blk_frozen ((hsb.heap _ (by omega)).trans J.res) 0
      simp only [List.getElem?_toArray, List.getElem?_cons_zero] at b0 b1 b2 b3
      have b1' : W2.cell? ⟨w.heap.size + 1, i, none⟩ = some (.int .u64 (zs.getD i 0)) := by rw [b1, getD_lt (by omega : i < zs.length)]; simp [nums, show i < zs.length by omega]
      obtain ⟨z, hz⟩ : ∃ z, zs.getD i 0 = z := ⟨_, rfl⟩
      rw [hz] at b1'
      have HSB := Lib.hid hsb
      have HL2 := Lib.hid hl2
      have k1 : (0 : Int) ≤ (i : Int) := by omega
      have k2 : (i : Int) < (xs.length : Int) := by omega
      obtain ⟨g1, g2, g3, g4⟩ := short_range hd.2 ⟨hr1, hr2⟩ ⟨hx1, hx2⟩
      have hd0 : ¬ d = 0 := by omega
      obtain ⟨g5, g6⟩ := short_q hd.1 g3 g4
      clear hsb hl2 J b1 hz
      gi_wp2
      subst hFw
      refine region_round_last (m := 16) (fun W => W.cell? ⟨w.heap.size + 1 + 1, 0, none⟩ = some (.slice (some ⟨w.heap.size + 1, 0, none⟩) xs.length xs.length) ∧ W.cell? ⟨w.heap.size + 1 + 1 + 1, 0, none⟩ = some (.int .u64 r) ∧ W.cell? ⟨w.heap.size, 0, none⟩ = some (.int .u64 d)) (by kernel_rfl) (by kernel_rfl) rfl (fun ⟨_, _, h⟩ => h) ?_
      have hS : W2.drew.cell? ⟨w.heap.size + 1 + 1, 0, none⟩ = some (.slice (some ⟨w.heap.size + 1, 0, none⟩) xs.length xs.length) ∧ W2.drew.cell? ⟨w.heap.size + 1 + 1 + 1, 0, none⟩ = some (.int .u64 r) ∧ W2.drew.cell? ⟨w.heap.size, 0, none⟩ = some (.int .u64 d) := ⟨b2, b3, b0⟩
      refine wpAnyT_take 0 (.slice (some ⟨w.heap.size + 1, 0, none⟩) xs.length xs.length) rfl (by kernel_rfl) (by kernel_rfl) (by kernel_rfl) (fun _ _ _ _ _ h => h) (by kernel_rfl) lastDone_only hS (by kernel_rfl) (fun W hW => by obtain ⟨s1, s2, s3⟩ := hW; (first | (go_simp; done) | (go_simp; simp only [wu64 g1 (by omega), wu64 g3 (by omega), tdivB g3, tmodB g3, wu64 g5 g6]))) ?_
      try simp only [Act.put, List.setIfInBounds_toArray, List.set_cons_zero, List.set_cons_succ]
      refine wpAnyT_take 1 (.int .i64 i) rfl (by kernel_rfl) (by kernel_rfl) (by kernel_rfl) (fun _ _ _ _ _ h => h) (by kernel_rfl) lastDone_only hS (by kernel_rfl) (fun W hW => by obtain ⟨s1, s2, s3⟩ := hW; (first | (go_simp; done) | (go_simp; simp only [wu64 g1 (by omega), wu64 g3 (by omega), tdivB g3, tmodB g3, wu64 g5 g6]))) ?_
      try simp only [Act.put, List.setIfInBounds_toArray, List.set_cons_zero, List.set_cons_succ]
      refine wpAnyT_take 2 (.int .u64 r) rfl (by kernel_rfl) (by kernel_rfl) (by kernel_rfl) (fun _ _ _ _ _ h => h) (by kernel_rfl) lastDone_only hS (by kernel_rfl) (fun W hW => by obtain ⟨s1, s2, s3⟩ := hW; (first | (go_simp; done) | (go_simp; simp only [wu64 g1 (by omega), wu64 g3 (by omega), tdivB g3, tmodB g3, wu64 g5 g6]))) ?_
      try simp only [Act.put, List.setIfInBounds_toArray, List.set_cons_zero, List.set_cons_succ]
      refine wpAnyT_take 3 (.int .u64 (r * 1000000000)) rfl (by kernel_rfl) (by kernel_rfl) (by kernel_rfl) (fun _ _ _ _ _ h => h) (by kernel_rfl) lastDone_only hS (by kernel_rfl) (fun W hW => by obtain ⟨s1, s2, s3⟩ := hW; (first | (go_simp; done) | (go_simp; simp only [wu64 g1 (by omega), wu64 g3 (by omega), tdivB g3, tmodB g3, wu64 g5 g6]))) ?_
      try simp only [Act.put, List.setIfInBounds_toArray, List.set_cons_zero, List.set_cons_succ]
      refine wpAnyT_take 4 (.int .u64 xi) rfl (by kernel_rfl) (by kernel_rfl) (by kernel_rfl) (fun _ _ _ _ _ h => h) (by kernel_rfl) lastDone_only hS (by kernel_rfl) (fun W hW => by obtain ⟨s1, s2, s3⟩ := hW; (first | (go_simp; done) | (go_simp; simp only [wu64 g1 (by omega), wu64 g3 (by omega), tdivB g3, tmodB g3, wu64 g5 g6]))) ?_
      try simp only [Act.put, List.setIfInBounds_toArray, List.set_cons_zero, List.set_cons_succ]
      refine wpAnyT_take 5 (.int .u64 (r * 1000000000 + xi)) rfl (by kernel_rfl) (by kernel_rfl) (by kernel_rfl) (fun _ _ _ _ _ h => h) (by kernel_rfl) lastDone_only hS (by kernel_rfl) (fun W hW => by obtain ⟨s1, s2, s3⟩ := hW; (first | (go_simp; done) | (go_simp; simp only [wu64 g1 (by omega), wu64 g3 (by omega), tdivB g3, tmodB g3, wu64 g5 g6]))) ?_
      try simp only [Act.put, List.setIfInBounds_toArray, List.set_cons_zero, List.set_cons_succ]
      refine wpAnyT_take 6 (.int .u64 d) rfl (by kernel_rfl) (by kernel_rfl) (by kernel_rfl) (fun _ _ _ _ _ h => h) (by kernel_rfl) lastDone_only hS (by kernel_rfl) (fun W hW => by obtain ⟨s1, s2, s3⟩ := hW; (first | (go_simp; done) | (go_simp; simp only [wu64 g1 (by omega), wu64 g3 (by omega), tdivB g3, tmodB g3, wu64 g5 g6]))) ?_
      try simp only [Act.put, List.setIfInBounds_toArray, List.set_cons_zero, List.set_cons_succ]
      refine wpAnyT_take 7 (.int .u64 ((r * 1000000000 + xi) / d)) rfl (by kernel_rfl) (by kernel_rfl) (by kernel_rfl) (fun _ _ _ _ _ h => h) (by kernel_rfl) lastDone_only hS (by kernel_rfl) (fun W hW => by obtain ⟨s1, s2, s3⟩ := hW; (first | (go_simp; done) | (go_simp; simp only [wu64 g1 (by omega), wu64 g3 (by omega), tdivB g3, tmodB g3, wu64 g5 g6]))) ?_
      try simp only [Act.put, List.setIfInBounds_toArray, List.set_cons_zero, List.set_cons_succ]
      refine wpAnyT_take 8 (.int .u64 r) rfl (by kernel_rfl) (by kernel_rfl) (by kernel_rfl) (fun _ _ _ _ _ h => h) (by kernel_rfl) lastDone_only hS (by kernel_rfl) (fun W hW => by obtain ⟨s1, s2, s3⟩ := hW; (first | (go_simp; done) | (go_simp; simp only [wu64 g1 (by omega), wu64 g3 (by omega), tdivB g3, tmodB g3, wu64 g5 g6]))) ?_
      try simp only [Act.put, List.setIfInBounds_toArray, List.set_cons_zero, List.set_cons_succ]
      refine wpAnyT_take 9 (.int .u64 (r * 1000000000)) rfl (by kernel_rfl) (by kernel_rfl) (by kernel_rfl) (fun _ _ _ _ _ h => h) (by kernel_rfl) lastDone_only hS (by kernel_rfl) (fun W hW => by obtain ⟨s1, s2, s3⟩ := hW; (first | (go_simp; done) | (go_simp; simp only [wu64 g1 (by omega), wu64 g3 (by omega), tdivB g3, tmodB g3, wu64 g5 g6]))) ?_
      try simp only [Act.put, List.setIfInBounds_toArray, List.set_cons_zero, List.set_cons_succ]
      refine wpAnyT_take 10 (.int .u64 xi) rfl (by kernel_rfl) (by kernel_rfl) (by kernel_rfl) (fun _ _ _ _ _ h => h) (by kernel_rfl) lastDone_only hS (by kernel_rfl) (fun W hW => by obtain ⟨s1, s2, s3⟩ := hW; (first | (go_simp; done) | (go_simp; simp only [wu64 g1 (by omega), wu64 g3 (by omega), tdivB g3, tmodB g3, wu64 g5 g6]))) ?_
      try simp only [Act.put, List.setIfInBounds_toArray, List.set_cons_zero, List.set_cons_succ]
      refine wpAnyT_take 11 (.int .u64 (r * 1000000000 + xi)) rfl (by kernel_rfl) (by kernel_rfl) (by kernel_rfl) (fun _ _ _ _ _ h => h) (by kernel_rfl) lastDone_only hS (by kernel_rfl) (fun W hW => by obtain ⟨s1, s2, s3⟩ := hW; (first | (go_simp; done) | (go_simp; simp only [wu64 g1 (by omega), wu64 g3 (by omega), tdivB g3, tmodB g3, wu64 g5 g6]))) ?_
      try simp only [Act.put, List.setIfInBounds_toArray, List.set_cons_zero, List.set_cons_succ]
      refine wpAnyT_take 12 (.int .u64 d) rfl (by kernel_rfl) (by kernel_rfl) (by kernel_rfl) (fun _ _ _ _ _ h => h) (by kernel_rfl) lastDone_only hS (by kernel_rfl) (fun W hW => by obtain ⟨s1, s2, s3⟩ := hW; (first | (go_simp; done) | (go_simp; simp only [wu64 g1 (by omega), wu64 g3 (by omega), tdivB g3, tmodB g3, wu64 g5 g6]))) ?_
      try simp only [Act.put, List.setIfInBounds_toArray, List.set_cons_zero, List.set_cons_succ]
      refine wpAnyT_take 13 (.int .u64 ((r * 1000000000 + xi) % d)) rfl (by kernel_rfl) (by kernel_rfl) (by kernel_rfl) (fun _ _ _ _ _ h => h) (by kernel_rfl) lastDone_only hS (by kernel_rfl) (fun W hW => by obtain ⟨s1, s2, s3⟩ := hW; (first | (go_simp; done) | (go_simp; simp only [wu64 g1 (by omega), wu64 g3 (by omega), tdivB g3, tmodB g3, wu64 g5 g6]))) ?_
      try simp only [Act.put, List.setIfInBounds_toArray, List.set_cons_zero, List.set_cons_succ]
      refine wpAnyT_take 14 (.pointer (some ⟨w.heap.size + 1, i, none⟩)) rfl (by kernel_rfl) (by kernel_rfl) (by kernel_rfl) (fun _ _ _ _ _ h => h) (by kernel_rfl) lastDone_only hS (by kernel_rfl) (fun W hW => by obtain ⟨s1, s2, s3⟩ := hW; (first | (go_simp; done) | (go_simp; simp only [wu64 g1 (by omega), wu64 g3 (by omega), tdivB g3, tmodB g3, wu64 g5 g6]))) ?_
      try simp only [Act.put, List.setIfInBounds_toArray, List.set_cons_zero, List.set_cons_succ]
      have hS1 : (W2.drew.setCell ⟨w.heap.size + 1, i, none⟩ (.int .u64 ((r * 1000000000 + xi) / d))).cell? ⟨w.heap.size + 1 + 1, 0, none⟩ = some (.slice (some ⟨w.heap.size + 1, 0, none⟩) xs.length xs.length) ∧ (W2.drew.setCell ⟨w.heap.size + 1, i, none⟩ (.int .u64 ((r * 1000000000 + xi) / d))).cell? ⟨w.heap.size + 1 + 1 + 1, 0, none⟩ = some (.int .u64 r) ∧ (W2.drew.setCell ⟨w.heap.size + 1, i, none⟩ (.int .u64 ((r * 1000000000 + xi) / d))).cell? ⟨w.heap.size, 0, none⟩ = some (.int .u64 d) := ⟨cell_far (W := W2.drew) b2 (by dsimp only; omega), cell_far (W := W2.drew) b3 (by dsimp only; omega), cell_far (W := W2.drew) b0 (by dsimp only; omega)⟩
      have hF1 : (W2.drew.setCell ⟨w.heap.size + 1, i, none⟩ (.int .u64 ((r * 1000000000 + xi) / d))).frozen? ⟨w.heap.size + 1 + 1 + 1, 0, none⟩ = false := frozen_far (W := W2.drew) f3 (by dsimp only; omega)
      refine anyT_store (i := 15) (W2.drew.setCell ⟨w.heap.size + 1, i, none⟩ (.int .u64 ((r * 1000000000 + xi) / d))) (by kernel_rfl) rfl (by kernel_rfl) (by go_simp) hS1 ?_
      try simp only [Act.put, List.setIfInBounds_toArray, List.set_cons_zero, List.set_cons_succ]
      obtain ⟨hs1, hs2, hs3⟩ := hS1
      refine ⟨by kernel_rfl, _, ((W2.drew.setCell ⟨w.heap.size + 1, i, none⟩ (.int .u64 ((r * 1000000000 + xi) / d))).setCell ⟨w.heap.size + 1 + 1 + 1, 0, none⟩ (.int .u64 ((r * 1000000000 + xi) % d))), rfl, by kernel_rfl, by go_simp, by kernel_rfl, ?_⟩
      have hl3 : (((W2.drew.setCell ⟨w.heap.size + 1, i, none⟩ (.int .u64 ((r * 1000000000 + xi) / d))).setCell ⟨w.heap.size + 1 + 1 + 1, 0, none⟩ (.int .u64 ((r * 1000000000 + xi) % d)))).heap[w.heap.size + 1 + 1 + 1 + 1 + 1 + 1]? = _ := heap_far (heap_far (W := W2.drew) HL2.out (by show w.heap.size + 1 + 1 + 1 + 1 + 1 + 1 ≠ w.heap.size + 1; omega)) (by show w.heap.size + 1 + 1 + 1 + 1 + 1 + 1 ≠ w.heap.size + 1 + 1 + 1; omega)
      refine inBlock_normal ?_
      generalize Act.put _ _ _ = aE
      refine round_ends2 hl3 ?_
      intro W' hs' hl'
      exact .inl ⟨rfl, _, _, HJ.out.store i _ _ HSB.out hs' hl', HST.out⟩
  case done =>
    rintro e W ⟨⟨v, rfl⟩, (⟨zs, r, hJ, hS⟩ | h)⟩
    · have HS := Lib.hid hS
      have HJ := Lib.hid hJ
      refine range_done (r := rec) hJ.rcd (by rw [← Hrec.out]) (by rw [← Hrec.out]) ?_
      obtain ⟨W3, hW3⟩ : ∃ W3, W.putObj (w.heap.size + 1 + 1 + 1 + 1 + 1 + 1) (.loop { rec with state := .exhausted }) = W3 := ⟨_, rfl⟩
      have hrow := put_far hW3 hJ.row (by omega)
      have hout := put_far hW3 hJ.out (by omega)
      have hres := put_far hW3 hJ.res (by omega)
      have hdfr := put_far hW3 hJ.dfr (by omega)
      have hsz : w.heap.size + 1 + 1 + 1 + 1 + 1 + 1 < W3.heap.size := by rw [← hW3]; simpa using hJ.size
      have hbel : Below w.heap.size w W3 := by rw [← hW3]; exact hJ.bel.grown (grownBy_putObj' W _ _) hJ.bel.size (fun k e => by cases e; omega)
      have c2 := blk_cell hout 0
      have c3 := blk_cell hres 0
      simp only [List.getElem?_toArray, List.getElem?_cons_zero] at c2 c3
      have HD := Lib.hid (And.intro hrow (And.intro hdfr (And.intro hsz hbel)))
      clear hS hJ hrow hout hres hdfr hsz hbel
      rw [hW3]
      clear hW3
      gi_wp2
      subst hFw
      have HC := Lib.hid (show Calls Tryz.prog 120 #[.slice (some ⟨w.heap.size + 1, 0, none⟩) xs.length xs.length] W3.drew (fun e W4 => ∃ u, e = .returned u ∧ Hid (NumIn W4 (fun k => k = w.heap.size + 1 ∨ w.heap.size + 1 + 1 + 1 + 1 + 1 + 1 < k) u (lv 1000000000 zs).toNat ∧ Below w.heap.size w W4 ∧ W4.heap[w.heap.size + 1 + 1 + 1 + 1 + 1]? = some (.deferred (some []))) ∧ W4.cell? ⟨w.heap.size + 1 + 1, 0, none⟩ = some (.slice (some ⟨w.heap.size + 1, 0, none⟩) xs.length xs.length) ∧ W4.cell? ⟨w.heap.size + 1 + 1 + 1, 0, none⟩ = some (.int .u64 r)) from by
        have hrow := HD.out.1
        have hsz := HD.out.2.2.1
        have hlen := HS.out.len
        have hl : Limbs W3.drew (fun k => k = w.heap.size + 1) (.slice (some ⟨w.heap.size + 1, 0, none⟩) xs.length xs.length) zs := limbs_of_block hrow hlen.symm (by omega)
        refine (trim_calls W3.drew _ _ zs hl HS.out.lim (by omega)).mono ?_
        rintro e W4 ⟨u, rfl, hu, hb⟩
        have hsz' : W3.drew.heap.size = W3.heap.size := rfl
        refine ⟨u, rfl, Lib.hid ⟨hu.mono (fun k hk => by omega), (below_drew1 HD.out.2.2.2).trans (hb.mono HD.out.2.2.2.size), (hb.block _ (by omega)).trans HD.out.2.1⟩, ?_, ?_⟩
        · exact (World.cell?_of_block (w := W3.drew) (hb.block _ (by show w.heap.size + 1 + 1 < _; omega))).trans c2
        · exact (World.cell?_of_block (w := W3.drew) (hb.block _ (by show w.heap.size + 1 + 1 + 1 < _; omega))).trans c3)
      have hS : W3.drew.cell? ⟨w.heap.size + 1 + 1, 0, none⟩ = some (.slice (some ⟨w.heap.size + 1, 0, none⟩) xs.length xs.length) ∧ W3.drew.cell? ⟨w.heap.size + 1 + 1 + 1, 0, none⟩ = some (.int .u64 r) := ⟨c2, c3⟩
      refine wpIn_wide.2 ?_
      go_region_held3 (fun W => W.cell? ⟨w.heap.size + 1 + 1, 0, none⟩ = some (.slice (some ⟨w.heap.size + 1, 0, none⟩) xs.length xs.length) ∧ W.cell? ⟨w.heap.size + 1 + 1 + 1, 0, none⟩ = some (.int .u64 r)) (first | exact hS | exact ⟨k1, k2⟩) (first | (go_at_call 120; refine HC.out.mono ?_; rintro e W4 ⟨u, rfl, HU, k1, k2⟩))
      gi_wp2
      refine ⟨by simp, .inl ⟨_, _, rfl, run_takeDeferred HU.out.2.2, ?_⟩⟩
      obtain ⟨hn, hb, hdf⟩ := HU.out
      obtain ⟨e1, e2⟩ := HS.out.done
      refine ⟨_, results_tmp2 (t := 4) (u := 5) rfl _ _ _, u, r, rfl, ⟨?_, e2⟩, hb.grown (grownBy_putObj' _ _ _) (by have := hb.size; simp; omega) (fun k e => by cases e; omega)⟩
      rw [← e1]
      exact (hn.step (fun k hk _ => World.putObj_heap_other (by omega))).mono (fun k hk => by omega)
    · exact h.elim

theorem short_calls (v : Value) (a : Nat) (d : Int) (w : World) (ha : Num w v a) (hd : 0 < d ∧ d ≤ 1000000000) (hA : (a : Int) < 1000000000 ^ 1000) :
    Calls Tryz.prog 138 #[v, .int .u64 d] w fun e W => ∃ q, e = .returned (.tuple #[q, .int .u64 ((a : Int) % d)]) ∧ NumIn W (fun k => w.heap.size ≤ k) q (a / d.toNat) ∧ Below w.heap.size w W := by
  obtain ⟨xs, h1, h2, h3, h4⟩ := ha.ex
  obtain ⟨A, c, rfl⟩ := Kd.V_slice h1
  have hl1 : xs.length ≤ 1000 := length_le_of_lt b9 h2 h3 (by rw [h4]; exact hA)
  refine (callsIn_wide.1 (short_in Fence.wide 9 rfl rfl (fun _ => trivial) (fun h => callsIn_wide.2 h) (by omega) A c xs (by omega) h2 d hd w (Kd.V_reads' h1).2.2)).mono ?_
  rintro e W ⟨q, r, rfl, ⟨hq, rfl⟩, hb⟩
  rw [h4] at hq ⊢
  have e1 : ((a : Int) / d).toNat = a / d.toNat := by
    obtain ⟨m, rfl⟩ := Int.eq_ofNat_of_zero_le (Int.le_of_lt hd.1)
    rw [← Int.natCast_ediv, Int.toNat_natCast, Int.toNat_natCast]
  rw [e1] at hq
  exact ⟨q, rfl, hq, hb⟩
end Go.Proofs.CW
namespace Go.Proofs.CW

/-- A multiple is taken away in place, so far: t times ys, from xs; c the carry, b the borrow. -/
structure Take (t : Int) (xs ys zs : List Int) (k : Nat) (c b : Int) : Prop where
  len : zs.length = xs.length
  lim : Lim 1000000000 zs
  car : 0 ≤ c ∧ c < 1000000000
  bor : 0 ≤ b ∧ b ≤ 1
  rest : ∀ j, k ≤ j → zs.getD j 0 = xs.getD j 0
  val : lv 1000000000 (zs.take k) = lv 1000000000 (xs.take k) - t * lv 1000000000 (ys.take k) + 1000000000 ^ k * (c + b)
theorem Take.start {t : Int} {xs : List Int} (h : Lim 1000000000 xs) (ys : List Int) : Take t xs ys xs 0 0 0 := ⟨rfl, h, by omega, by omega, fun _ _ => rfl, by simp [lv]⟩
theorem take_bound {t y c b : Int} (ht : 0 ≤ t ∧ t < 1000000000) (hy : 0 ≤ y ∧ y < 1000000000) (hc : 0 ≤ c ∧ c < 1000000000) (hb : 0 ≤ b ∧ b ≤ 1) :
    0 ≤ y * t ∧ y * t ≤ 999999999 * 999999999 ∧ 0 ≤ c + b + y * t ∧ c + b + y * t < 1000000000 * 1000000000 := by
  have h1 : 0 ≤ y * t := Int.mul_nonneg hy.1 ht.1
  have h2 : y * t ≤ 999999999 * 999999999 := Int.mul_le_mul (by omega) (by omega) ht.1 (by omega)
  refine ⟨h1, h2, by omega, by omega⟩
theorem Take.step {t : Int} {xs ys zs : List Int} {k : Nat} {c b x y v b' : Int} (h : Take t xs ys zs k c b) (ht : 0 ≤ t ∧ t < 1000000000) (hy : Lim 1000000000 ys) (hk : k < xs.length) (hx : xs.getD k 0 = x) (hyk : ys.getD k 0 = y)
    (hv : v = x - (c + b + y * t) % 1000000000 + 1000000000 * b') (hb : 0 ≤ b' ∧ b' ≤ 1) (hr : 0 ≤ v ∧ v < 1000000000) : Take t xs ys (zs.set k v) (k + 1) ((c + b + y * t) / 1000000000) b' := by
  have hl := h.len
  have hyr := lim_getD b9 hy k
  rw [hyk] at hyr
  obtain ⟨_, _, g3, g4⟩ := take_bound ht hyr h.car h.bor
  refine ⟨by rw [List.length_set]; exact hl, lim_set h.lim _ hr.1 hr.2, by omega, hb, fun j hj => ?_, ?_⟩
  · rw [getD_set_ne v (by omega)]; exact h.rest j (by omega)
  · rw [lv_take_set _ v (by omega), lv_take_succ', lv_take_succ', Int.pow_succ, hx, hyk]
    have h4 := h.val
    have h5 := Int.emod_add_mul_ediv (c + b + y * t) 1000000000
    generalize (c + b + y * t) % 1000000000 = m at h5 hv
    generalize (c + b + y * t) / 1000000000 = q at h5 ⊢
    generalize (1000000000 : Int) ^ k = p at h4 ⊢
    subst hv
    rw [h4]
    grind
theorem Take.done {t : Int} {xs ys zs : List Int} {c b : Int} (h : Take t xs ys zs xs.length c b) (hl : ys.length ≤ xs.length) : lv 1000000000 zs = lv 1000000000 xs - t * lv 1000000000 ys + 1000000000 ^ xs.length * (c + b) := by
  have h1 := h.val
  rw [List.take_length, List.take_of_length_le hl, List.take_of_length_le (by rw [h.len]; exact Nat.le_refl _)] at h1
  exact h1
/-- A number is given back in place, so far. -/
structure Give (xs ys zs : List Int) (k : Nat) (c : Int) : Prop where
  len : zs.length = xs.length
  lim : Lim 1000000000 zs
  car : 0 ≤ c ∧ c ≤ 1
  rest : ∀ j, k ≤ j → zs.getD j 0 = xs.getD j 0
  val : lv 1000000000 (zs.take k) + 1000000000 ^ k * c = lv 1000000000 (xs.take k) + lv 1000000000 (ys.take k)
theorem Give.start {xs : List Int} (h : Lim 1000000000 xs) (ys : List Int) : Give xs ys xs 0 0 := ⟨rfl, h, by omega, fun _ _ => rfl, by simp [lv]⟩
theorem Give.step {xs ys zs : List Int} {k : Nat} {c x y : Int} (h : Give xs ys zs k c) (hx : Lim 1000000000 xs) (hy : Lim 1000000000 ys) (hk : k < xs.length) (hxk : xs.getD k 0 = x) (hyk : ys.getD k 0 = y) :
    Give xs ys (zs.set k ((c + x + y) % 1000000000)) (k + 1) ((c + x + y) / 1000000000) := by
  have hl := h.len
  have hyr := lim_getD b9 hy k
  have hxr := lim_getD b9 hx k
  rw [hyk] at hyr
  rw [hxk] at hxr
  have hc := h.car
  refine ⟨by rw [List.length_set]; exact hl, lim_set h.lim _ (by omega) (by omega), by omega, fun j hj => ?_, ?_⟩
  · rw [getD_set_ne _ (by omega)]; exact h.rest j (by omega)
  · rw [lv_take_set _ _ (by omega), lv_take_succ', lv_take_succ', Int.pow_succ, hxk, hyk]
    have h4 := h.val
    have h5 := Int.emod_add_mul_ediv (c + x + y) 1000000000
    generalize (c + x + y) % 1000000000 = m at h5 ⊢
    generalize (c + x + y) / 1000000000 = q at h5 ⊢
    generalize (1000000000 : Int) ^ k = p at h4 ⊢
    grind
theorem Give.done {xs ys zs : List Int} {c : Int} (h : Give xs ys zs xs.length c) (hl : ys.length ≤ xs.length) : lv 1000000000 zs + 1000000000 ^ xs.length * c = lv 1000000000 xs + lv 1000000000 ys := by
  have h1 := h.val
  rw [List.take_length, List.take_of_length_le hl, List.take_of_length_le (by rw [h.len]; exact Nat.le_refl _)] at h1
  exact h1
end Go.Proofs.CW
namespace Go.Proofs.CW
open Go.RowKit Go.Shelf Go.Proofs.YtjfclkbdkafkcaaGreatDoorW.PrintWords Go.Proofs.YtjfclkbdkafkcaaGreatDoor.PF
attribute [local go_sem] Oper.semAt_some

/-- Some limbs inside a block: pre lies before them, post behind them. -/
def Sub (W : World) (g : Nat) (pre post : List Value) (xs : List Int) : Prop := W.heap[g]? = some (.cells (pre ++ (nums .u64 xs ++ post)).toArray 113 (0, 0))
/-- What else is in W' is as in W. -/
structure Others (g : Nat) (W W' : World) : Prop where
  os : W'.os = W.os
  tape : W'.tape = W.tape
  output : W'.output = W.output
  size : W.heap.size ≤ W'.heap.size
  heap : ∀ k, k < W.heap.size → k ≠ g → W'.heap[k]? = W.heap[k]?
theorem Others.refl (g : Nat) (W : World) : Others g W W := ⟨rfl, rfl, rfl, Nat.le_refl _, fun _ _ _ => rfl⟩
theorem Others.set {g : Nat} {W W' : World} (h : Others g W W') (i : Nat) (x : Value) : Others g W (W'.setCell ⟨g, i, none⟩ x) :=
  ⟨h.os, h.tape, h.output, by have := h.size; simpa using this, fun k hk hne => (Below.heap_setCell W' ⟨g, i, none⟩ x k hne).trans (h.heap k hk hne)⟩
theorem Sub.get {W : World} {g : Nat} {pre post : List Value} {xs : List Int} (h : Sub W g pre post xs) (k : Nat) (hk : k < xs.length) :
    W.cell? ⟨g, pre.length + k, none⟩ = some (.int .u64 (xs.getD k 0)) ∧ W.frozen? ⟨g, pre.length + k, none⟩ = false := by
  refine ⟨?_, blk_frozen h _⟩
  rw [blk_cell h, getD_lt hk]
  simp [nums, List.getElem?_append, hk]
theorem Sub.set {W : World} {g : Nat} {pre post : List Value} {xs : List Int} (h : Sub W g pre post xs) (k : Nat) (hk : k < xs.length) (x : Int) : Sub (W.setCell ⟨g, pre.length + k, none⟩ (.int .u64 x)) g pre post (xs.set k x) := by
  have h1 := blk_set h (pre.length + k) (.int .u64 x)
  unfold Sub
  rw [h1]
  simp [nums, List.map_set, List.set_append, hk]
theorem limbs_others {g : Nat} {W W' : World} {ok : Nat → Prop} {v : Value} {xs : List Int} (h : Limbs W ok v xs) (hok : ∀ k, ok k → k ≠ g) (ho : Others g W W') : Limbs W' ok v xs := Kd.V_step h (fun k hk hs => ho.heap k hs (hok k hk))

set_option maxRecDepth 100000 in
set_option maxHeartbeats 1000000 in
theorem take_calls (g o L c : Nat) (pre post : List Value) (v : Value) (t : Int) (xs ys : List Int) (ho : pre.length = o) (hL : L = xs.length) (hl : xs.length ≤ 100000) (hly : ys.length ≤ xs.length) (ht : 0 ≤ t ∧ t < 1000000000) (hx : Lim 1000000000 xs) (hy : Lim 1000000000 ys)
    (w : World) (hs : Sub w g pre post xs) (hb : Limbs w (fun k => k ≠ g) v ys) :
    Calls Tryz.prog 140 #[.slice (some ⟨g, o, none⟩) L c, v, .int .u64 t] w fun e W => ∃ (zs : List Int) (q : Int), e = .returned (.bool (decide (q = 0))) ∧ Sub W g pre post zs ∧ Others g w W ∧ zs.length = xs.length ∧ Lim 1000000000 zs ∧ 0 ≤ q ∧
      lv 1000000000 zs = lv 1000000000 xs - t * lv 1000000000 ys + 1000000000 ^ xs.length * q := by
  subst ho hL
  obtain ⟨B, d, rfl⟩ := Kd.V_slice hb
  have HX := Lib.hid hx
  have HY := Lib.hid hy
  have HS := Lib.hid hs
  have HC := Lib.hid hb
  have HT := Lib.hid ht
  obtain ⟨ht1, ht2⟩ := ht
  clear hx hy hs hb
  go_enter Tryz.func140, Tryz.ntmps140
  go_wp2_with fail
  go_loopw [7, 8, 13] (fun co bo idx wr => ∃ (k : Nat) (zs : List Int) (ca b : Int), k ≤ xs.length ∧ co = .int .u64 ca ∧ bo = .int .u64 b ∧ idx = .int .i64 k ∧ Hid (Take t xs ys zs k ca b) ∧ Hid (Sub wr g pre post zs) ∧ Hid (Others g w wr)) (fun _ _ idx _ => xs.length - (intOf idx).toNat)
  case atStart => exact ⟨0, xs, 0, 0, Nat.zero_le _, rfl, rfl, rfl, Lib.hid (Take.start HX.out _), HS, Lib.hid (Others.refl _ _)⟩
  case round =>
    obtain ⟨k, zs, ca, b, hk, rfl, rfl, rfl, HM, HI, HO⟩ := hrel
    obtain ⟨hca1, hca2⟩ := HM.out.car
    obtain ⟨hb1, hb2⟩ := HM.out.bor
    by_cases hlt : k < xs.length
    · have c1 : (k : Int) < (xs.length : Int) := by omega
      have c0 : (0 : Int) ≤ (k : Int) := by omega
      have hkz : k < zs.length := by have := HM.out.len; omega
      have hxr := lim_getD b9 HX.out k
      have hyr := lim_getD b9 HY.out k
      obtain ⟨hg, hf⟩ := HI.out.get k hkz
      rw [HM.out.rest k (Nat.le_refl _)] at hg
      have hst := fun v b' => HM.out.step (x := xs.getD k 0) (y := ys.getD k 0) (v := v) (b' := b') HT.out HY.out hlt rfl rfl
      have hbd := take_bound HT.out hyr HM.out.car HM.out.bor
      obtain ⟨x, hxe⟩ : ∃ x, xs.getD k 0 = x := ⟨_, rfl⟩
      rw [hxe] at hg hxr
      simp only [hxe] at hst
      obtain ⟨hx1, hx2⟩ := hxr
      by_cases hs : k < ys.length
      · have c2 : (k : Int) < (ys.length : Int) := by omega
        obtain ⟨bd, e, hyc⟩ := Kd.at_int (Kd.V_reads' (limbs_others HC.out (fun _ h => h) HO.out)).2.2 (k : Int) (by omega) (by omega)
        subst e
        rw [rd_nat, Int.toNat_natCast] at hyc
        obtain ⟨y, hye⟩ : ∃ y, ys.getD k 0 = y := ⟨_, rfl⟩
        rw [hye] at hyc hyr hbd
        simp only [hye] at hst
        obtain ⟨hy1, hy2⟩ := hyr
        obtain ⟨g1, g2, g3, g4⟩ := hbd
        have HST := Lib.hid hst
        clear hst hxe hye
        by_cases hles : x < (ca + b + y * t) % 1000000000
        · go_wp2
          refine ⟨?_, by simp [intOf]; omega⟩
          have hq2 := (HI.out.set k hkz (x + 1000000000)).set k (by rw [List.length_set]; exact hkz) (x + 1000000000 - (ca + b + y * t) % 1000000000)
          rw [List.set_set] at hq2
          exact ⟨k + 1, _, _, _, by omega, rfl, rfl, by go_num, Lib.hid (HST.out _ 1 (by omega) (by omega) (by omega)), Lib.hid hq2, Lib.hid ((HO.out.set _ _).set _ _)⟩
        · go_wp2
          refine ⟨?_, by simp [intOf]; omega⟩
          exact ⟨k + 1, _, _, _, by omega, rfl, rfl, by go_num, Lib.hid (HST.out _ 0 (by omega) (by omega) (by omega)), Lib.hid (HI.out.set k hkz (x - (ca + b + y * t) % 1000000000)), Lib.hid (HO.out.set _ _)⟩
      · have c2 : ¬ (k : Int) < (ys.length : Int) := by omega
        have hye : ys.getD k 0 = 0 := getD_ge (by omega)
        simp only [hye, Int.zero_mul, Int.add_zero] at hst
        have HST := Lib.hid hst
        clear hst hxe hye hyr hbd
        by_cases hles : x < (ca + b) % 1000000000
        · go_wp2
          refine ⟨?_, by simp [intOf]; omega⟩
          have hq2 := (HI.out.set k hkz (x + 1000000000)).set k (by rw [List.length_set]; exact hkz) (x + 1000000000 - (ca + b) % 1000000000)
          rw [List.set_set] at hq2
          exact ⟨k + 1, _, _, _, by omega, rfl, rfl, by go_num, Lib.hid (HST.out _ 1 (by omega) (by omega) (by omega)), Lib.hid hq2, Lib.hid ((HO.out.set _ _).set _ _)⟩
        · go_wp2
          refine ⟨?_, by simp [intOf]; omega⟩
          exact ⟨k + 1, _, _, _, by omega, rfl, rfl, by go_num, Lib.hid (HST.out _ 0 (by omega) (by omega) (by omega)), Lib.hid (HI.out.set k hkz (x - (ca + b) % 1000000000)), Lib.hid (HO.out.set _ _)⟩
    · obtain rfl : k = xs.length := by omega
      have hfin : ∀ r : Bool, r = decide (ca + b = 0) → ∃ (zs' : List Int) (q : Int), Ending.returned (.bool r) = .returned (.bool (decide (q = 0))) ∧ Sub wr g pre post zs' ∧ Others g w wr ∧ zs'.length = xs.length ∧ Lim 1000000000 zs' ∧ 0 ≤ q ∧
          lv 1000000000 zs' = lv 1000000000 xs - t * lv 1000000000 ys + 1000000000 ^ xs.length * q := fun r hr => ⟨zs, ca + b, by rw [hr], HI.out, HO.out, HM.out.len, HM.out.lim, by omega, HM.out.done hly⟩
      have HF := Lib.hid hfin
      clear hfin
      by_cases hb0 : b = 0
      · subst hb0
        by_cases hc0 : ca = 0
        · subst hc0
          go_wp2
          go_ret
          exact HF.out _ (by decide)
        · go_wp2
          go_ret
          exact HF.out _ (by simp [hc0])
      · have hne : ¬ (ca + b = 0) := by omega
        go_wp2
        go_ret
        exact HF.out _ (by simp [hne])

set_option maxRecDepth 100000 in
set_option maxHeartbeats 1000000 in
theorem give_calls (g o L c : Nat) (pre post : List Value) (v : Value) (xs ys : List Int) (ho : pre.length = o) (hL : L = xs.length) (hl : xs.length ≤ 100000) (hly : ys.length ≤ xs.length) (hx : Lim 1000000000 xs) (hy : Lim 1000000000 ys)
    (w : World) (hs : Sub w g pre post xs) (hb : Limbs w (fun k => k ≠ g) v ys) :
    Calls Tryz.prog 141 #[.slice (some ⟨g, o, none⟩) L c, v] w fun e W => ∃ (zs : List Int) (q : Int) (u : Value), e = .returned u ∧ Sub W g pre post zs ∧ Others g w W ∧ zs.length = xs.length ∧ Lim 1000000000 zs ∧ (0 ≤ q ∧ q ≤ 1) ∧
      lv 1000000000 zs + 1000000000 ^ xs.length * q = lv 1000000000 xs + lv 1000000000 ys := by
  subst ho hL
  obtain ⟨B, d, rfl⟩ := Kd.V_slice hb
  have HX := Lib.hid hx
  have HY := Lib.hid hy
  have HS := Lib.hid hs
  have HC := Lib.hid hb
  clear hx hy hs hb
  go_enter Tryz.func141, Tryz.ntmps141
  go_wp2_with fail
  go_loopw [4, 8] (fun co idx wr => ∃ (k : Nat) (zs : List Int) (ca : Int), k ≤ xs.length ∧ co = .int .u64 ca ∧ idx = .int .i64 k ∧ Hid (Give xs ys zs k ca) ∧ Hid (Sub wr g pre post zs) ∧ Hid (Others g w wr)) (fun _ idx _ => xs.length - (intOf idx).toNat)
  case atStart => exact ⟨0, xs, 0, Nat.zero_le _, rfl, rfl, Lib.hid (Give.start HX.out _), HS, Lib.hid (Others.refl _ _)⟩
  case round =>
    obtain ⟨k, zs, ca, hk, rfl, rfl, HM, HI, HO⟩ := hrel
    obtain ⟨hca1, hca2⟩ := HM.out.car
    by_cases hlt : k < xs.length
    · have c1 : (k : Int) < (xs.length : Int) := by omega
      have c0 : (0 : Int) ≤ (k : Int) := by omega
      have hkz : k < zs.length := by have := HM.out.len; omega
      have hxr := lim_getD b9 HX.out k
      have hyr := lim_getD b9 HY.out k
      obtain ⟨hg, hf⟩ := HI.out.get k hkz
      rw [HM.out.rest k (Nat.le_refl _)] at hg
      have hst := HM.out.step (x := xs.getD k 0) (y := ys.getD k 0) HX.out HY.out hlt rfl rfl
      obtain ⟨x, hxe⟩ : ∃ x, xs.getD k 0 = x := ⟨_, rfl⟩
      rw [hxe] at hg hxr hst
      obtain ⟨hx1, hx2⟩ := hxr
      by_cases hs : k < ys.length
      · have c2 : (k : Int) < (ys.length : Int) := by omega
        obtain ⟨bd, e, hyc⟩ := Kd.at_int (Kd.V_reads' (limbs_others HC.out (fun _ h => h) HO.out)).2.2 (k : Int) (by omega) (by omega)
        subst e
        rw [rd_nat, Int.toNat_natCast] at hyc
        obtain ⟨y, hye⟩ : ∃ y, ys.getD k 0 = y := ⟨_, rfl⟩
        rw [hye] at hyc hyr hst
        obtain ⟨hy1, hy2⟩ := hyr
        have HST := Lib.hid hst
        clear hst hxe hye
        go_wp2
        exact ⟨⟨k + 1, _, _, by omega, rfl, by go_num, HST, Lib.hid (HI.out.set k hkz _), Lib.hid (HO.out.set _ _)⟩, by simp [intOf]; omega⟩
      · have c2 : ¬ (k : Int) < (ys.length : Int) := by omega
        have hye : ys.getD k 0 = 0 := getD_ge (by omega)
        rw [hye, Int.add_zero] at hst
        have HST := Lib.hid hst
        clear hst hxe hye hyr
        go_wp2
        exact ⟨⟨k + 1, _, _, by omega, rfl, by go_num, HST, Lib.hid (HI.out.set k hkz _), Lib.hid (HO.out.set _ _)⟩, by simp [intOf]; omega⟩
    · obtain rfl : k = xs.length := by omega
      go_wp2
      go_end0
      exact ⟨zs, ca, _, rfl, HI.out, HO.out, HM.out.len, HM.out.lim, HM.out.car, HM.out.done hly⟩
end Go.Proofs.CW
namespace Go.Proofs.CW
open Go.RowKit Go.Shelf Go.Proofs.YtjfclkbdkafkcaaGreatDoorW.PrintWords Go.Proofs.YtjfclkbdkafkcaaGreatDoor.PF
attribute [local go_sem] Oper.semAt_some

theorem add64 (x y : Int) (hx : 0 ≤ x) (hy : 0 ≤ y) : ∃ s c : Int, (c * 18446744073709551616 + s = x + y ∧ 0 ≤ c ∧ 0 ≤ s ∧ s < 18446744073709551616) ∧ ∀ w : World, (callFunc 166 #[.int .u64 x, .int .u64 y, .int .u64 0]).run Tryz.prog w = .ok (.value (.tuple #[.int .u64 s, .int .u64 c])) w := by
  refine ⟨(x + y) % 18446744073709551616, (x + y) / 18446744073709551616, by omega, fun w => ?_⟩
  rw [run_callFunc_extern Tryz.func166 (by kernel_rfl) (by kernel_rfl) (by kernel_rfl) (e := add64Entry) (by kernel_rfl), run_add64 x y 0 hx hy (by omega) (by omega), Int.add_zero]
  rfl
theorem mul64 (x y : Nat) (hx : x < 18446744073709551616) (hy : y < 18446744073709551616) (w : World) :
    Calls Tryz.prog 165 #[.int .u64 x, .int .u64 y] w fun e W => ∃ h l : Int, e = .returned (.tuple #[.int .u64 h, .int .u64 l]) ∧ (h * 18446744073709551616 + l = ((x * y : Nat) : Int) ∧ 0 ≤ h ∧ 0 ≤ l ∧ l < 18446744073709551616) ∧ W = w := by
  refine (Tryz.bits_Mul64 x y hx hy w).mono ?_
  rintro e w1 ⟨rfl, rfl⟩
  refine ⟨_, _, rfl, ?_, rfl⟩
  generalize x * y = p
  omega
set_option maxHeartbeats 400000 in
theorem greater_calls (g s l n : Nat) (hg : g < 18446744073709551616) (hs : s < 18446744073709551616) (hl : l < 1000000000 * 1000000000) (hn : n < 1000000000) (w : World) :
    Calls Tryz.prog 139 #[.int .u64 g, .int .u64 s, .int .u64 l, .int .u64 n] w fun e W => e = .returned (.bool (decide (l * 1000000000 + n < g * s))) ∧ W = w := by
  have hm2 := mul64 l 1000000000 (by omega) (by omega)
  have HM := Lib.hid hm2
  clear hm2
  go_enter Tryz.func139, Tryz.ntmps139
  go_wp2_with fail
  refine (mul64 g s hg hs w).mono ?_
  rintro e w1 ⟨h, lo, rfl, ⟨a1, a2, a3, a4⟩, rfl⟩
  go_wp2_with fail
  refine (HM.out w1).mono ?_
  rintro e w2 ⟨x, y, rfl, ⟨b1, b2, b3, b4⟩, rfl⟩
  obtain ⟨s1, c1, ⟨d1, d2, d3, d4⟩, hadd⟩ := add64 y n b3 (by omega)
  have hx : x < 1000000000000 := by omega
  have hc : c1 ≤ 1 := by omega
  have key : decide (l * 1000000000 + n < g * s) = decide (x + c1 < h ∨ (h = x + c1 ∧ s1 < lo)) := by
    apply decide_eq_decide.2
    generalize g * s = p at a1 ⊢
    omega
  have HK := Lib.hid key
  clear key a1 b1 hl hg hs hn d1
  rcases Int.lt_trichotomy h (x + c1) with hlt | heq | hgt
  · have t1 : ¬ (x + c1 < h) := by omega
    have t2 : (h == x + c1) = false := by simp; omega
    have t3 := Lib.hid (show decide (x + c1 < h ∨ (h = x + c1 ∧ s1 < lo)) = false by simp; omega)
    go_wp2
    go_ret
    exact ⟨by rw [HK.out, t3.out]; exact congrArg (fun b => Ending.returned (.bool b)) (by first | rfl | (simp; omega) | (simp [*]; done)), rfl⟩
  · subst heq
    by_cases hl : s1 < lo
    · have t3 := Lib.hid (show decide (x + c1 < x + c1 ∨ (x + c1 = x + c1 ∧ s1 < lo)) = true by simp; omega)
      go_wp2
      go_ret
      exact ⟨by rw [HK.out, t3.out]; exact congrArg (fun b => Ending.returned (.bool b)) (by first | rfl | (simp; omega) | (simp [*]; done)), rfl⟩
    · have t3 := Lib.hid (show decide (x + c1 < x + c1 ∨ (x + c1 = x + c1 ∧ s1 < lo)) = false by simp; omega)
      go_wp2
      go_ret
      exact ⟨by rw [HK.out, t3.out]; exact congrArg (fun b => Ending.returned (.bool b)) (by first | rfl | (simp; omega) | (simp [*]; done)), rfl⟩
  · have t3 := Lib.hid (show decide (x + c1 < h ∨ (h = x + c1 ∧ s1 < lo)) = true by simp; omega)
    go_wp2
    go_ret
    exact ⟨by rw [HK.out, t3.out]; exact congrArg (fun b => Ending.returned (.bool b)) (by first | rfl | (simp; omega) | (simp [*]; done)), rfl⟩
end Go.Proofs.CW
namespace Go.Proofs.CW
open Go.RowKit Go.Shelf Go.Proofs.YtjfclkbdkafkcaaGreatDoorW.PrintWords Go.Proofs.YtjfclkbdkafkcaaGreatDoor.PF
attribute [local go_sem] Oper.semAt_some

theorem trimL_take_zero {xs : List Int} {j : Nat} (hj : j < xs.length) (h : xs.getD j 0 = 0) : trimL (xs.take (j + 1)) = trimL (xs.take j) := by
  rw [List.take_succ_eq_append_getElem hj, ← getD_lt hj, h, trimL_snoc_zero]
theorem trimL_take_nonzero {xs : List Int} {j : Nat} (hj : j < xs.length) (h : xs.getD j 0 ≠ 0) : (trimL (xs.take (j + 1))).length = j + 1 := by
  rw [List.take_succ_eq_append_getElem hj, ← getD_lt hj, trimL_snoc h]
  simp; omega
set_option maxHeartbeats 400000 in
theorem trim_exact (A : Option Addr) (c : Nat) (xs : List Int) (hl : xs.length ≤ 1000000) (hlc : xs.length ≤ c) (w : World) (hx : Kd.C (Kd.int .u64) w A xs.length xs) :
    Calls Tryz.prog 120 #[.slice A xs.length c] w fun e W => e = .returned (.slice A (trimL xs).length c) ∧ W = w := by
  have HX := Lib.hid hx
  clear hx
  go_enter Tryz.func120, Tryz.ntmps120
  go_wp2_with fail
  go_loopw [0] (fun v wr => ∃ k : Nat, k ≤ xs.length ∧ v = .slice A k c ∧ Hid (trimL (xs.take k) = trimL xs) ∧ wr = w) (fun v _ => match v with | .slice _ k _ => k | _ => 0)
  case atStart => exact ⟨xs.length, Nat.le_refl _, rfl, Lib.hid (by rw [List.take_length]), rfl⟩
  case round =>
    obtain ⟨k, hk, rfl, HT, rfl⟩ := hrel
    cases k with
    | zero =>
      have e : (trimL xs).length = 0 := by rw [← HT.out]; rfl
      have HE := Lib.hid e
      clear e
      go_wp2
      go_ret
      exact ⟨by rw [HE.out]; rfl, rfl⟩
    | succ j =>
      have c0 : (0 : Int) ≤ (j : Int) := by omega
      have c1 : (j : Int) < ((j + 1 : Nat) : Int) := by omega
      have c2 : (0 : Int) < ((j + 1 : Nat) : Int) := by omega
      have e1 : ((j + 1 : Nat) : Int) - 1 = (j : Int) := by omega
      obtain ⟨ad, e, hc⟩ := Kd.at_int HX.out (j : Int) (by omega) (by omega)
      subst e
      rw [rd_nat, Int.toNat_natCast] at hc
      have h0 := trimL_take_zero (xs := xs) (j := j) (by omega)
      have h2 := trimL_take_nonzero (xs := xs) (j := j) (by omega)
      obtain ⟨x, hx⟩ : ∃ x, xs.getD j 0 = x := ⟨_, rfl⟩
      rw [hx] at hc h0 h2
      by_cases hz : x = 0
      · subst hz
        have HT2 := Lib.hid ((h0 rfl).symm.trans HT.out)
        clear h0 h2 hx
        go_wp2
        exact ⟨⟨j, by omega, rfl, HT2, trivial⟩, by show j < j + 1; omega⟩
      · have HT2 := Lib.hid (show (trimL xs).length = j + 1 by rw [← HT.out]; exact h2 hz)
        have hz2 : (x == 0) = false := by simp [hz]
        clear h0 h2 hx
        go_wp2
        go_ret
        exact ⟨by rw [HT2.out]; rfl, rfl⟩

/-- A block that holds just these limbs. -/
def Blk (W : World) (g : Nat) (xs : List Int) : Prop := W.heap[g]? = some (.cells (nums .u64 xs).toArray 113 (0, 0))
theorem Blk.get {W : World} {g : Nat} {xs : List Int} (h : Blk W g xs) (k : Nat) (hk : k < xs.length) : W.cell? ⟨g, k, none⟩ = some (.int .u64 (xs.getD k 0)) ∧ W.frozen? ⟨g, k, none⟩ = false := by
  refine ⟨?_, blk_frozen h _⟩
  rw [blk_cell h, getD_lt hk]
  simp [nums, hk]
theorem Blk.set {W : World} {g : Nat} {xs : List Int} (h : Blk W g xs) (k : Nat) (x : Int) : Blk (W.setCell ⟨g, k, none⟩ (.int .u64 x)) g (xs.set k x) := by
  have h1 := blk_set h k (.int .u64 x)
  unfold Blk
  rw [h1, nums_set]
set_option maxRecDepth 100000 in
set_option maxHeartbeats 1000000 in
theorem times_in (A B : Option Addr) (c d : Nat) (xs ys : List Int) (hlx : xs.length ≤ 10000) (hly : ys.length ≤ 10000) (hx : Lim 1000000000 xs) (hy : Lim 1000000000 ys) (w : World) (hcx : Kd.C (Kd.int .u64) w A xs.length xs) (hcy : Kd.C (Kd.int .u64) w B ys.length ys) :
    Calls Tryz.prog 64 #[.slice A xs.length c, .slice B ys.length d] w fun e W => ∃ v zs, e = .returned v ∧ Own W w.heap.size v zs ∧ Lim 1000000000 zs ∧ Norm zs ∧ lv 1000000000 zs = lv 1000000000 xs * lv 1000000000 ys ∧ Below w.heap.size w W := by
  have HX := Lib.hid hx
  have HY := Lib.hid hy
  have HCX := Lib.hid hcx
  have HCY := Lib.hid hcy
  have hmk := fun W => make_nums W (xs.length + ys.length) (by omega)
  have ea : ((xs.length + ys.length : Nat) : Int) = (xs.length : Int) + (ys.length : Int) := by omega
  rw [ea] at hmk
  clear hx hy hcx hcy ea
  go_enter Tryz.func64, Tryz.ntmps64
  go_wp2_with fail
  have hst0 := Prod.start b9 xs ys
  have HB0 := Lib.hid (show Blk (w.alloc (.cells (nums .u64 (List.replicate (xs.length + ys.length) 0)).toArray 113)) w.heap.size (List.replicate (xs.length + ys.length) 0) from heap_alloc_new w _)
  have HW0 := Lib.hid (show Below w.heap.size w (w.alloc (.cells (nums .u64 (List.replicate (xs.length + ys.length) 0)).toArray 113)) from (Below.refl _ w).alloc (Nat.le_refl _) _)
  have HS0 := Lib.hid hst0
  clear hst0 hmk
  go_loopw [19] (fun idx wr => ∃ (i : Nat) (zs : List Int), i ≤ xs.length ∧ idx = .int .i64 i ∧ Hid (Prod 1000000000 xs ys zs i) ∧ Hid (Blk wr w.heap.size zs) ∧ Hid (Below w.heap.size w wr)) (fun idx _ => xs.length - (intOf idx).toNat)
  case atStart => exact ⟨0, _, Nat.zero_le _, rfl, HS0, HB0, HW0⟩
  case round =>
    clear HB0 HW0 HS0
    obtain ⟨i, zs, hi, rfl, HP, HB, HW⟩ := hrel
    by_cases hlt : i < xs.length
    · have c1 : (i : Int) < (xs.length : Int) := by omega
      have c0 : (0 : Int) ≤ (i : Int) := by omega
      obtain ⟨ad, e, hxc⟩ := Kd.at_int (Kd.C_below HCX.out HW.out) (i : Int) (by omega) (by omega)
      subst e
      rw [rd_nat, Int.toNat_natCast] at hxc
      have hxr := lim_getD b9 HX.out i
      have hrow := Row.start b9 HP.out.lim ys (xs.getD i 0) i
      have hdone := fun ws c hr => HP.out.step (ws := ws) (c := c) hlt hr
      have hzl := HP.out.len
      obtain ⟨x, hxe⟩ : ∃ x, xs.getD i 0 = x := ⟨_, rfl⟩
      rw [hxe] at hxc hxr hrow
      simp only [hxe] at hdone
      have HR0 := Lib.hid hrow
      have HD := Lib.hid hdone
      have HXR := Lib.hid hxr
      clear hrow hdone hxe hxr
      go_wp2_with fail
      go_loopw [8, 26] (fun co idx wr => ∃ (k : Nat) (ws : List Int) (ca : Int), k ≤ ys.length ∧ co = .int .u64 ca ∧ idx = .int .i64 k ∧ Hid (Row 1000000000 zs ys ws x i k ca) ∧ Hid (Blk wr w.heap.size ws) ∧ Hid (Below w.heap.size w wr)) (fun _ idx _ => ys.length - (intOf idx).toNat)
      case atStart => exact ⟨0, zs, 0, Nat.zero_le _, rfl, rfl, HR0, HB, HW⟩
      case round =>
        clear HB HW HR0
        obtain ⟨k, ws, ca, hk, rfl, rfl, HR, HB, HW⟩ := hrel
        by_cases hlk : k < ys.length
        · have k1 : (k : Int) < (ys.length : Int) := by omega
          have k0 : (0 : Int) ≤ (k : Int) := by omega
          obtain ⟨bd, e, hyc⟩ := Kd.at_int (Kd.C_below HCY.out HW.out) (k : Int) (by omega) (by omega)
          subst e
          rw [rd_nat, Int.toNat_natCast] at hyc
          have hwl := HR.out.len
          obtain ⟨hg, hf⟩ := HB.out.get (i + k) (by omega)
          have hst := HR.out.step b9 HXR.out HY.out hlk (by omega)
          have hbd := mul_bound HXR.out (lim_getD b9 HY.out k) HR.out.car (lim_getD b9 HR.out.lim (i + k))
          have hm0 := Int.mul_nonneg HXR.out.1 (lim_getD b9 HY.out k).1
          have hz0 := lim_getD b9 HR.out.lim (i + k)
          have hc0 := HR.out.car
          obtain ⟨y, hye⟩ : ∃ y, ys.getD k 0 = y := ⟨_, rfl⟩
          obtain ⟨z, hze⟩ : ∃ z, ws.getD (i + k) 0 = z := ⟨_, rfl⟩
          rw [hye] at hyc hst hbd hm0
          rw [hze] at hg hst hbd hz0
          rw [Int.add_assoc] at hst hbd
          have k2 : (i : Int) + (k : Int) < (xs.length : Int) + (ys.length : Int) := by omega
          have k3 : ((i + k : Nat) : Int) = (i : Int) + (k : Int) := by omega
          have k4 : ((i : Int) + (k : Int)).toNat = i + k := by omega
          have HST := Lib.hid hst
          obtain ⟨hb1, hb2⟩ := hbd
          clear hst hye hze
          go_wp2
          exact ⟨⟨k + 1, _, _, by omega, rfl, by go_num, HST, Lib.hid (HB.out.set _ _), Lib.hid (HW.out.setCell (p := ⟨w.heap.size, i + k, none⟩) (Nat.le_refl _) _)⟩, by simp [intOf]; omega⟩
        · obtain rfl : k = ys.length := by omega
          have hwl := HR.out.len
          obtain ⟨hg, hf⟩ := HB.out.get (i + ys.length) (by omega)
          have hst := HD.out _ _ HR.out
          have hc0 := HR.out.car
          obtain ⟨z, hze⟩ : ∃ z, ws.getD (i + ys.length) 0 = z := ⟨_, rfl⟩
          rw [hze] at hg
          have k2 : (i : Int) + (ys.length : Int) < (xs.length : Int) + (ys.length : Int) := by omega
          have k3 : ((i + ys.length : Nat) : Int) = (i : Int) + (ys.length : Int) := by omega
          have k4 : ((i : Int) + (ys.length : Int)).toNat = i + ys.length := by omega
          have HST := Lib.hid hst
          clear hst hze
          go_wp2
          exact ⟨⟨i + 1, _, by omega, by go_num, HST, Lib.hid (HB.out.set _ _), Lib.hid (HW.out.setCell (p := ⟨w.heap.size, i + ys.length, none⟩) (Nat.le_refl _) _)⟩, by simp [intOf]; omega⟩
    · obtain rfl : i = xs.length := by omega
      have hzl := HP.out.len
      have hz : ((xs.length + ys.length : Nat)) = zs.length := hzl.symm
      have hown := own_of_block (n := zs.length) (base := w.heap.size) HB.out rfl (Nat.le_refl _) (by omega)
      have hcall := trim_exact (some ⟨w.heap.size, 0, none⟩) (xs.length + ys.length) zs (by omega) (by omega) wr (Kd.V_reads' (limbs_of_block HB.out rfl (by omega))).2.2
      rw [hzl] at hcall
      have hk := trimL_length_le zs
      obtain ⟨k, hk2, hkt, _⟩ := trimL_take _ zs rfl
      have hkl : (trimL zs).length = k := by rw [hkt, List.length_take]; omega
      have hown2 := own_take hown (m := k) (by omega)
      have HC := Lib.hid hcall
      have HO := Lib.hid (show Own wr w.heap.size (.slice (some ⟨w.heap.size, 0, none⟩) (trimL zs).length (xs.length + ys.length)) (trimL zs) by
        rw [hkl, hkt, ← hzl]
        have e2 : nums .u64 (zs.take k) = (nums .u64 zs).take (k * 1) := by simp [nums, List.map_take]
        unfold Own
        rw [e2, List.length_take, Nat.min_eq_left (by omega)]
        exact hown2)
      clear hcall hown hown2 hkt hz hzl hkl hk hk2
      go_wp2_with fail
      refine HC.out.mono ?_
      rintro e W ⟨rfl, rfl⟩
      go_wp2_with fail
      go_ret
      exact ⟨_, _, rfl, HO.out, lim_trimL HP.out.lim, trimL_norm _, by rw [lv_trimL]; exact HP.out.done, HW.out⟩
end Go.Proofs.CW
namespace Go.Proofs.CW

/-! One digit of a long division (n + 2 limbs of the divisor, n + 3 of the rest). v1, v2: the divisor's highest limbs; u0, u1, u2: the rest's. -/
/-- The guess, so far. -/
structure Guess (U V head v1 v2 u2 p g l : Int) : Prop where
  eq : g * v1 + l = head
  low : ∀ q, 0 ≤ q → q * V ≤ U → q < 1000000000 → q ≤ g
  nn : 0 ≤ g
  ln : 0 ≤ l
structure Heads (U V head v1 v2 u2 p : Int) : Prop where
  pp : 0 < p
  v1p : 0 < v1
  v2r : 0 ≤ v2 ∧ v2 < 1000000000
  u2r : 0 ≤ u2 ∧ u2 < 1000000000
  hp : 0 ≤ head
  Vlo : (v1 * 1000000000 + v2) * p ≤ V
  Vhi : V < (v1 * 1000000000 + v2 + 1) * p
  Ulo : (head * 1000000000 + u2) * p ≤ U
  Uhi : U < (head * 1000000000 + u2 + 1) * p
  lt : U < 1000000000 * V
theorem Guess.start {U V head v1 v2 u2 p : Int} (h : Heads U V head v1 v2 u2 p) : Guess U V head v1 v2 u2 p (head / v1) (head % v1) := by
  have h1 := h.v1p
  refine ⟨?_, fun q h0 hq _ => ?_, Int.ediv_nonneg h.hp (Int.le_of_lt h1), Int.emod_nonneg _ (by omega)⟩
  · have := Int.emod_add_mul_ediv head v1
    rw [Int.mul_comm (head / v1) v1]; omega
  · rw [Int.le_ediv_iff_mul_le h1]
    have a1 : q * ((v1 * 1000000000 + v2) * p) ≤ q * V := Int.mul_le_mul_of_nonneg_left h.Vlo h0
    have a2 : q * ((v1 * 1000000000 + v2) * p) < (head * 1000000000 + u2 + 1) * p := Int.lt_of_le_of_lt (Int.le_trans a1 hq) h.Uhi
    rw [← Int.mul_assoc] at a2
    have a3 := Int.lt_of_mul_lt_mul_right a2 (Int.le_of_lt h.pp)
    have a4 : 0 ≤ q * v2 := Int.mul_nonneg h0 h.v2r.1
    rw [Int.mul_add, ← Int.mul_assoc] at a3
    have a5 := h.u2r
    omega
theorem Guess.down {U V head v1 v2 u2 p g l : Int} (h : Guess U V head v1 v2 u2 p g l) (hh : Heads U V head v1 v2 u2 p) (hc : 1000000000 ≤ g ∨ l * 1000000000 + u2 < g * v2) : Guess U V head v1 v2 u2 p (g - 1) (l + v1) := by
  have h0 := h.eq
  have h1 := hh.v1p
  have hg : 1 ≤ g := by
    rcases hc with hc | hc
    · omega
    · apply Classical.byContradiction
      intro hn
      have e : g = 0 := by have := h.nn; omega
      rw [e, Int.zero_mul] at hc
      have := h.ln
      have := hh.u2r
      omega
  refine ⟨?_, fun q q0 hq hb => ?_, by omega, by have := h.ln; omega⟩
  · rw [Int.sub_mul]; omega
  · have hle := h.low q q0 hq hb
    rcases hc with hc | hc
    · omega
    · apply Classical.byContradiction
      intro hn
      have e : g = q := by omega
      subst e
      have a1 : g * ((v1 * 1000000000 + v2) * p) ≤ g * V := Int.mul_le_mul_of_nonneg_left hh.Vlo q0
      have a2 : g * ((v1 * 1000000000 + v2) * p) < (head * 1000000000 + u2 + 1) * p := Int.lt_of_le_of_lt (Int.le_trans a1 hq) hh.Uhi
      rw [← Int.mul_assoc] at a2
      have a3 := Int.lt_of_mul_lt_mul_right a2 (Int.le_of_lt hh.pp)
      rw [Int.mul_add, ← Int.mul_assoc] at a3
      omega
/-- The loop is over: the guess is the digit, or one more. -/
theorem Guess.done {U V head v1 v2 u2 p g l : Int} (h : Guess U V head v1 v2 u2 p g l) (hh : Heads U V head v1 v2 u2 p) (hg : g < 1000000000) (hc : g * v2 ≤ l * 1000000000 + u2) : U < (g + 1) * V ∧ (g - 1) * V < U + 1 := by
  have h0 := h.eq
  have h1 := hh.v1p
  have hp := hh.pp
  have hVp : 0 < V := by
    have a0 : 0 < (v1 * 1000000000 + v2) * p := Int.mul_pos (by have := hh.v2r; omega) hp
    exact Int.lt_of_lt_of_le a0 hh.Vlo
  constructor
  · apply Classical.byContradiction
    intro hn
    by_cases hb : g + 1 < 1000000000
    · have := h.low (g + 1) (by have := h.nn; omega) (by omega) hb; omega
    · have e : g + 1 = 1000000000 := by omega
      rw [e] at hn
      exact hn hh.lt
  · have a1 : g * (v1 * 1000000000 + v2) ≤ head * 1000000000 + u2 := by rw [Int.mul_add, ← Int.mul_assoc]; omega
    have a2 : g * (v1 * 1000000000 + v2) * p ≤ (head * 1000000000 + u2) * p := Int.mul_le_mul_of_nonneg_right a1 (Int.le_of_lt hp)
    have a3 : g * V ≤ g * ((v1 * 1000000000 + v2 + 1) * p) := Int.mul_le_mul_of_nonneg_left (Int.le_of_lt hh.Vhi) h.nn
    have a4 : g * p ≤ 1000000000 * p := Int.mul_le_mul_of_nonneg_right (by omega) (Int.le_of_lt hp)
    have a5 : 1000000000 * p ≤ (v1 * 1000000000 + v2) * p := Int.mul_le_mul_of_nonneg_right (by have := hh.v2r; omega) (Int.le_of_lt hp)
    have a6 := hh.Ulo
    have a7 := hh.Vlo
    have e1 : g * ((v1 * 1000000000 + v2 + 1) * p) = g * (v1 * 1000000000 + v2) * p + g * p := by grind
    rw [Int.sub_mul, Int.one_mul]
    omega
/-- The loop is left from its middle. -/
theorem Guess.broke {U V head v1 v2 u2 p g l : Int} (h : Guess U V head v1 v2 u2 p g l) (hh : Heads U V head v1 v2 u2 p) (hl : 1000000000 ≤ l) (hu : head < v1 * 1000000000 + 1000000000) : g < 1000000000 ∧ g * v2 ≤ l * 1000000000 + u2 := by
  have h0 := h.eq
  have hg : g < 1000000000 := by
    apply Classical.byContradiction
    intro hn
    have a1 : 1000000000 * v1 ≤ g * v1 := Int.mul_le_mul_of_nonneg_right (by omega) (Int.le_of_lt hh.v1p)
    omega
  refine ⟨hg, ?_⟩
  have a1 : g * v2 ≤ 1000000000 * v2 := Int.mul_le_mul_of_nonneg_right (by omega) hh.v2r.1
  have := hh.v2r
  have := hh.u2r
  omega
theorem lv_top1 (xs : List Int) (m : Nat) (h : xs.length = m + 1) : lv 1000000000 xs = lv 1000000000 (xs.take m) + 1000000000 ^ m * xs.getD m 0 := by
  have := lv_take_succ 1000000000 (xs := xs) (j := m) (by omega)
  rw [List.take_of_length_le (by omega)] at this
  exact this
theorem lv_top2 (xs : List Int) (m : Nat) (h : xs.length = m + 2) : lv 1000000000 xs = lv 1000000000 (xs.take m) + 1000000000 ^ m * (xs.getD m 0 + 1000000000 * xs.getD (m + 1) 0) := by
  rw [lv_top1 xs (m + 1) h, lv_take_succ 1000000000 (by omega), Int.pow_succ]; grind
theorem lv_top3 (xs : List Int) (m : Nat) (h : xs.length = m + 3) : lv 1000000000 xs = lv 1000000000 (xs.take m) + 1000000000 ^ m * (xs.getD m 0 + 1000000000 * (xs.getD (m + 1) 0 + 1000000000 * xs.getD (m + 2) 0)) := by
  rw [lv_top2 xs (m + 1) h, lv_take_succ 1000000000 (by omega), Int.pow_succ]; grind
theorem take_range {xs : List Int} (h : Lim 1000000000 xs) (m : Nat) (hm : m ≤ xs.length) : 0 ≤ lv 1000000000 (xs.take m) ∧ lv 1000000000 (xs.take m) < 1000000000 ^ m := by
  have h1 := lv_nonneg (B := 1000000000) (by decide) (lim_take h m)
  have h2 := lv_lt b9 (lim_take h m)
  rw [List.length_take, Nat.min_eq_left hm] at h2
  exact ⟨h1, h2⟩
theorem heads_of {xs ys : List Int} {m : Nat} (hx : Lim 1000000000 xs) (hy : Lim 1000000000 ys) (hxl : xs.length = m + 3) (hyl : ys.length = m + 2) (ht : ys.getD (m + 1) 0 ≠ 0) (hlt : lv 1000000000 xs < 1000000000 * lv 1000000000 ys) :
    Heads (lv 1000000000 xs) (lv 1000000000 ys) (xs.getD (m + 2) 0 * 1000000000 + xs.getD (m + 1) 0) (ys.getD (m + 1) 0) (ys.getD m 0) (xs.getD m 0) (1000000000 ^ m) ∧
      xs.getD (m + 2) 0 * 1000000000 + xs.getD (m + 1) 0 < ys.getD (m + 1) 0 * 1000000000 + 1000000000 := by
  have e1 := lv_top3 xs m hxl
  have e2 := lv_top2 ys m hyl
  have r1 := take_range hx m (by omega)
  have r2 := take_range hy m (by omega)
  have hp : (0 : Int) < 1000000000 ^ m := Int.pow_pos (by decide)
  have x0 := lim_getD b9 hx m
  have x1 := lim_getD b9 hx (m + 1)
  have x2 := lim_getD b9 hx (m + 2)
  have y0 := lim_getD b9 hy m
  have y1 := lim_getD b9 hy (m + 1)
  generalize (1000000000 : Int) ^ m = p at *
  generalize xs.getD m 0 = u2 at *
  generalize xs.getD (m + 1) 0 = u1 at *
  generalize xs.getD (m + 2) 0 = u0 at *
  generalize ys.getD m 0 = v2 at *
  generalize ys.getD (m + 1) 0 = v1 at *
  generalize lv 1000000000 (xs.take m) = a at *
  generalize lv 1000000000 (ys.take m) = b at *
  generalize lv 1000000000 xs = U at *
  generalize lv 1000000000 ys = V at *
  have f1 : p * (u2 + 1000000000 * (u1 + 1000000000 * u0)) = ((u0 * 1000000000 + u1) * 1000000000 + u2) * p := by grind
  have f2 : p * (v2 + 1000000000 * v1) = (v1 * 1000000000 + v2) * p := by grind
  rw [f1] at e1
  rw [f2] at e2
  have hh : Heads U V (u0 * 1000000000 + u1) v1 v2 u2 p := by
    refine ⟨hp, by omega, y0, x0, by omega, by omega, ?_, by omega, ?_, hlt⟩
    · rw [Int.add_mul, Int.one_mul]; omega
    · rw [Int.add_mul _ 1, Int.one_mul]; omega
  refine ⟨hh, ?_⟩
  have a1 : (u0 * 1000000000 + u1) * 1000000000 * p ≤ ((u0 * 1000000000 + u1) * 1000000000 + u2) * p := Int.mul_le_mul_of_nonneg_right (by omega) (Int.le_of_lt hp)
  have a2 : (v1 * 1000000000 + v2 + 1) * p ≤ ((v1 + 1) * 1000000000) * p := Int.mul_le_mul_of_nonneg_right (by omega) (Int.le_of_lt hp)
  have a3 := hh.Vhi
  have a4 : (u0 * 1000000000 + u1) * 1000000000 * p < (v1 + 1) * 1000000000 * 1000000000 * p := by
    have e : (v1 + 1) * 1000000000 * 1000000000 * p = 1000000000 * (((v1 + 1) * 1000000000) * p) := by grind
    rw [e]; omega
  have a5 := Int.lt_of_mul_lt_mul_right a4 (Int.le_of_lt hp)
  omega
end Go.Proofs.CW
namespace Go.Proofs.CW
open Go.RowKit Go.Shelf Go.Proofs.YtjfclkbdkafkcaaGreatDoorW.PrintWords Go.Proofs.YtjfclkbdkafkcaaGreatDoor.PF
attribute [local go_sem] Oper.semAt_some

/-- The product, as an own row. -/
theorem times_own (u v : Value) (a b : Nat) (w : World) (ha : Num w u a) (hb : Num w v b) (hA : (a : Int) < 1000000000 ^ 2000) (hB : (b : Int) < 1000000000 ^ 2000) :
    Calls Tryz.prog 64 #[u, v] w fun e W => ∃ r zs, e = .returned r ∧ Own W w.heap.size r zs ∧ Lim 1000000000 zs ∧ Norm zs ∧ lv 1000000000 zs = ((a * b : Nat) : Int) ∧ Below w.heap.size w W := by
  obtain ⟨xs, h1, h2, h3, h4⟩ := ha.ex
  obtain ⟨ys, k1, k2, k3, k4⟩ := hb.ex
  obtain ⟨A, c, rfl⟩ := Kd.V_slice h1
  obtain ⟨B, d, rfl⟩ := Kd.V_slice k1
  have hl1 : xs.length ≤ 2000 := length_le_of_lt b9 h2 h3 (by rw [h4]; exact hA)
  have hl2 : ys.length ≤ 2000 := length_le_of_lt b9 k2 k3 (by rw [k4]; exact hB)
  refine (times_in A B c d xs ys (by omega) (by omega) h2 k2 w (Kd.V_reads' h1).2.2 (Kd.V_reads' k1).2.2).mono ?_
  rintro e W ⟨r, zs, rfl, f1, f2, f3, f4, f5⟩
  exact ⟨r, zs, rfl, f1, f2, f3, by rw [f4, h4, k4, Int.natCast_mul], f5⟩
theorem times_calls (u v : Value) (a b : Nat) (w : World) (ha : Num w u a) (hb : Num w v b) (hA : (a : Int) < 1000000000 ^ 2000) (hB : (b : Int) < 1000000000 ^ 2000) :
    Calls Tryz.prog 64 #[u, v] w fun e W => ∃ r, e = .returned r ∧ NumIn W (fun k => w.heap.size ≤ k) r (a * b) ∧ Below w.heap.size w W := by
  refine (times_own u v a b w ha hb hA hB).mono ?_
  rintro e W ⟨r, zs, rfl, f1, f2, f3, f4, f5⟩
  exact ⟨r, rfl, ⟨zs, Kd.R_V (Kd.R_of_own f1 (fun k hk => own_base f1 k hk)), f2, f3, f4⟩, f5⟩
set_option maxRecDepth 100000 in
set_option maxHeartbeats 1000000 in
/-- over, where the number is smaller. -/
theorem over_less (u v : Value) (a b : Nat) (w : World) (ha : Num w u a) (hb : Num w v b) (hlt : a < b) (hA : (a : Int) < 1000000000 ^ 1000) (hB : (b : Int) < 1000000000 ^ 1000) :
    Calls Tryz.prog 113 #[u, v] w fun e W => ∃ q r, e = .returned (.tuple #[q, r]) ∧ (Num W q (a / b) ∧ Num W r (a % b)) ∧ Below w.heap.size w W := by
  have HC := Lib.hid (compare_calls u v a b w ha hb hA hB)
  have HA := Lib.hid (And.intro ha hb)
  have HM := Lib.hid (And.intro (Nat.div_eq_of_lt hlt) (Nat.mod_eq_of_lt hlt))
  have HL := Lib.hid hlt
  clear ha hb hA hB hlt
  go_enter Tryz.func113, Tryz.ntmps113
  go_wp2_with fail
  refine HC.out.mono ?_
  rintro e W ⟨r, rfl, hr, hb⟩
  have hr0 : r < 0 := hr.lt.2 (by have := HL.out; omega)
  have HB := Lib.hid hb
  clear hr hb
  go_wp2_with fail
  go_ret2
  obtain ⟨d1, d2⟩ := HM.out
  rw [d1, d2]
  exact ⟨_, _, rfl, ⟨⟨[], Kd.V_nil _ _ _ _ _, lim_nil _, norm_nil, rfl⟩, HA.out.1.below HB.out⟩, HB.out⟩

set_option maxRecDepth 100000 in
set_option maxHeartbeats 1000000 in
/-- over, by one limb. -/
theorem over_one (u : Value) (B : Option Addr) (d : Nat) (y : Int) (a : Nat) (w : World) (ha : Num w u a) (hy : 0 < y ∧ y < 1000000000) (hb : Limbs w (fun _ => True) (.slice B 1 d) [y]) (hge : y.toNat ≤ a) (hA : (a : Int) < 1000000000 ^ 1000) :
    Calls Tryz.prog 113 #[u, .slice B 1 d] w fun e W => ∃ q r, e = .returned (.tuple #[q, r]) ∧ (Num W q (a / y.toNat) ∧ Num W r (a % y.toNat)) ∧ Below w.heap.size w W := by
  have hyn : Num w (.slice B 1 d) y.toNat := ⟨[y], hb, fun x hx => by rw [List.mem_singleton.1 hx]; omega, fun x hx => by simp at hx; omega, by simp [lv]; omega⟩
  have hyb : ((y.toNat : Nat) : Int) < 1000000000 ^ 1000 := by
    have e : ((y.toNat : Nat) : Int) = y := Int.toNat_of_nonneg (by omega)
    have h1 : (1000000000 : Int) ^ 1 ≤ 1000000000 ^ 1000 := pow_le_pow b9 (by omega)
    omega
  have HC := Lib.hid (compare_calls u (.slice B 1 d) a y.toNat w ha hyn hA hyb)
  have HS := Lib.hid (fun W (h : Below w.heap.size w W) => short_calls u a y W (ha.below h) (by omega) hA)
  have HA := Lib.hid ha
  have HB := Lib.hid hb
  have HL := Lib.hid hge
  clear ha hb hA hyb hyn hge
  obtain ⟨hy1, hy2⟩ := hy
  go_enter Tryz.func113, Tryz.ntmps113
  go_wp2_with fail
  refine HC.out.mono ?_
  rintro e W ⟨r, rfl, hr, hb⟩
  have hr0 : ¬ r < 0 := fun h => by have := hr.lt.1 h; have := HL.out; omega
  have HBW := Lib.hid hb
  obtain ⟨bd, e, hyc⟩ := Kd.at_int (Kd.C_below (Kd.V_reads' HB.out).2.2 hb) (0 : Int) (by omega) (by simp)
  subst e
  have hyc : W.cell? bd = some (.int .u64 y) := hyc
  clear hr hb
  go_wp2_with fail
  refine (HS.out W HBW.out).mono ?_
  rintro e W2 ⟨q, rfl, hq, hb⟩
  have HQ := Lib.hid (And.intro hq (HBW.out.trans (hb.mono HBW.out.size)))
  clear hq hb
  obtain ⟨m, hm⟩ : ∃ m, (a : Int) % y = m := ⟨_, rfl⟩
  rw [hm]
  have hmr : 0 ≤ m ∧ m < y := by rw [← hm]; exact ⟨Int.emod_nonneg _ (by omega), Int.emod_lt_of_pos _ hy1⟩
  have hmn : m.toNat = a % y.toNat := by
    have e : y = ((y.toNat : Nat) : Int) := (Int.toNat_of_nonneg (by omega)).symm
    rw [← hm, e, ← Int.natCast_emod, Int.toNat_natCast, Int.toNat_natCast]
  have HMn := Lib.hid (And.intro hmr hmn)
  clear hm hmr hmn
  go_wp2_with fail
  refine (trim_calls _ _ _ [m] (limbs_of_block (zs := [m]) (n := 1) (alloc_new rfl _) rfl (by omega)) (fun x hx => by rw [List.mem_singleton.1 hx]; have := HMn.out.1; omega) (by simp)).mono ?_
  rintro e W3 ⟨r2, rfl, hr2, hb⟩
  have e1 : (lv 1000000000 [m]).toNat = a % y.toNat := by rw [← HMn.out.2]; simp [lv]
  rw [e1] at hr2
  have HR := Lib.hid (And.intro hr2 ((HQ.out.2.alloc HQ.out.2.size _).trans (hb.mono (by have := HQ.out.2.size; simp; omega))))
  have HQ3 := Lib.hid ((HQ.out.1.below ((Below.refl _ W2).alloc (Nat.le_refl _) (.cells #[.int .u64 m] 113))).below (hb.mono (Nat.le_refl _)))
  clear hr2 hb e1
  go_wp2_with fail
  go_ret2
  exact ⟨_, _, rfl, ⟨HQ3.out.num, HR.out.1.num⟩, HR.out.2⟩

/-- A bound, hidden from the walk. -/
structure Fits (n a : Nat) : Prop where
  mk_ ::
  out : (a : Int) < 1000000000 ^ n
theorem Fits.up {n m a : Nat} (h : Fits n a) (hn : n ≤ m) : Fits m a := ⟨Int.lt_of_lt_of_le h.out (pow_le_pow b9 hn)⟩
theorem Fits.le {n a b : Nat} (h : Fits n a) (hb : b ≤ a) : Fits n b := ⟨Int.lt_of_le_of_lt (by omega) h.out⟩
theorem Fits.mul {n m a b : Nat} (ha : Fits n a) (hb : Fits m b) : Fits (n + m) (a * b) := by
  refine ⟨?_⟩
  rw [Int.pow_add, Int.natCast_mul]
  exact Int.lt_of_le_of_lt (Int.mul_le_mul_of_nonneg_left (Int.le_of_lt hb.out) (by omega)) (Int.mul_lt_mul_of_pos_right ha.out (Int.pow_pos (by decide)))
theorem Fits.one {a : Nat} (h : a < 1000000000) : Fits 1 a := ⟨by simp; omega⟩
theorem times_fits (u v : Value) (a b : Nat) (w : World) (ha : Num w u a) (hb : Num w v b) (hA : Fits 2000 a) (hB : Fits 2000 b) :
    Calls Tryz.prog 64 #[u, v] w fun e W => ∃ r zs, e = .returned r ∧ Own W w.heap.size r zs ∧ Lim 1000000000 zs ∧ Norm zs ∧ lv 1000000000 zs = ((a * b : Nat) : Int) ∧ Below w.heap.size w W := times_own u v a b w ha hb hA.out hB.out
end Go.Proofs.CW
namespace Go.Proofs.CW

/-- The long division, so far: k digits are still to come. -/
structure Long (V S : Int) (la lb : Nat) (ds qs : List Int) (k : Nat) : Prop where
  len : ds.length = la
  lenq : qs.length + lb = la
  lim : Lim 1000000000 ds
  limq : Lim 1000000000 qs
  low : lv 1000000000 (ds.drop k) < V
  val : lv 1000000000 ds + V * lv 1000000000 qs = S
  zero : ∀ j, j < k → qs.getD j 0 = 0
  kle : k ≤ qs.length
theorem getD_replicate (n j : Nat) : (List.replicate n (0 : Int)).getD j 0 = 0 := by
  by_cases h : j < n
  · rw [getD_lt (by simpa using h)]; simp
  · rw [getD_ge (by simp; omega)]
theorem lim_replicate (n : Nat) : Lim 1000000000 (List.replicate n (0 : Int)) := fun x hx => by
  rw [List.eq_of_mem_replicate hx]; omega
theorem Long.start {zs bs : List Int} {m : Nat} (hz : Lim 1000000000 zs) (hb : Lim 1000000000 bs) (nb : Norm bs) (hm : bs.length = m + 1) (hl : bs.length ≤ zs.length) :
    Long (lv 1000000000 bs) (lv 1000000000 zs) (zs.length + 1) bs.length (zs ++ [0]) (List.replicate (zs.length + 1 - bs.length) 0) (zs.length + 1 - bs.length) := by
  refine ⟨by simp, by simp; omega, lim_snoc.2 ⟨hz, by omega, by omega⟩, lim_replicate _, ?_, ?_, fun j _ => getD_replicate _ _, by simp⟩
  · rw [List.drop_append_of_le_length (by omega), lv_snoc, Int.mul_zero, Int.add_zero]
    have h1 := lv_lt b9 (lim_drop hz (zs.length + 1 - bs.length))
    obtain ⟨ys, y, e⟩ := snoc_of_ne (xs := bs) (by intro h; subst h; simp at hm)
    have h2 : (1000000000 : Int) ^ ys.length ≤ lv 1000000000 bs := by rw [e]; exact lv_ge b9 (by rw [← e]; exact hb) (norm_snoc.1 (by rw [← e]; exact nb))
    have h3 : ys.length = (zs.drop (zs.length + 1 - bs.length)).length := by rw [e]; simp; rw [e] at hl; simp at hl; omega
    rw [h3] at h2
    omega
  · rw [lv_snoc, lv_replicate]; simp
theorem Long.part {V S : Int} {la lb i : Nat} {ds qs : List Int} (h : Long V S la lb ds qs (i + 1)) (hV : V ≤ 1000000000 ^ lb) :
    ∃ pre part post, ds = pre ++ (part ++ post) ∧ pre.length = i ∧ part.length = lb + 1 ∧ lv 1000000000 post = 0 ∧ Lim 1000000000 part ∧ lv 1000000000 part < 1000000000 * V := by
  have hk := h.kle
  have hq := h.lenq
  have hl := h.len
  have hlow := h.low
  have e0 : ds = ds.take i ++ ((ds.drop i).take (lb + 1) ++ (ds.drop i).drop (lb + 1)) := by rw [List.take_append_drop, List.take_append_drop]
  have ld : Lim 1000000000 (ds.drop (i + 1)) := lim_drop h.lim _
  have e1 : (ds.drop i).drop (lb + 1) = (ds.drop (i + 1)).drop lb := by rw [List.drop_drop, List.drop_drop]; congr 1; omega
  have s1 : lv 1000000000 (ds.drop (i + 1)) = lv 1000000000 ((ds.drop (i + 1)).take lb) + 1000000000 ^ lb * lv 1000000000 ((ds.drop (i + 1)).drop lb) := by
    have := lv_append 1000000000 ((ds.drop (i + 1)).take lb) ((ds.drop (i + 1)).drop lb)
    rw [List.take_append_drop] at this
    rw [this]; congr 2; rw [List.length_take, List.length_drop, Nat.min_eq_left (by omega)]
  have n1 := lv_nonneg (B := 1000000000) (by decide) (lim_take ld lb)
  have n2 := lv_nonneg (B := 1000000000) (by decide) (lim_drop ld lb)
  have hp : (0 : Int) < 1000000000 ^ lb := Int.pow_pos (by decide)
  have hpost : lv 1000000000 ((ds.drop i).drop (lb + 1)) = 0 := by
    rw [e1]
    apply Classical.byContradiction
    intro hn
    have : (1000000000 : Int) ^ lb * 1 ≤ 1000000000 ^ lb * lv 1000000000 ((ds.drop (i + 1)).drop lb) := Int.mul_le_mul_of_nonneg_left (by omega) (Int.le_of_lt hp)
    omega
  refine ⟨_, _, _, e0, by rw [List.length_take]; omega, by rw [List.length_take, List.length_drop]; omega, hpost, lim_take (lim_drop h.lim _) _, ?_⟩
  have e2 : lv 1000000000 (ds.drop i) = lv 1000000000 ((ds.drop i).take (lb + 1)) := by
    have := lv_append 1000000000 ((ds.drop i).take (lb + 1)) ((ds.drop i).drop (lb + 1))
    rw [List.take_append_drop, hpost] at this
    omega
  have e3 := lv_drop_getD 1000000000 (xs := ds) (i := i) (by omega)
  have hg := lim_getD b9 h.lim i
  omega
theorem Long.step {V S g : Int} {la lb i : Nat} {pre part post zs qs : List Int} (h : Long V S la lb (pre ++ (part ++ post)) qs (i + 1)) (hpre : pre.length = i) (hpost : lv 1000000000 post = 0)
    (hz : lv 1000000000 zs = lv 1000000000 part - g * V) (hzl : zs.length = part.length) (hlim : Lim 1000000000 zs) (hlt : lv 1000000000 zs < V) (hg : 0 ≤ g ∧ g < 1000000000) :
    Long V S la lb (pre ++ (zs ++ post)) (qs.set i g) i := by
  obtain ⟨l1, l2⟩ := lim_append.1 h.lim
  obtain ⟨l3, l4⟩ := lim_append.1 l2
  have hk := h.kle
  refine ⟨?_, by rw [List.length_set]; exact h.lenq, lim_append.2 ⟨l1, lim_append.2 ⟨hlim, l4⟩⟩, lim_set h.limq _ hg.1 hg.2, ?_, ?_, fun j hj => ?_, by rw [List.length_set]; omega⟩
  · rw [← h.len]; simp [hzl]
  · rw [List.drop_append_of_le_length (by omega), List.drop_of_length_le (by omega), List.nil_append, lv_append, hpost]; omega
  · have hv := h.val
    rw [lv_append, lv_append, hpost, hpre] at hv
    rw [lv_append, lv_append, hpost, hpre, lv_set _ _ _ _ (by omega), h.zero i (by omega), hz]
    generalize (1000000000 : Int) ^ i = p at hv ⊢
    grind
  · rw [getD_set_ne g (by omega)]; exact h.zero j (by omega)
theorem Long.done {V S : Int} {la lb : Nat} {ds qs : List Int} (h : Long V S la lb ds qs 0) (hV : 0 < V) : lv 1000000000 qs = S / V ∧ lv 1000000000 ds = S % V := by
  have h1 := h.low
  rw [List.drop_zero] at h1
  have h2 := lv_nonneg (B := 1000000000) (by decide) h.lim
  have h3 := h.val
  subst h3
  rw [Int.add_mul_ediv_left _ _ (by omega), Int.ediv_eq_zero_of_lt h2 h1, Int.add_mul_emod_self_left, Int.emod_eq_of_lt h2 h1]
  omega
/-- What was taken was not too much. -/
theorem took_ok {U V g : Int} {zs : List Int} (hl : Lim 1000000000 zs) (hv : lv 1000000000 zs = U - g * V) (h1 : U < (g + 1) * V) : lv 1000000000 zs < V ∧ (g ≤ 0 ∨ 0 < g) := by
  have := Int.add_mul g 1 V
  constructor
  · omega
  · omega
/-- What was taken was too much: one is given back. -/
theorem gave_ok {U V g P q c z : Int} {zs : List Int} (hl : Lim 1000000000 zs) (hP : lv 1000000000 zs < P) (hz : 0 ≤ z ∧ z < P) (hq : 0 < q) (h1 : z = U - g * V + P * q) (hc : 0 ≤ c ∧ c ≤ 1) (h2 : lv 1000000000 zs + P * c = z + V)
    (hV : V ≤ P) (hlo : (g - 1) * V < U + 1) (hU : 0 ≤ U) (hV0 : 0 < V) : lv 1000000000 zs = U - (g - 1) * V ∧ lv 1000000000 zs < V ∧ 1 ≤ g := by
  have n1 := lv_nonneg (B := 1000000000) (by decide) hl
  have e1 : (g - 1) * V = g * V - V := by rw [Int.sub_mul, Int.one_mul]
  have hP0 : 0 < P := by omega
  have a0 : U - g * V < 0 := by
    have : P * 1 ≤ P * q := Int.mul_le_mul_of_nonneg_left (by omega) (Int.le_of_lt hP0)
    omega
  have hg : 1 ≤ g := by
    apply Classical.byContradiction
    intro hn
    have : g * V ≤ 0 := Int.mul_nonpos_of_nonpos_of_nonneg (by omega) (Int.le_of_lt hV0)
    omega
  have e2 : lv 1000000000 zs = U - (g - 1) * V + P * (q - c) := by rw [Int.mul_sub]; omega
  have e3 : q - c = 0 := by
    rcases Int.lt_trichotomy (q - c) 0 with h | h | h
    · have : P * (q - c) ≤ P * (-1) := Int.mul_le_mul_of_nonneg_left (by omega) (Int.le_of_lt hP0)
      omega
    · exact h
    · have : P * 1 ≤ P * (q - c) := Int.mul_le_mul_of_nonneg_left (by omega) (Int.le_of_lt hP0)
      omega
  rw [e3, Int.mul_zero, Int.add_zero] at e2
  omega
theorem gave_pos {U V g P q z : Int} (hP : z < P) (hz : 0 ≤ z) (hq : 0 < q) (h1 : z = U - g * V + P * q) (hU : 0 ≤ U) (hV0 : 0 < V) : 1 ≤ g := by
  have hP0 : 0 < P := by omega
  have a0 : U - g * V < 0 := by
    have : P * 1 ≤ P * q := Int.mul_le_mul_of_nonneg_left (by omega) (Int.le_of_lt hP0)
    omega
  apply Classical.byContradiction
  intro hn
  have : g * V ≤ 0 := Int.mul_nonpos_of_nonpos_of_nonneg (by omega) (Int.le_of_lt hV0)
  omega
end Go.Proofs.CW
namespace Go.Proofs.CW
open Go.RowKit Go.Shelf Go.Proofs.YtjfclkbdkafkcaaGreatDoorW.PrintWords Go.Proofs.YtjfclkbdkafkcaaGreatDoor.PF
attribute [local go_sem] Oper.semAt_some

/-- An own row that is not empty: its block. -/
theorem own_sub {W : World} {base L : Nat} {v : Value} {xs : List Int} (h : Own W base v xs) (hL : xs.length = L) (hp : 0 < L) : ∃ g cap post, v = .slice (some ⟨g, 0, none⟩) L cap ∧ base ≤ g ∧ (L + post.length = cap ∧ cap ≤ maxLen) ∧ Sub W g [] post xs := by
  subst hL
  obtain ⟨h1, h2 | ⟨g, cap, cur, e1, e2, e3, e4, e5, e6, e7⟩⟩ := h
  · omega
  · refine ⟨g, cap, cur.toList.drop xs.length, e1, e2, ⟨?_, e5⟩, ?_⟩
    · have e4 : xs.length ≤ cap := e4
      have e6 : cur.size = cap := by rw [e6, Nat.mul_one]
      have e8 : (cur.toList.drop xs.length).length = cap - xs.length := by rw [List.length_drop, Array.length_toList, e6]
      omega
    · unfold Sub
      rw [e3]
      rw [Nat.mul_one] at e7
      have : cur = (nums .u64 xs ++ cur.toList.drop xs.length).toArray := by rw [← e7, List.take_append_drop]
      rw [List.nil_append, ← this]
theorem own_of_sub {W : World} {g L cap : Nat} {post : List Value} {xs : List Int} (h : Sub W g [] post xs) (hL : xs.length = L) (hc : L + post.length = cap ∧ cap ≤ maxLen) : Own W g (.slice (some ⟨g, 0, none⟩) L cap) xs := by
  subst hL
  refine ⟨by simp [nums], .inr ⟨g, cap, _, rfl, Nat.le_refl _, h, by omega, hc.2, ?_, ?_⟩⟩
  · simp [nums]; omega
  · simp [nums, List.take_append_of_le_length]
theorem limbs_of_sub {W : World} {g L cap : Nat} {post : List Value} {xs : List Int} (h : Sub W g [] post xs) (hL : xs.length = L) (hc : L + post.length = cap ∧ cap ≤ maxLen) : Limbs W (fun k => k = g) (.slice (some ⟨g, 0, none⟩) L cap) xs := by
  subst hL
  exact Kd.R_V (Kd.R_of_own (own_of_sub h rfl hc) (fun k hk => (Option.some.inj hk).symm))
theorem Sub.heap {W W' : World} {g : Nat} {pre post : List Value} {xs : List Int} (h : Sub W g pre post xs) (e : W'.heap[g]? = W.heap[g]?) : Sub W' g pre post xs := e.trans h
theorem Sub.lt {W : World} {g : Nat} {pre post : List Value} {xs : List Int} (h : Sub W g pre post xs) : g < W.heap.size := (Array.getElem?_eq_some_iff.1 h).1
theorem Blk.lt {W : World} {g : Nat} {xs : List Int} (h : Blk W g xs) : g < W.heap.size := (Array.getElem?_eq_some_iff.1 h).1
theorem limbs_mono {W : World} {ok ok' : Nat → Prop} {v : Value} {xs : List Int} (h : Limbs W ok v xs) (hk : ∀ k, ok k → ok' k) : Limbs W ok' v xs := Kd.V_mono h hk
theorem below_others {w W W' : World} {g : Nat} (h : Below w.heap.size w W) (ho : Others g W W') (hg : w.heap.size ≤ g) : Below w.heap.size w W' :=
  ⟨ho.os.trans h.os, ho.tape.trans h.tape, ho.output.trans h.output, Nat.le_trans h.size ho.size, fun k hk => (ho.heap k (Nat.lt_of_lt_of_le hk h.size) (by omega)).trans (h.block k hk)⟩
theorem Sub.part {W : World} {g : Nat} {post : List Value} {a b c : List Int} : Sub W g [] post (a ++ (b ++ c)) ↔ Sub W g (nums .u64 a) (nums .u64 c ++ post) b := by
  unfold Sub
  simp [nums]
theorem own_lower {W : World} {base base' n : Nat} {e : TypeId} {size : Nat} {v : Value} {xs : List Value} (h : W.ownsRow base e size v n xs) (hb : base' ≤ base) : W.ownsRow base' e size v n xs := by
  obtain ⟨h1, h2⟩ := h
  refine ⟨h1, ?_⟩
  rcases h2 with h2 | ⟨g, cap, cur, e1, e2, e3⟩
  · exact .inl h2
  · exact .inr ⟨g, cap, cur, e1, Nat.le_trans hb e2, e3⟩
theorem short_fits (v : Value) (a : Nat) (d : Int) (w : World) (ha : Num w v a) (hd : 0 < d ∧ d ≤ 1000000000) (hA : Fits 2000 a) :
    Calls Tryz.prog 138 #[v, .int .u64 d] w fun e W => ∃ q, e = .returned (.tuple #[q, .int .u64 ((a : Int) % d)]) ∧ NumIn W (fun k => w.heap.size ≤ k) q (a / d.toNat) ∧ Below w.heap.size w W := by
  obtain ⟨xs, h1, h2, h3, h4⟩ := ha.ex
  obtain ⟨A, c, rfl⟩ := Kd.V_slice h1
  have hl1 : xs.length ≤ 2000 := length_le_of_lt b9 h2 h3 (by rw [h4]; exact hA.out)
  refine (callsIn_wide.1 (short_in Fence.wide 9 rfl rfl (fun _ => trivial) (fun h => callsIn_wide.2 h) (by omega) A c xs (by omega) h2 d hd w (Kd.V_reads' h1).2.2)).mono ?_
  rintro e W ⟨q, r, rfl, ⟨hq, rfl⟩, hb⟩
  rw [h4] at hq ⊢
  have e1 : ((a : Int) / d).toNat = a / d.toNat := by
    obtain ⟨m, rfl⟩ := Int.eq_ofNat_of_zero_le (Int.le_of_lt hd.1)
    rw [← Int.natCast_ediv, Int.toNat_natCast, Int.toNat_natCast]
  rw [e1] at hq
  exact ⟨q, rfl, hq, hb⟩
theorem greater_int (g s l n : Int) (hg : 0 ≤ g ∧ g < 18446744073709551616) (hs : 0 ≤ s ∧ s < 18446744073709551616) (hl : 0 ≤ l ∧ l < 1000000000 * 1000000000) (hn : 0 ≤ n ∧ n < 1000000000) (w : World) :
    Calls Tryz.prog 139 #[.int .u64 g, .int .u64 s, .int .u64 l, .int .u64 n] w fun e W => e = .returned (.bool (decide (l * 1000000000 + n < g * s))) ∧ w = W := by
  obtain ⟨g, rfl⟩ := Int.eq_ofNat_of_zero_le hg.1
  obtain ⟨s, rfl⟩ := Int.eq_ofNat_of_zero_le hs.1
  obtain ⟨l, rfl⟩ := Int.eq_ofNat_of_zero_le hl.1
  obtain ⟨n, rfl⟩ := Int.eq_ofNat_of_zero_le hn.1
  refine (greater_calls g s l n (by omega) (by omega) (by omega) (by omega) w).mono ?_
  rintro e W ⟨rfl, rfl⟩
  exact ⟨congrArg (fun b => Ending.returned (.bool b)) (decide_eq_decide.2 (by rw [← Int.natCast_mul]; omega)), rfl⟩
set_option maxRecDepth 100000 in
set_option maxHeartbeats 2000000 in
theorem over_long (u : Value) (B : Option Addr) (d : Nat) (ys : List Int) (a b L p m : Nat) (hLp : L = p + 1) (hpm : p = m + 1) (w : World) (ha : Num w u a) (hb : Limbs w (fun _ => True) (.slice B L d) ys) (hyl : ys.length = L) (hy : Lim 1000000000 ys) (ny : Norm ys) (hyv : lv 1000000000 ys = b) (hge : b ≤ a) (hA : (a : Int) < 1000000000 ^ 1000) :
    Calls Tryz.prog 113 #[u, .slice B L d] w fun e W => ∃ q r, e = .returned (.tuple #[q, r]) ∧ (Num W q (a / b) ∧ Num W r (a % b)) ∧ Below w.heap.size w W := by
  obtain ⟨xs, hx1, hx2, hx3, hx4⟩ := ha.ex
  obtain ⟨A, c, rfl⟩ := Kd.V_slice hx1
  have HX := Lib.hid (And.intro hx2 (And.intro hx3 hx4))
  have hxl : xs.length ≤ 1000 := length_le_of_lt b9 hx2 hx3 (by rw [hx4]; exact hA)
  have hbn : Num w (.slice B L d) b := ⟨ys, by rw [← hyl] at hb ⊢; exact hb, hy, ny, hyv⟩
  have hB : (b : Int) < 1000000000 ^ 1000 := by omega
  have hml : L ≤ 1000 := by have := length_le_of_lt b9 hy ny (k := 1000) (by rw [hyv]; exact hB); omega
  have ht := lim_getD b9 hy p
  have HC := Lib.hid (compare_calls (.slice A xs.length c) (.slice B L d) a b w ha hbn hA hB)
  have HA := Lib.hid ha
  have HBN := Lib.hid hbn
  have HB := Lib.hid hb
  have HL := Lib.hid hge
  have HY := Lib.hid (And.intro hyl (And.intro hy (And.intro ny hyv)))
  have HFa := Lib.hid (show Fits 2000 a from Fits.up (n := 1000) ⟨hA⟩ (by omega))
  have HFb := Lib.hid (show Fits 1000 b from ⟨hB⟩)
  have HLp := Lib.hid (And.intro hLp hpm)
  have c1 : ((L : Int) == 1) = false := by simp; omega
  have e1 : (L : Int) - 1 = (p : Int) := by omega
  have k1 : (p : Int) < (L : Int) := by omega
  have k0 : (0 : Int) ≤ (p : Int) := by omega
  have k3 : p < L := by omega
  obtain ⟨t, hte⟩ : ∃ t, ys.getD p 0 = t := ⟨_, rfl⟩
  have HT := Lib.hid hte
  rw [hte] at ht
  obtain ⟨ht1, ht2⟩ := ht
  clear hx1 hx2 hx3 hx4 ha hb hA hB hbn hge hyl hy ny hyv hte hLp hpm
  go_enter Tryz.func113, Tryz.ntmps113
  go_wp2_with fail
  refine HC.out.mono ?_
  rintro e W ⟨r, rfl, hr, hb⟩
  have hr0 : ¬ r < 0 := fun h => by have := hr.lt.1 h; have := HL.out; omega
  have HBW := Lib.hid hb
  obtain ⟨bd, e, hyc⟩ := Kd.at_int (Kd.C_below (Kd.V_reads' HB.out).2.2 hb) (p : Int) (by omega) (by have := HY.out.1; omega)
  subst e
  rw [rd_nat, Int.toNat_natCast, HT.out] at hyc
  have h10 : ¬ (t + 1 = 0) := by omega
  clear hr hb
  go_wp2_with fail
  obtain ⟨sc, hsc⟩ : ∃ sc, 1000000000 / (t + 1) = sc := ⟨_, rfl⟩
  have hsr : 1 ≤ sc ∧ sc < 1000000000 := by
    have ht0 : t ≠ 0 := by
      have hn := HY.out.2.2.1
      have hl := HY.out.1
      have ht := HT.out
      have h3 := HLp.out.1
      rw [getD_lt (by omega)] at ht
      have h4 : ys.getLast? = some ys[p] := by rw [List.getLast?_eq_getElem?, List.getElem?_eq_getElem (by omega)]; congr 2; omega
      have := hn _ h4
      rw [ht] at this; exact this
    rw [← hsc]
    constructor
    · exact (Int.le_ediv_iff_mul_le (by omega)).2 (by omega)
    · exact Int.ediv_lt_of_lt_mul (by omega) (by omega)
  rw [hsc]
  have HSC := Lib.hid hsr
  clear hsc hsr
  have hsn : ∀ W', Below w.heap.size w W' → Num (W'.alloc (.cells #[.int .u64 sc] 113)) (.slice (some ⟨W'.heap.size, 0, none⟩) 1 1) sc.toNat := fun W' _ => ⟨[sc], Kd.V_mono (limbs_of_block (zs := [sc]) (n := 1) (alloc_new rfl _) rfl (by omega)) (fun _ _ => trivial), fun x hx => by rw [List.mem_singleton.1 hx]; have := HSC.out; omega, fun x hx => by simp at hx; have := HSC.out; omega, by simp [lv]; have := HSC.out; omega⟩
  have HSN := Lib.hid hsn
  clear hsn
  refine (times_fits _ _ a sc.toNat _ ((HA.out.below HBW.out).below ((Below.refl _ W).alloc (Nat.le_refl _) _)) (HSN.out W HBW.out) HFa.out (Fits.up (Fits.one (by have := HSC.out; omega)) (by omega))).mono ?_
  rintro e W1 ⟨r1, zs, rfl, f1, f2, f3, f4, f5⟩
  have HF := Lib.hid (And.intro f1 (And.intro f2 (And.intro f3 (And.intro f4 f5))))
  clear f1 f2 f3 f4 f5
  obtain ⟨i0, hi, hz0, hz1, hz2⟩ := info_parts info_u64
  have hzl : zs.length ≤ 3000 := by
    have h := (HFa.out.mul (Fits.one (a := sc.toNat) (by have := HSC.out; omega))).out
    rw [← HF.out.2.2.2.1] at h
    exact Nat.le_trans (length_le_of_lt b9 HF.out.2.1 HF.out.2.2.1 h) (by omega)
  have ho : W1.ownsRow w.heap.size 113 1 r1 zs.length (nums .u64 zs) := own_lower HF.out.1 (by have := HBW.out.size; simp; omega)
  have hs1 : w.heap.size ≤ (W1.alloc (.cells #[.int .u64 0] 113)).heap.size := by have := HBW.out.size; have := HF.out.2.2.2.2.size; simp at *; omega
  go_wp2_with (at_builtin; refine wpList_append_own _ rfl _ _ 92 rfl w.heap.size 113 i0 (.int .u64 0) 1 8 Tryz.underlying92 hi hz0 hz1 hz2 rfl (by decide) _ _ _ rfl (ho.alloc _) ⟨W1.heap.size, 0, none⟩ 1 1 [.int .u64 0] rfl rfl (cell_one_new _ _ _) (by simp [Value.oneCell']) (by unfold maxLen; omega) (by omega) hs1 ?_; intro v2 W2 hown2 hgrow2 _; clear ho)
  have HB2 := Lib.hid (show Below w.heap.size w W2 from ((((HBW.out.alloc HBW.out.size _).trans (HF.out.2.2.2.2.mono (by have := HBW.out.size; simp; omega))).alloc (by have := HBW.out.size; have := HF.out.2.2.2.2.size; simp at *; omega) _).grown hgrow2 hs1 (fun j hj => own_base (own_lower HF.out.1 (by have := HBW.out.size; simp; omega)) j hj)))
  have HO2 := Lib.hid (show Own W2 w.heap.size v2 (zs ++ [0]) by simpa [Own, nums] using hown2)
  clear hown2 hgrow2 hs1
  go_wp2_with fail
  refine (times_fits _ _ b sc.toNat _ ((HBN.out.below HB2.out).below ((Below.refl _ W2).alloc (Nat.le_refl _) _)) (HSN.out W2 HB2.out) (HFb.out.up (by omega)) (Fits.up (Fits.one (by have := HSC.out; omega)) (by omega))).mono ?_
  rintro e W3 ⟨r3, bs, rfl, f1, f2, f3, f4, f5⟩
  have HG := Lib.hid (And.intro f1 (And.intro f2 (And.intro f3 (And.intro f4 f5))))
  clear f1 f2 f3 f4 f5
  have hbl : bs.length ≤ 3000 := by
    have h := ((HFb.out).mul (Fits.one (a := sc.toNat) (by have := HSC.out; omega))).out
    rw [← HG.out.2.2.2.1] at h
    exact Nat.le_trans (length_le_of_lt b9 HG.out.2.1 HG.out.2.2.1 h) (by omega)
  have hzx : xs.length ≤ zs.length := by
    apply Classical.byContradiction
    intro hn
    have h1 := lv_lt_of_length b9 HF.out.2.1 HX.out.1 HX.out.2.1 (by omega)
    rw [HF.out.2.2.2.1, HX.out.2.2] at h1
    have h2 : a * 1 ≤ a * sc.toNat := Nat.mul_le_mul_left _ (by have := HSC.out; omega)
    omega
  have hlb2 : ys.length ≤ bs.length := by
    apply Classical.byContradiction
    intro hn
    have h1 := lv_lt_of_length b9 HG.out.2.1 HY.out.2.1 HY.out.2.2.1 (by omega)
    rw [HG.out.2.2.2.1, HY.out.2.2.2] at h1
    have h2 : b * 1 ≤ b * sc.toNat := Nat.mul_le_mul_left _ (by have := HSC.out; omega)
    omega
  have hl2 : 2 ≤ bs.length := by have := HY.out.1; have := HLp.out; omega
  have hbz : bs.length ≤ zs.length := by
    apply Classical.byContradiction
    intro hn
    have h1 := lv_lt_of_length b9 HF.out.2.1 HG.out.2.1 HG.out.2.2.1 (by omega)
    rw [HF.out.2.2.2.1, HG.out.2.2.2.1] at h1
    have h2 : b * sc.toNat ≤ a * sc.toNat := Nat.mul_le_mul_right _ HL.out
    omega
  obtain ⟨mb, hmb⟩ : ∃ mb, bs.length = mb + 2 := ⟨bs.length - 2, by omega⟩
  have hLong := Long.start HF.out.2.1 HG.out.2.1 HG.out.2.2.1 (m := mb + 1) (by omega) hbz
  obtain ⟨la, hla⟩ : ∃ la, (zs ++ [(0 : Int)]).length = la := ⟨_, rfl⟩
  obtain ⟨lb, hlb⟩ : ∃ lb, bs.length = lb := ⟨_, rfl⟩
  obtain ⟨qn, hnq⟩ : ∃ qn, la - lb = qn := ⟨_, rfl⟩
  obtain ⟨qb, hqb⟩ : ∃ qb, mb + 1 = qb := ⟨_, rfl⟩
  obtain ⟨ga, ca, pa, rfl, hga, hca, hsa⟩ := own_sub HO2.out hla (by simp at hla; omega)
  obtain ⟨gb, cb, pb, rfl, hgb, hcb, hsb⟩ := own_sub HG.out.1 hlb (by omega)
  have hla' : zs.length + 1 = la := by simp at hla; omega
  rw [hla', hlb, hnq] at hLong
  have hsa3 : Sub W3 ga [] pa (zs ++ [0]) := hsa.heap ((HG.out.2.2.2.2.block _ (by have := hsa.lt; simp; omega)).trans (Below.heap_alloc W2 _ _ hsa.lt))
  have hgab : ga < gb := by have := hsa.lt; simp at hgb; omega
  have HQ := Lib.hid (And.intro hLong (And.intro hsa3 (And.intro hsb (And.intro hca (And.intro hcb (And.intro hgab (And.intro hga (And.intro hla' (And.intro hlb hmb)))))))))
  have HB3 := Lib.hid (show Below w.heap.size w W3 from ((HB2.out.alloc HB2.out.size _).trans (HG.out.2.2.2.2.mono (by have := HB2.out.size; simp; omega))))
  have HN := Lib.hid (And.intro hnq hqb)
  have hvp : 0 < lv 1000000000 bs := by
    rw [HG.out.2.2.2.1]
    have h1 : 0 < b := by
      have := lv_pos b9 HY.out.2.1 HY.out.2.2.1 (by intro e; have := HY.out.1; rw [e] at this; simp at this; have := HLp.out; omega)
      rw [HY.out.2.2.2] at this; omega
    have := Nat.mul_pos h1 (show 0 < sc.toNat by have := HSC.out; omega)
    omega
  have HVP := Lib.hid hvp
  have HBP := Lib.hid (show 0 < b by
    have h := HVP.out
    rw [HG.out.2.2.2.1] at h
    rcases Nat.eq_zero_or_pos b with e | e
    · rw [e, Nat.zero_mul] at h; omega
    · exact e)
  obtain ⟨v1, hv1⟩ : ∃ v1, bs.getD qb 0 = v1 := ⟨_, rfl⟩
  obtain ⟨v2, hv2⟩ : ∃ v2, bs.getD mb 0 = v2 := ⟨_, rfl⟩
  have b1 := (hsb.get qb (by omega)).1
  have b2 := (hsb.get mb (by omega)).1
  rw [hv1] at b1
  rw [hv2] at b2
  simp only [List.length_nil, Nat.zero_add] at b1 b2
  have hv1r := lim_getD b9 HG.out.2.1 qb
  have hv2r := lim_getD b9 HG.out.2.1 mb
  rw [hv1] at hv1r
  rw [hv2] at hv2r
  obtain ⟨v1a, v1b⟩ := hv1r
  obtain ⟨v2a, v2b⟩ := hv2r
  have hv0 : ¬ v1 = 0 := by
    have hn := HG.out.2.2.1
    intro e
    rw [e, getD_lt (by omega)] at hv1
    refine hn 0 ?_ rfl
    rw [List.getLast?_eq_getElem?, List.getElem?_eq_getElem (by omega)]
    congr 1
    rw [← hv1]; congr 1; omega
  have HV := Lib.hid (And.intro hv1 hv2)
  have c2 : ((la : Int) == (xs.length : Int)) = false := by simp; omega
  have hbn : (lb : Int) - 1 = (qb : Int) := by omega
  have hbm : (lb : Int) - 2 = (mb : Int) := by omega
  have hq0 : (0 : Int) ≤ (qb : Int) := by omega
  have hq1 : (qb : Int) < (lb : Int) := by omega
  have hm0 : (0 : Int) ≤ (mb : Int) := by omega
  have hm1 : (mb : Int) < (lb : Int) := by omega
  have hla3 : la ≤ 3001 := by omega
  have hlb3 : lb ≤ 3000 := by omega
  have hlq : lb ≤ la := by omega
  clear hlb2 hl2 hv1 hv2 hmb hqb hsa hsb hsa3 hla' hca hcb hgab hzx hbz hLong hla hlb hnq hga hgb hvp hzl hbl
  go_wp2_with fail
  go_quiet (fail)
  have hmk := fun W => make_nums W qn (by have := HN.out; omega)
  have hnn : (la : Int) - (lb : Int) = (qn : Int) := by have := HN.out; omega
  go_wp2_with fail
  obtain ⟨gq, hgq⟩ : ∃ gq, W3.heap.size = gq := ⟨_, rfl⟩
  obtain ⟨W4, hW4⟩ : ∃ W4, (W3.drewN nq).alloc (.cells (nums .u64 (List.replicate qn 0)).toArray 113) = W4 := ⟨_, rfl⟩
  have s1 : Sub W4 ga [] pa (zs ++ [0]) := by rw [← hW4]; exact alloc_at (w := W3.drewN nq) HQ.out.2.1
  have s2 : Sub W4 gb [] pb bs := by rw [← hW4]; exact alloc_at (w := W3.drewN nq) HQ.out.2.2.1
  have s3 : Blk W4 gq (List.replicate qn 0) := by rw [← hW4, ← hgq]; exact heap_alloc_new (W3.drewN nq) _
  have s4 : Below w.heap.size w W4 := by rw [← hW4]; exact (pw_below_drewN HB3.out nq).alloc (by have := HB3.out.size; simpa using this) _
  have s5 : gb < gq := by have := HQ.out.2.2.1.lt; omega
  have HS := Lib.hid (And.intro s1 (And.intro s2 (And.intro s3 (And.intro s4 s5))))
  clear s1 s2 s3 s4 s5 hmk hnn
  rw [hgq, hW4]
  clear hgq hW4
  go_loopw [13] (fun idx wr => ∃ (k : Nat) (x : Int) (ds qs : List Int), idx = .int .i64 x ∧ Hid (x = (k : Int) - 1) ∧ Hid (Long (lv 1000000000 bs) (lv 1000000000 zs) la lb ds qs k) ∧ Hid (Sub wr ga [] pa ds ∧ Sub wr gb [] pb bs ∧ Blk wr gq qs ∧ Below w.heap.size w wr)) (fun idx _ => (intOf idx + 1).toNat)
  case atStart => exact ⟨qn, _, _, _, rfl, Lib.hid rfl, Lib.hid HQ.out.1, Lib.hid ⟨HS.out.1, HS.out.2.1, HS.out.2.2.1, HS.out.2.2.2.1⟩⟩
  case round =>
    obtain ⟨k, x, ds, qs, rfl, hx, HLo, HW⟩ := hrel
    cases k with
    | zero =>
      obtain rfl : x = -1 := by have := hx.out; omega
      have hdl := HLo.out.len
      have hql := HLo.out.lenq
      have hlim := HLo.out.lim
      have hlimq := HLo.out.limq
      have hn := HN.out
      have hT := trim_calls wr _ _ ds (limbs_of_sub (L := la) (cap := ca) HW.out.1 hdl HQ.out.2.2.2.1) hlim (by omega)
      have HT := Lib.hid hT
      have HH := Lib.hid (And.intro hdl (And.intro hql (And.intro hlim (And.intro hlimq hn))))
      clear hdl hql hlim hlimq hn hT
      go_wp2_with fail
      refine HT.out.mono ?_
      rintro e W5 ⟨r5, rfl, hr5, hb5⟩
      have HR5 := Lib.hid (And.intro hr5 hb5)
      clear hr5 hb5 HT
      go_wp2_with fail
      have hdone := HLo.out.done HVP.out
      have hS : (lv 1000000000 ds).toNat = (a % b) * sc.toNat ∧ (lv 1000000000 qs).toNat = a / b := by
        rw [hdone.1, hdone.2, HF.out.2.2.2.1, HG.out.2.2.2.1, ← Int.natCast_ediv, ← Int.natCast_emod, Int.toNat_natCast, Int.toNat_natCast]
        have hs : 0 < sc.toNat := by have := HSC.out; omega
        exact ⟨Nat.mul_mod_mul_right _ _ _, Nat.mul_div_mul_right _ _ hs⟩
      have hr6 := HR5.out.1
      rw [hS.1] at hr6
      have hfr : Fits 2000 ((a % b) * sc.toNat) := ((HFb.out.le (Nat.le_of_lt (Nat.mod_lt a HBP.out))).mul (Fits.one (a := sc.toNat) (by have := HSC.out; omega))).up (by omega)
      refine (short_fits r5 _ sc _ hr6.num (by have := HSC.out; omega) hfr).mono ?_
      rintro e W6 ⟨q6, rfl, hq6, hb6⟩
      rw [Nat.mul_div_cancel _ (by have := HSC.out; omega)] at hq6
      have HR6 := Lib.hid (And.intro hq6 (And.intro hb6 hS.2))
      clear hq6 hb6 hS hr6 hfr hdone
      go_wp2_with fail
      have hqq := HH.out.2.1
      have hnn := HH.out.2.2.2.2
      have hLq := limbs_of_block (n := qn) HW.out.2.2.1 (by have := HH.out.1; omega) (by omega)
      refine (trim_calls W6 _ _ qs (Kd.V_below (Kd.V_below hLq HR5.out.2) HR6.out.2.1) HH.out.2.2.2.1 (by omega)).mono ?_
      rintro e W7 ⟨u7, rfl, hu7, hb7⟩
      rw [HR6.out.2.2] at hu7
      have HR7 := Lib.hid (And.intro hu7 hb7)
      clear hqq hnn hLq hu7 hb7
      go_wp2_with fail
      go_ret2
      refine ⟨_, _, rfl, ⟨HR7.out.1.num, (HR6.out.1.below HR7.out.2).num⟩, ?_⟩
      have e1 := HW.out.2.2.2
      have e2 := e1.trans (HR5.out.2.mono e1.size)
      have e3 := e2.trans (HR6.out.2.1.mono e2.size)
      exact e3.trans (HR7.out.2.mono e3.size)
    | succ i =>
      obtain rfl : x = (i : Int) := by have := hx.out; omega
      obtain ⟨pre, part, post, hds, hpl, hptl, hpz, hplim, hplt⟩ := HLo.out.part (by have h := lv_lt b9 HG.out.2.1; rw [HQ.out.2.2.2.2.2.2.2.2.1] at h; exact Int.le_of_lt h)
      subst hds
      have hsp := Sub.part.1 HW.out.1
      have hnp : (nums .u64 pre).length = i := by simp [nums, hpl]
      have hkle := HLo.out.kle
      have hlq2 := HLo.out.lenq
      have hn := HN.out
      have hqq := HQ.out
      have p0 := (hsp.get lb (by omega)).1
      have p1 := (hsp.get qb (by omega)).1
      have p2 := (hsp.get mb (by omega)).1
      rw [hnp] at p0 p1 p2
      have u0r := lim_getD b9 hplim lb
      have u1r := lim_getD b9 hplim qb
      have u2r := lim_getD b9 hplim mb
      have hheads := heads_of (m := mb) hplim HG.out.2.1 (by omega) (by omega) (by rw [hn.2, HV.out.1]; exact hv0) hplt
      rw [show mb + 2 = lb by omega, hn.2, HV.out.1, HV.out.2] at hheads
      obtain ⟨u0, hu0⟩ : ∃ u, part.getD lb 0 = u := ⟨_, rfl⟩
      obtain ⟨u1, hu1⟩ : ∃ u, part.getD qb 0 = u := ⟨_, rfl⟩
      obtain ⟨u2, hu2⟩ : ∃ u, part.getD mb 0 = u := ⟨_, rfl⟩
      rw [hu0] at p0 u0r hheads
      rw [hu1] at p1 u1r hheads
      rw [hu2] at p2 u2r hheads
      obtain ⟨u0a, u0b⟩ := u0r
      obtain ⟨u1a, u1b⟩ := u1r
      obtain ⟨u2a, u2b⟩ := u2r
      have ic0 : (i : Int) + (lb : Int) + 1 ≤ (la : Int) := by omega
      have ic1 : (la : Int) ≤ (ca : Int) := by omega
      have iq : (i : Int) < (qn : Int) := by omega
      have ic2 : (i : Int) < (ca : Int) := by omega
      have i0 : (0 : Int) ≤ (i : Int) := by omega
      have il0 : (0 : Int) ≤ (lb : Int) := by omega
      have ipl : (i : Int) + (lb : Int) + 1 - (i : Int) = (lb : Int) + 1 := by omega
      have HPA := Lib.hid (And.intro hpl (And.intro hptl (And.intro hpz (And.intro hplim (And.intro hplt (And.intro hsp (And.intro hnp hheads)))))))
      clear hpl hptl hpz hplim hplt hsp hnp hheads hkle hlq2 hn hqq hu0 hu1 hu2
      have hh0 : 0 ≤ u0 * 1000000000 + u1 := by omega
      have hh1 : u0 * 1000000000 + u1 < 1000000000000000000 := by omega
      go_wp2_with fail
      go_quiet (fail)
      rename Nat => nq1
      obtain ⟨hd, hhd⟩ : ∃ hd, u0 * 1000000000 + u1 = hd := ⟨_, rfl⟩
      rw [hhd] at hh0 hh1
      have HD := Lib.hid hhd
      rw [hhd]
      clear hhd
      have g5 : 0 ≤ hd / v1 := Int.ediv_nonneg hh0 v1a
      have g6 : hd / v1 < 1000000000000000000 := Int.lt_of_le_of_lt (Int.ediv_le_self _ hh0) hh1
      have g7 : 0 ≤ hd % v1 := Int.emod_nonneg _ hv0
      have g8 : hd % v1 < 1000000000 := Int.lt_trans (Int.emod_lt_of_pos _ (by omega)) v1b
      go_wp2_with fail
      go_quiet (fail)
      obtain ⟨W5, hW5⟩ : ∃ W5, ((wr.drewN nq1).drewN nq) = W5 := ⟨_, rfl⟩
      have HW5 := Lib.hid (show Sub W5 ga (nums .u64 pre) (nums .u64 post ++ pa) part ∧ Sub W5 gb [] pb bs ∧ Blk W5 gq qs ∧ Below w.heap.size w W5 by
        rw [← hW5]
        exact ⟨HPA.out.2.2.2.2.2.1, HW.out.2.1, HW.out.2.2.1, pw_below_drewN (pw_below_drewN HW.out.2.2.2 _) _⟩)
      have p2' : W5.cell? ⟨ga, i + mb, none⟩ = some (.int .u64 u2) := by rw [← hW5]; exact p2
      have hgs := Guess.start HPA.out.2.2.2.2.2.2.2.1
      have hub := HPA.out.2.2.2.2.2.2.2.2
      rw [HD.out] at hgs hub
      have HGS := Lib.hid hgs
      have HUB := Lib.hid hub
      have HHE := Lib.hid (show Heads (lv 1000000000 part) (lv 1000000000 bs) hd v1 v2 u2 (1000000000 ^ mb) by rw [← HD.out]; exact HPA.out.2.2.2.2.2.2.2.1)
      rw [hW5]
      clear hW5 hgs hub p0 p1 p2 hh0 hh1
      go_wp2_with fail
      go_loop [16, 17] (fun s16 s17 => ∃ g l : Int, s16 = .int .u64 g ∧ s17 = .int .u64 l ∧ 0 ≤ g ∧ g < 1000000000000000000 ∧ 0 ≤ l ∧ l < 1000000000 ∧ Hid (Guess (lv 1000000000 part) (lv 1000000000 bs) hd v1 v2 u2 (1000000000 ^ mb) g l)) (fun s16 _ => (intOf s16).toNat)
      case atStart => exact ⟨_, _, rfl, rfl, g5, g6, g7, g8, HGS⟩
      case round =>
        clear g5 g6 g7 g8
        obtain ⟨g, l, rfl, rfl, g1, g2, l1, l2, HGu⟩ := hrel
        by_cases hc : 1000000000 ≤ g ∨ l * 1000000000 + u2 < g * v2
        · have hdn := HGu.out.down HHE.out hc
          have hnn := hdn.nn
          have HDN := Lib.hid hdn
          have HC := Lib.hid hc
          clear hdn hc
          by_cases hbr : 1000000000 ≤ l + v1
          · have HBR := Lib.hid (HDN.out.broke HHE.out hbr HUB.out)
            have HGG := Lib.hid (show (0 ≤ g - 1 ∧ g - 1 < 1000000000) ∧ lv 1000000000 part < (g - 1 + 1) * lv 1000000000 bs ∧ (g - 1 - 1) * lv 1000000000 bs < lv 1000000000 part + 1 from ⟨⟨HDN.out.nn, HBR.out.1⟩, HDN.out.done HHE.out HBR.out.1 HBR.out.2⟩)
            by_cases hg9 : 1000000000 ≤ g
            · go_wp2_with fail
              go_wp2_with fail
              refine (take_calls ga i _ _ _ _ _ (g - 1) part bs HPA.out.2.2.2.2.2.2.1 (by have := HPA.out.2.1; omega) (by have := HPA.out.2.1; omega) (by have := HPA.out.2.1; have := HQ.out.2.2.2.2.2.2.2.2.1; omega) HGG.out.1 HPA.out.2.2.2.1 HG.out.2.1 W5 HW5.out.1 (limbs_mono (limbs_of_sub HW5.out.2.1 HQ.out.2.2.2.2.2.2.2.2.1 HQ.out.2.2.2.2.1) (fun k hk => by have := HQ.out.2.2.2.2.2.1; omega))).mono ?_
              rintro e W6 ⟨ps, q, rfl, hs6, ho6, hl6, hlim6, hq6, hv6⟩
              have hbq6 : Blk W6 gq qs := (ho6.heap gq HW5.out.2.2.1.lt (by have := HQ.out.2.2.2.2.2.1; have := HS.out.2.2.2.2; omega)).trans HW5.out.2.2.1
              have hsb6 : Sub W6 gb [] pb bs := HW5.out.2.1.heap (ho6.heap gb HW5.out.2.1.lt (by have := HQ.out.2.2.2.2.2.1; omega))
              have hbl6 : Below w.heap.size w W6 := below_others HW5.out.2.2.2 ho6 HQ.out.2.2.2.2.2.2.1
              have hP := lv_lt b9 hlim6
              rw [hl6] at hP
              have hn6 := lv_nonneg (B := 1000000000) (by decide) hlim6
              by_cases hq0' : q = 0
              · have d6 := Lib.hid (show decide (q = 0) = true by simp [hq0'])
                obtain ⟨bb, hbb⟩ : ∃ bb, decide (q = 0) = bb := ⟨_, rfl⟩
                rw [hbb]
                obtain rfl : bb = true := hbb.symm.trans d6.out
                have hzv : lv 1000000000 ps = lv 1000000000 part - (g - 1) * lv 1000000000 bs := by rw [hv6, hq0']; simp
                have hto := took_ok hlim6 hzv HGG.out.2.1
                have hL6 := HLo.out.step HPA.out.1 HPA.out.2.2.1 hzv hl6 hlim6 hto.1 HGG.out.1
                obtain ⟨f1, f2⟩ := hbq6.get i (by have := HLo.out.kle; omega)
                have HL6 := Lib.hid hL6
                have H6 := Lib.hid (And.intro hs6 (And.intro hsb6 (And.intro hbq6 hbl6)))
                clear hs6 ho6 hl6 hlim6 hq6 hv6 hbq6 hsb6 hbl6 hP hn6 hq0' hzv hto hL6 hbb
                go_wp2_with fail
                refine ⟨⟨i, _, _, _, rfl, Lib.hid rfl, HL6, Lib.hid ⟨?_, ?_, ?_, ?_⟩⟩, by simp [intOf]⟩
                · exact Sub.part.2 (H6.out.1.heap (Below.heap_setCell _ _ _ _ (by have := HQ.out.2.2.2.2.2.1; have := HS.out.2.2.2.2; show ga ≠ gq; omega)))
                · exact H6.out.2.1.heap (Below.heap_setCell _ _ _ _ (by have := HS.out.2.2.2.2; show gb ≠ gq; omega))
                · exact H6.out.2.2.1.set i _
                · exact H6.out.2.2.2.setCell (p := ⟨gq, i, none⟩) (by have := HQ.out.2.2.2.2.2.1; have := HQ.out.2.2.2.2.2.2.1; have := HS.out.2.2.2.2; show _ ≤ gq; omega) _
              · have d6 := Lib.hid (show decide (q = 0) = false by simp [hq0'])
                obtain ⟨bb, hbb⟩ : ∃ bb, decide (q = 0) = bb := ⟨_, rfl⟩
                rw [hbb]
                obtain rfl : bb = false := hbb.symm.trans d6.out
                have hgive := give_calls ga i (i + lb + 1 - i) (ca - i) _ _ (.slice (some ⟨gb, 0, none⟩) lb cb) ps bs HPA.out.2.2.2.2.2.2.1 (by have := HPA.out.2.1; omega) (by have := HPA.out.2.1; omega) (by have := HPA.out.2.1; have := HQ.out.2.2.2.2.2.2.2.2.1; omega) hlim6 HG.out.2.1 W6 hs6 (limbs_mono (limbs_of_sub hsb6 HQ.out.2.2.2.2.2.2.2.2.1 HQ.out.2.2.2.2.1) (fun k hk => by have := HQ.out.2.2.2.2.2.1; omega))
                have hg1 : 1 ≤ g - 1 := by
                  have := gave_pos hP hn6 (by omega) hv6 (lv_nonneg (B := 1000000000) (by decide) HPA.out.2.2.2.1) HVP.out
                  exact this
                have hgl := HGG.out.1.2
                have HGV := Lib.hid hgive
                have H6 := Lib.hid (And.intro hsb6 (And.intro hbq6 (And.intro hbl6 (And.intro hl6 (And.intro hlim6 (And.intro hP (And.intro hn6 (And.intro (show 0 < q by omega) hv6))))))))
                clear hs6 ho6 hl6 hlim6 hq6 hv6 hbq6 hsb6 hbl6 hP hn6 hq0' hbb hgive
                go_wp2_with fail
                refine HGV.out.mono ?_
                rintro e W7 ⟨zs7, q7, u7, rfl, hs7, ho7, hl7, hlim7, hq7, hv7⟩
                have hbq7 : Blk W7 gq qs := (ho7.heap gq H6.out.2.1.lt (by have := HQ.out.2.2.2.2.2.1; have := HS.out.2.2.2.2; omega)).trans H6.out.2.1
                have hsb7 : Sub W7 gb [] pb bs := H6.out.1.heap (ho7.heap gb H6.out.1.lt (by have := HQ.out.2.2.2.2.2.1; omega))
                have hbl7 : Below w.heap.size w W7 := below_others H6.out.2.2.1 ho7 HQ.out.2.2.2.2.2.2.1
                have hP7 := lv_lt b9 hlim7
                rw [hl7, H6.out.2.2.2.1] at hP7
                rw [H6.out.2.2.2.1] at hv7
                have hga7 := gave_ok (U := lv 1000000000 part) (V := lv 1000000000 bs) (g := g - 1) (P := 1000000000 ^ part.length) (q := q) (c := q7) (z := lv 1000000000 ps) hlim7 hP7 ⟨H6.out.2.2.2.2.2.2.1, H6.out.2.2.2.2.2.1⟩ H6.out.2.2.2.2.2.2.2.1 H6.out.2.2.2.2.2.2.2.2 hq7 hv7
                  (by have h := lv_lt b9 HG.out.2.1; have := pow_le_pow b9 (a := bs.length) (b := part.length) (by have := HPA.out.2.1; have := HQ.out.2.2.2.2.2.2.2.2.1; omega); omega) HGG.out.2.2 (lv_nonneg (B := 1000000000) (by decide) HPA.out.2.2.2.1) HVP.out
                have hL7 := HLo.out.step HPA.out.1 HPA.out.2.2.1 hga7.1 (hl7.trans H6.out.2.2.2.1) hlim7 hga7.2.1 (by omega)
                obtain ⟨f1, f2⟩ := hbq7.get i (by have := HLo.out.kle; omega)
                have HL7 := Lib.hid hL7
                have H7 := Lib.hid (And.intro hs7 (And.intro hsb7 (And.intro hbq7 hbl7)))
                clear hs7 ho7 hl7 hlim7 hq7 hv7 hbq7 hsb7 hbl7 hP7 hga7 hL7
                go_wp2_with fail
                refine ⟨⟨i, _, _, _, rfl, Lib.hid rfl, HL7, Lib.hid ⟨?_, ?_, ?_, ?_⟩⟩, by simp [intOf]⟩
                · exact Sub.part.2 (H7.out.1.heap (Below.heap_setCell _ _ _ _ (by have := HQ.out.2.2.2.2.2.1; have := HS.out.2.2.2.2; show ga ≠ gq; omega)))
                · exact H7.out.2.1.heap (Below.heap_setCell _ _ _ _ (by have := HS.out.2.2.2.2; show gb ≠ gq; omega))
                · exact H7.out.2.2.1.set i _
                · exact H7.out.2.2.2.setCell (p := ⟨gq, i, none⟩) (by have := HQ.out.2.2.2.2.2.1; have := HQ.out.2.2.2.2.2.2.1; have := HS.out.2.2.2.2; show _ ≤ gq; omega) _
            · have hg9' : g < 1000000000 := by omega
              go_wp2_with fail
              refine (greater_int g v2 l u2 ⟨g1, by omega⟩ ⟨v2a, by omega⟩ ⟨l1, by omega⟩ ⟨u2a, u2b⟩ W5).mono ?_
              rintro e W ⟨rfl, rfl⟩
              obtain ⟨bb, hbb⟩ : ∃ bb, decide (l * 1000000000 + u2 < g * v2) = bb := ⟨_, rfl⟩
              rw [hbb]
              obtain rfl : bb = true := hbb.symm.trans (by simp; rcases HC.out with h | h; omega; exact h)
              clear hbb
              go_wp2_with fail
              refine (take_calls ga i _ _ _ _ _ (g - 1) part bs HPA.out.2.2.2.2.2.2.1 (by have := HPA.out.2.1; omega) (by have := HPA.out.2.1; omega) (by have := HPA.out.2.1; have := HQ.out.2.2.2.2.2.2.2.2.1; omega) HGG.out.1 HPA.out.2.2.2.1 HG.out.2.1 W5 HW5.out.1 (limbs_mono (limbs_of_sub HW5.out.2.1 HQ.out.2.2.2.2.2.2.2.2.1 HQ.out.2.2.2.2.1) (fun k hk => by have := HQ.out.2.2.2.2.2.1; omega))).mono ?_
              rintro e W6 ⟨ps, q, rfl, hs6, ho6, hl6, hlim6, hq6, hv6⟩
              have hbq6 : Blk W6 gq qs := (ho6.heap gq HW5.out.2.2.1.lt (by have := HQ.out.2.2.2.2.2.1; have := HS.out.2.2.2.2; omega)).trans HW5.out.2.2.1
              have hsb6 : Sub W6 gb [] pb bs := HW5.out.2.1.heap (ho6.heap gb HW5.out.2.1.lt (by have := HQ.out.2.2.2.2.2.1; omega))
              have hbl6 : Below w.heap.size w W6 := below_others HW5.out.2.2.2 ho6 HQ.out.2.2.2.2.2.2.1
              have hP := lv_lt b9 hlim6
              rw [hl6] at hP
              have hn6 := lv_nonneg (B := 1000000000) (by decide) hlim6
              by_cases hq0' : q = 0
              · have d6 := Lib.hid (show decide (q = 0) = true by simp [hq0'])
                obtain ⟨bb, hbb⟩ : ∃ bb, decide (q = 0) = bb := ⟨_, rfl⟩
                rw [hbb]
                obtain rfl : bb = true := hbb.symm.trans d6.out
                have hzv : lv 1000000000 ps = lv 1000000000 part - (g - 1) * lv 1000000000 bs := by rw [hv6, hq0']; simp
                have hto := took_ok hlim6 hzv HGG.out.2.1
                have hL6 := HLo.out.step HPA.out.1 HPA.out.2.2.1 hzv hl6 hlim6 hto.1 HGG.out.1
                obtain ⟨f1, f2⟩ := hbq6.get i (by have := HLo.out.kle; omega)
                have HL6 := Lib.hid hL6
                have H6 := Lib.hid (And.intro hs6 (And.intro hsb6 (And.intro hbq6 hbl6)))
                clear hs6 ho6 hl6 hlim6 hq6 hv6 hbq6 hsb6 hbl6 hP hn6 hq0' hzv hto hL6 hbb
                go_wp2_with fail
                refine ⟨⟨i, _, _, _, rfl, Lib.hid rfl, HL6, Lib.hid ⟨?_, ?_, ?_, ?_⟩⟩, by simp [intOf]⟩
                · exact Sub.part.2 (H6.out.1.heap (Below.heap_setCell _ _ _ _ (by have := HQ.out.2.2.2.2.2.1; have := HS.out.2.2.2.2; show ga ≠ gq; omega)))
                · exact H6.out.2.1.heap (Below.heap_setCell _ _ _ _ (by have := HS.out.2.2.2.2; show gb ≠ gq; omega))
                · exact H6.out.2.2.1.set i _
                · exact H6.out.2.2.2.setCell (p := ⟨gq, i, none⟩) (by have := HQ.out.2.2.2.2.2.1; have := HQ.out.2.2.2.2.2.2.1; have := HS.out.2.2.2.2; show _ ≤ gq; omega) _
              · have d6 := Lib.hid (show decide (q = 0) = false by simp [hq0'])
                obtain ⟨bb, hbb⟩ : ∃ bb, decide (q = 0) = bb := ⟨_, rfl⟩
                rw [hbb]
                obtain rfl : bb = false := hbb.symm.trans d6.out
                have hgive := give_calls ga i (i + lb + 1 - i) (ca - i) _ _ (.slice (some ⟨gb, 0, none⟩) lb cb) ps bs HPA.out.2.2.2.2.2.2.1 (by have := HPA.out.2.1; omega) (by have := HPA.out.2.1; omega) (by have := HPA.out.2.1; have := HQ.out.2.2.2.2.2.2.2.2.1; omega) hlim6 HG.out.2.1 W6 hs6 (limbs_mono (limbs_of_sub hsb6 HQ.out.2.2.2.2.2.2.2.2.1 HQ.out.2.2.2.2.1) (fun k hk => by have := HQ.out.2.2.2.2.2.1; omega))
                have hg1 : 1 ≤ g - 1 := by
                  have := gave_pos hP hn6 (by omega) hv6 (lv_nonneg (B := 1000000000) (by decide) HPA.out.2.2.2.1) HVP.out
                  exact this
                have hgl := HGG.out.1.2
                have HGV := Lib.hid hgive
                have H6 := Lib.hid (And.intro hsb6 (And.intro hbq6 (And.intro hbl6 (And.intro hl6 (And.intro hlim6 (And.intro hP (And.intro hn6 (And.intro (show 0 < q by omega) hv6))))))))
                clear hs6 ho6 hl6 hlim6 hq6 hv6 hbq6 hsb6 hbl6 hP hn6 hq0' hbb hgive
                go_wp2_with fail
                refine HGV.out.mono ?_
                rintro e W7 ⟨zs7, q7, u7, rfl, hs7, ho7, hl7, hlim7, hq7, hv7⟩
                have hbq7 : Blk W7 gq qs := (ho7.heap gq H6.out.2.1.lt (by have := HQ.out.2.2.2.2.2.1; have := HS.out.2.2.2.2; omega)).trans H6.out.2.1
                have hsb7 : Sub W7 gb [] pb bs := H6.out.1.heap (ho7.heap gb H6.out.1.lt (by have := HQ.out.2.2.2.2.2.1; omega))
                have hbl7 : Below w.heap.size w W7 := below_others H6.out.2.2.1 ho7 HQ.out.2.2.2.2.2.2.1
                have hP7 := lv_lt b9 hlim7
                rw [hl7, H6.out.2.2.2.1] at hP7
                rw [H6.out.2.2.2.1] at hv7
                have hga7 := gave_ok (U := lv 1000000000 part) (V := lv 1000000000 bs) (g := g - 1) (P := 1000000000 ^ part.length) (q := q) (c := q7) (z := lv 1000000000 ps) hlim7 hP7 ⟨H6.out.2.2.2.2.2.2.1, H6.out.2.2.2.2.2.1⟩ H6.out.2.2.2.2.2.2.2.1 H6.out.2.2.2.2.2.2.2.2 hq7 hv7
                  (by have h := lv_lt b9 HG.out.2.1; have := pow_le_pow b9 (a := bs.length) (b := part.length) (by have := HPA.out.2.1; have := HQ.out.2.2.2.2.2.2.2.2.1; omega); omega) HGG.out.2.2 (lv_nonneg (B := 1000000000) (by decide) HPA.out.2.2.2.1) HVP.out
                have hL7 := HLo.out.step HPA.out.1 HPA.out.2.2.1 hga7.1 (hl7.trans H6.out.2.2.2.1) hlim7 hga7.2.1 (by omega)
                obtain ⟨f1, f2⟩ := hbq7.get i (by have := HLo.out.kle; omega)
                have HL7 := Lib.hid hL7
                have H7 := Lib.hid (And.intro hs7 (And.intro hsb7 (And.intro hbq7 hbl7)))
                clear hs7 ho7 hl7 hlim7 hq7 hv7 hbq7 hsb7 hbl7 hP7 hga7 hL7
                go_wp2_with fail
                refine ⟨⟨i, _, _, _, rfl, Lib.hid rfl, HL7, Lib.hid ⟨?_, ?_, ?_, ?_⟩⟩, by simp [intOf]⟩
                · exact Sub.part.2 (H7.out.1.heap (Below.heap_setCell _ _ _ _ (by have := HQ.out.2.2.2.2.2.1; have := HS.out.2.2.2.2; show ga ≠ gq; omega)))
                · exact H7.out.2.1.heap (Below.heap_setCell _ _ _ _ (by have := HS.out.2.2.2.2; show gb ≠ gq; omega))
                · exact H7.out.2.2.1.set i _
                · exact H7.out.2.2.2.setCell (p := ⟨gq, i, none⟩) (by have := HQ.out.2.2.2.2.2.1; have := HQ.out.2.2.2.2.2.2.1; have := HS.out.2.2.2.2; show _ ≤ gq; omega) _
          · by_cases hg9 : 1000000000 ≤ g
            · go_wp2_with fail
              exact ⟨⟨g - 1, l + v1, rfl, rfl, hnn, by omega, by omega, by omega, HDN⟩, by simp [intOf]; omega⟩
            · have hg9' : g < 1000000000 := by omega
              go_wp2_with fail
              refine (greater_int g v2 l u2 ⟨g1, by omega⟩ ⟨v2a, by omega⟩ ⟨l1, by omega⟩ ⟨u2a, u2b⟩ W5).mono ?_
              rintro e W ⟨rfl, rfl⟩
              obtain ⟨bb, hbb⟩ : ∃ bb, decide (l * 1000000000 + u2 < g * v2) = bb := ⟨_, rfl⟩
              rw [hbb]
              obtain rfl : bb = true := hbb.symm.trans (by simp; rcases HC.out with h | h; omega; exact h)
              clear hbb
              go_wp2_with fail
              exact ⟨⟨g - 1, l + v1, rfl, rfl, hnn, by omega, by omega, by omega, HDN⟩, by simp [intOf]; omega⟩
        · have hg9' : g < 1000000000 := by omega
          have HDO := Lib.hid (HGu.out.done HHE.out hg9' (by omega))
          have HGG := Lib.hid (show (0 ≤ g ∧ g < 1000000000) ∧ lv 1000000000 part < (g + 1) * lv 1000000000 bs ∧ (g - 1) * lv 1000000000 bs < lv 1000000000 part + 1 from ⟨⟨g1, hg9'⟩, HDO.out⟩)
          have hnb := Lib.hid (show decide (l * 1000000000 + u2 < g * v2) = false by simp; omega)
          clear hc
          go_wp2_with fail
          refine (greater_int g v2 l u2 ⟨g1, by omega⟩ ⟨v2a, by omega⟩ ⟨l1, by omega⟩ ⟨u2a, u2b⟩ W5).mono ?_
          rintro e W ⟨rfl, rfl⟩
          rw [hnb.out]
          go_wp2_with fail
          refine (take_calls ga i _ _ _ _ _ g part bs HPA.out.2.2.2.2.2.2.1 (by have := HPA.out.2.1; omega) (by have := HPA.out.2.1; omega) (by have := HPA.out.2.1; have := HQ.out.2.2.2.2.2.2.2.2.1; omega) HGG.out.1 HPA.out.2.2.2.1 HG.out.2.1 W5 HW5.out.1 (limbs_mono (limbs_of_sub HW5.out.2.1 HQ.out.2.2.2.2.2.2.2.2.1 HQ.out.2.2.2.2.1) (fun k hk => by have := HQ.out.2.2.2.2.2.1; omega))).mono ?_
          rintro e W6 ⟨ps, q, rfl, hs6, ho6, hl6, hlim6, hq6, hv6⟩
          have hbq6 : Blk W6 gq qs := (ho6.heap gq HW5.out.2.2.1.lt (by have := HQ.out.2.2.2.2.2.1; have := HS.out.2.2.2.2; omega)).trans HW5.out.2.2.1
          have hsb6 : Sub W6 gb [] pb bs := HW5.out.2.1.heap (ho6.heap gb HW5.out.2.1.lt (by have := HQ.out.2.2.2.2.2.1; omega))
          have hbl6 : Below w.heap.size w W6 := below_others HW5.out.2.2.2 ho6 HQ.out.2.2.2.2.2.2.1
          have hP := lv_lt b9 hlim6
          rw [hl6] at hP
          have hn6 := lv_nonneg (B := 1000000000) (by decide) hlim6
          by_cases hq0' : q = 0
          · have d6 := Lib.hid (show decide (q = 0) = true by simp [hq0'])
            obtain ⟨bb, hbb⟩ : ∃ bb, decide (q = 0) = bb := ⟨_, rfl⟩
            rw [hbb]
            obtain rfl : bb = true := hbb.symm.trans d6.out
            have hzv : lv 1000000000 ps = lv 1000000000 part - g * lv 1000000000 bs := by rw [hv6, hq0']; simp
            have hto := took_ok hlim6 hzv HGG.out.2.1
            have hL6 := HLo.out.step HPA.out.1 HPA.out.2.2.1 hzv hl6 hlim6 hto.1 HGG.out.1
            obtain ⟨f1, f2⟩ := hbq6.get i (by have := HLo.out.kle; omega)
            have HL6 := Lib.hid hL6
            have H6 := Lib.hid (And.intro hs6 (And.intro hsb6 (And.intro hbq6 hbl6)))
            clear hs6 ho6 hl6 hlim6 hq6 hv6 hbq6 hsb6 hbl6 hP hn6 hq0' hzv hto hL6 hbb
            go_wp2_with fail
            refine ⟨⟨i, _, _, _, rfl, Lib.hid rfl, HL6, Lib.hid ⟨?_, ?_, ?_, ?_⟩⟩, by simp [intOf]⟩
            · exact Sub.part.2 (H6.out.1.heap (Below.heap_setCell _ _ _ _ (by have := HQ.out.2.2.2.2.2.1; have := HS.out.2.2.2.2; show ga ≠ gq; omega)))
            · exact H6.out.2.1.heap (Below.heap_setCell _ _ _ _ (by have := HS.out.2.2.2.2; show gb ≠ gq; omega))
            · exact H6.out.2.2.1.set i _
            · exact H6.out.2.2.2.setCell (p := ⟨gq, i, none⟩) (by have := HQ.out.2.2.2.2.2.1; have := HQ.out.2.2.2.2.2.2.1; have := HS.out.2.2.2.2; show _ ≤ gq; omega) _
          · have d6 := Lib.hid (show decide (q = 0) = false by simp [hq0'])
            obtain ⟨bb, hbb⟩ : ∃ bb, decide (q = 0) = bb := ⟨_, rfl⟩
            rw [hbb]
            obtain rfl : bb = false := hbb.symm.trans d6.out
            have hgive := give_calls ga i (i + lb + 1 - i) (ca - i) _ _ (.slice (some ⟨gb, 0, none⟩) lb cb) ps bs HPA.out.2.2.2.2.2.2.1 (by have := HPA.out.2.1; omega) (by have := HPA.out.2.1; omega) (by have := HPA.out.2.1; have := HQ.out.2.2.2.2.2.2.2.2.1; omega) hlim6 HG.out.2.1 W6 hs6 (limbs_mono (limbs_of_sub hsb6 HQ.out.2.2.2.2.2.2.2.2.1 HQ.out.2.2.2.2.1) (fun k hk => by have := HQ.out.2.2.2.2.2.1; omega))
            have hg1 : 1 ≤ g := by
              have := gave_pos hP hn6 (by omega) hv6 (lv_nonneg (B := 1000000000) (by decide) HPA.out.2.2.2.1) HVP.out
              exact this
            have hgl := HGG.out.1.2
            have HGV := Lib.hid hgive
            have H6 := Lib.hid (And.intro hsb6 (And.intro hbq6 (And.intro hbl6 (And.intro hl6 (And.intro hlim6 (And.intro hP (And.intro hn6 (And.intro (show 0 < q by omega) hv6))))))))
            clear hs6 ho6 hl6 hlim6 hq6 hv6 hbq6 hsb6 hbl6 hP hn6 hq0' hbb hgive
            go_wp2_with fail
            refine HGV.out.mono ?_
            rintro e W7 ⟨zs7, q7, u7, rfl, hs7, ho7, hl7, hlim7, hq7, hv7⟩
            have hbq7 : Blk W7 gq qs := (ho7.heap gq H6.out.2.1.lt (by have := HQ.out.2.2.2.2.2.1; have := HS.out.2.2.2.2; omega)).trans H6.out.2.1
            have hsb7 : Sub W7 gb [] pb bs := H6.out.1.heap (ho7.heap gb H6.out.1.lt (by have := HQ.out.2.2.2.2.2.1; omega))
            have hbl7 : Below w.heap.size w W7 := below_others H6.out.2.2.1 ho7 HQ.out.2.2.2.2.2.2.1
            have hP7 := lv_lt b9 hlim7
            rw [hl7, H6.out.2.2.2.1] at hP7
            rw [H6.out.2.2.2.1] at hv7
            have hga7 := gave_ok (U := lv 1000000000 part) (V := lv 1000000000 bs) (g := g) (P := 1000000000 ^ part.length) (q := q) (c := q7) (z := lv 1000000000 ps) hlim7 hP7 ⟨H6.out.2.2.2.2.2.2.1, H6.out.2.2.2.2.2.1⟩ H6.out.2.2.2.2.2.2.2.1 H6.out.2.2.2.2.2.2.2.2 hq7 hv7
              (by have h := lv_lt b9 HG.out.2.1; have := pow_le_pow b9 (a := bs.length) (b := part.length) (by have := HPA.out.2.1; have := HQ.out.2.2.2.2.2.2.2.2.1; omega); omega) HGG.out.2.2 (lv_nonneg (B := 1000000000) (by decide) HPA.out.2.2.2.1) HVP.out
            have hL7 := HLo.out.step HPA.out.1 HPA.out.2.2.1 hga7.1 (hl7.trans H6.out.2.2.2.1) hlim7 hga7.2.1 (by omega)
            obtain ⟨f1, f2⟩ := hbq7.get i (by have := HLo.out.kle; omega)
            have HL7 := Lib.hid hL7
            have H7 := Lib.hid (And.intro hs7 (And.intro hsb7 (And.intro hbq7 hbl7)))
            clear hs7 ho7 hl7 hlim7 hq7 hv7 hbq7 hsb7 hbl7 hP7 hga7 hL7
            go_wp2_with fail
            refine ⟨⟨i, _, _, _, rfl, Lib.hid rfl, HL7, Lib.hid ⟨?_, ?_, ?_, ?_⟩⟩, by simp [intOf]⟩
            · exact Sub.part.2 (H7.out.1.heap (Below.heap_setCell _ _ _ _ (by have := HQ.out.2.2.2.2.2.1; have := HS.out.2.2.2.2; show ga ≠ gq; omega)))
            · exact H7.out.2.1.heap (Below.heap_setCell _ _ _ _ (by have := HS.out.2.2.2.2; show gb ≠ gq; omega))
            · exact H7.out.2.2.1.set i _
            · exact H7.out.2.2.2.setCell (p := ⟨gq, i, none⟩) (by have := HQ.out.2.2.2.2.2.1; have := HQ.out.2.2.2.2.2.2.1; have := HS.out.2.2.2.2; show _ ≤ gq; omega) _

/-- over: quotient and rest. -/
theorem over_calls (u v : Value) (a b : Nat) (w : World) (ha : Num w u a) (hb : Num w v b) (h0 : b ≠ 0) (hA : Fits 1000 a) (hB : Fits 1000 b) :
    Calls Tryz.prog 113 #[u, v] w fun e W => ∃ q r, e = .returned (.tuple #[q, r]) ∧ (Num W q (a / b) ∧ Num W r (a % b)) ∧ Below w.heap.size w W := by
  by_cases hlt : a < b
  · exact over_less u v a b w ha hb hlt hA.out hB.out
  · obtain ⟨ys, k1, k2, k3, k4⟩ := hb.ex
    obtain ⟨B, d, rfl⟩ := Kd.V_slice k1
    have hp : 0 < ys.length := by
      apply Classical.byContradiction
      intro hn
      have : ys = [] := List.length_eq_zero_iff.1 (by omega)
      subst this
      simp [lv] at k4; omega
    by_cases h1 : ys.length = 1
    · obtain ⟨y, rfl⟩ := List.length_eq_one_iff.1 h1
      have hy : 0 < y ∧ y < 1000000000 := by
        have h2 := k2 y (by simp)
        have h3 := k3 y rfl
        omega
      have e : y = b := by simpa [lv] using k4
      have e2 : y.toNat = b := by omega
      have := over_one u B d y a w ha hy k1 (by omega) hA.out
      rw [e2] at this
      exact this
    · obtain ⟨m, hm⟩ : ∃ m, ys.length = m + 2 := ⟨ys.length - 2, by omega⟩
      exact over_long u B d ys a b ys.length (m + 1) m hm rfl w ha k1 rfl k2 k3 k4 (by omega) hA.out
end Go.Proofs.CW
namespace Go.Proofs.CW
open Go.RowKit Go.Shelf Go.Proofs.YtjfclkbdkafkcaaGreatDoorW.PrintWords Go.Proofs.YtjfclkbdkafkcaaGreatDoor.PF
attribute [local go_sem] Oper.semAt_some

/-- A number's slice: how long, and that it is empty just for 0. -/
theorem num_slice {W : World} {v : Value} {n : Nat} (h : Num W v n) (hf : Fits 1000 n) : ∃ A L c, v = .slice A L c ∧ L ≤ 1000 ∧ (L = 0 ↔ n = 0) := by
  obtain ⟨xs, h1, h2, h3, h4⟩ := h.ex
  obtain ⟨A, c, rfl⟩ := Kd.V_slice h1
  refine ⟨A, xs.length, c, rfl, length_le_of_lt b9 h2 h3 (by rw [h4]; exact hf.out), ?_⟩
  rw [List.length_eq_zero_iff, ← lv_eq_zero b9 h2 h3, h4]; omega
set_option maxRecDepth 100000 in
set_option maxHeartbeats 400000 in
theorem gcd_calls (u v : Value) (a b : Nat) (w : World) (ha : Num w u a) (hb : Num w v b) (hA : Fits 1000 a) (hB : Fits 1000 b) :
    Calls Tryz.prog 87 #[u, v] w fun e W => ∃ r, e = .returned r ∧ Num W r (Nat.gcd a b) ∧ Below w.heap.size w W := by
  have HA := Lib.hid (And.intro ha (And.intro hb (And.intro hA hB)))
  clear ha hb hA hB
  go_enter Tryz.func87, Tryz.ntmps87
  go_wp2_with fail
  go_loopg [0, 1] b (fun k s0 s1 wr => ∃ x : Nat, Hid (Num wr s0 x ∧ Num wr s1 k ∧ Fits 1000 x ∧ Fits 1000 k ∧ Nat.gcd x k = Nat.gcd a b ∧ Below w.heap.size w wr))
  case atStart => exact ⟨a, Lib.hid ⟨HA.out.1, HA.out.2.1, HA.out.2.2.1, HA.out.2.2.2, rfl, Below.refl _ _⟩⟩
  case round =>
    obtain ⟨x, HI⟩ := hrel
    obtain ⟨A, L, c, rfl, hl, h0⟩ := num_slice HI.out.2.1 HI.out.2.2.2.1
    by_cases hk : gk = 0
    · have HK := Lib.hid hk
      obtain rfl : L = 0 := h0.2 hk
      clear hk h0
      go_wp2_with fail
      go_ret
      refine ⟨_, rfl, ?_, HI.out.2.2.2.2.2⟩
      have h := HI.out.2.2.2.2.1
      rw [HK.out, Nat.gcd_zero_right] at h
      rw [← h]; exact HI.out.1
    · have c1 : (0 : Int) < (L : Int) := by
        have : L ≠ 0 := fun e => hk (h0.1 e)
        omega
      have HK := Lib.hid hk
      clear hk h0
      go_wp2_with fail
      refine (over_calls _ _ x gk _ HI.out.1 HI.out.2.1 HK.out HI.out.2.2.1 HI.out.2.2.2.1).mono ?_
      rintro e W ⟨q, r, rfl, ⟨hq, hr⟩, hb⟩
      have HR := Lib.hid (And.intro hr hb)
      clear hq hr hb
      go_wp2_with fail
      go_roundg (x % gk)
      case measure => exact Nat.mod_lt _ (Nat.pos_of_ne_zero HK.out)
      case rel =>
        refine ⟨gk, Lib.hid ⟨HI.out.2.1.below HR.out.2, HR.out.1, HI.out.2.2.2.1, HI.out.2.2.2.1.le (Nat.le_of_lt (Nat.mod_lt _ (Nat.pos_of_ne_zero HK.out))), ?_, HI.out.2.2.2.2.2.trans (HR.out.2.mono HI.out.2.2.2.2.2.size)⟩⟩
        rw [← HI.out.2.2.2.2.1, Nat.gcd_comm x gk, Nat.gcd_rec gk x, Nat.gcd_comm]
end Go.Proofs.CW
namespace Go.Proofs.CW
open Go.RowKit Go.Shelf Go.Sort Go.Lib Go.Proofs.YtjfclkbdkafkcaaGreatDoorW.PrintWords Go.Proofs.YtjfclkbdkafkcaaGreatDoor.PF
attribute [local go_sem] Oper.semAt_some

/-- strconv's table of powers is laid. -/
def Tab (W : World) : Prop := Lib.TabIs Tryz.prog W "internal/strconv.uint64pow10" .u64 Lib.pow10Tab
theorem Tab.below {w W : World} (h : Tab w) (hb : Below w.heap.size w W) : Tab W := Joins.tab_stays (g := 4) (by kernel_rfl) h hb (Nat.le_refl _)
theorem below_of_grow {w : World} (k : Nat) (os : Array Obj) : Below w.heap.size w (grow (w.drewN k) os) := Lib.below_grow _ w (Nat.le_refl _) k os
theorem holds_zero0 (w : World) (T : TypeId) (nd : Nat) (hs : nd ≤ 24) : Holds (fun (b : UInt8) => Value.int .u8 (b.toNat : Int)) (w.alloc (.cells zeros24 T)) w.heap.size 0 (Array.replicate nd (0 : UInt8)) := fun j hj => by
  have hj' : j < nd := by simpa using hj
  refine ⟨?_, World.frozen?_alloc_new _ _ _ _⟩
  rw [World.cell?_alloc_new, zeros24_at _ (by omega), getElem!_pos _ j hj]
  simp
theorem fin_pos0 (w : World) (o : Obj) (dk : Array UInt8) (k : Nat) : ∃ os, (putRow (fun (b : UInt8) => Value.int .u8 (b.toNat : Int)) (w.alloc o) w.heap.size 0 dk).drewN k = grow (w.drewN k) os := by
  rw [alloc_eq_grow]
  obtain ⟨os', _, e⟩ := putRow_grow_new (fun (b : UInt8) => Value.int .u8 (b.toNat : Int)) w #[o] w.heap.size 0 dk (Nat.le_refl _)
  exact ⟨os', by rw [e]; rfl⟩
set_option maxRecDepth 100000 in
set_option maxHeartbeats 1000000 in
theorem fmtu_in (u : Nat) (hu : u < 18446744073709551616) (w : World) (ht : Tab w) :
    Calls Tryz.prog 174 #[.int .u64 u, .int .i64 10] w fun e w' => e = .returned (.string (nstr u)) ∧ Below w.heap.size w w' := by
  have HT := Lib.hid ht
  clear ht
  by_cases hs : u < 100
  · have c1 : (u : Int) < 100 := by omega
    go_enter Tryz.func174, Tryz.ntmps174
    go_wp2_with fail
    refine (Tryz.internal_strconv_small u hs _).mono ?_
    rintro e w' ⟨rfl, rfl⟩
    go_wp2_with fail
    go_ret
    exact ⟨rfl, Below.refl _ _⟩
  · have hu1 : 1 ≤ u := by omega
    have c1 : ¬ (u : Int) < 100 := by omega
    have hnd20 : Lib.nDigits u ≤ 20 := by have := Lib.numDigits_eq u hu1 hu; split at this <;> omega
    obtain ⟨nd, hnd⟩ : ∃ nd, Lib.nDigits u = nd := ⟨_, rfl⟩
    have hal : Tryz.prog.arrayLen 207 = 24 := by kernel_rfl
    have hsl1 : ∀ W, (Instr.sliceAt 207 (.pointer (some ⟨w.heap.size, 0, none⟩)) none (some (.int .i64 (nd : Int))) none).run Tryz.prog W = .ok (.slice (some ⟨w.heap.size, 0, none⟩) nd 24) W := fun W => by
      rw [run_sliceAt_array_h W 207 ⟨w.heap.size, 0, none⟩ (by kernel_rfl) .i64 (nd : Int) (by omega) (by rw [hal]; omega)]
      go_simp
    have hH0 := holds_zero0 w 207 nd (by omega)
    have hfmt := Tryz.internal_strconv_formatBase10 w.heap.size 0 24 u (Array.replicate nd 0) (w.alloc (.cells Lib.zeros24 207)) hH0 (by rw [Array.size_replicate, ← hnd]; exact Lib.lt_pow_nDigits u) hu (by rw [Array.size_replicate]; omega)
    rw [Array.size_replicate] at hfmt
    have HH0 := Lib.hid hH0
    have HF := Lib.hid hfmt
    have HN := Lib.hid hnd
    have HD := fun W h => Lib.hid (Tryz.internal_strconv_numDigits u hu1 hu W h)
    have HD2 := Lib.hid HD
    clear hH0 hal hfmt hnd HD
    go_enter Tryz.func174, Tryz.ntmps174
    go_wp2_with fail
    refine ((HD2.out _ (Lib.tabIs_alloc HT.out _)).out).mono ?_
    rintro e w' ⟨rfl, rfl⟩
    rw [HN.out]
    go_wp2_with fail
    refine HF.out.mono ?_
    rintro e w' ⟨rfl, k, v', dk, rfl, hF⟩
    have hcv : (convert 161 9 (.slice (some ⟨w.heap.size, 0, none⟩) nd 24)).run Tryz.prog ((putRow (fun (b : UInt8) => Value.int .u8 (b.toNat : Int)) (w.alloc (.cells Lib.zeros24 207)) w.heap.size 0 dk).drewN k) = .ok (.string (nstr u)) ((putRow (fun (b : UInt8) => Value.int .u8 (b.toNat : Int)) (w.alloc (.cells Lib.zeros24 207)) w.heap.size 0 dk).drewN k) := by
      rw [← HN.out] at hF HH0 ⊢
      have h := run_convert_bytes_back (P := Tryz.prog) ((putRow (fun (b : UInt8) => Value.int .u8 (b.toNat : Int)) (w.alloc (.cells Lib.zeros24 207)) w.heap.size 0 dk).drewN k) 161 9 5 ⟨w.heap.size, 0, none⟩ 24 (Lib.decDigits u) Tryz.underlying161 Tryz.underlying5 Tryz.underlying9 (fun j hj => by
        rw [Lib.row_is_numeral hF j hj, Lib.add_plain, World.cell?_drewN]
        exact cell?_putRow (fun (b : UInt8) => Value.int .u8 (b.toNat : Int)) _ w.heap.size 0 _ dk HH0.out (by rw [hF.size, Array.size_replicate]) j (by rw [hF.size]; rw [Lib.decDigits_length] at hj; exact hj))
      rw [Lib.decDigits_length] at h
      exact h
    have HFF := Lib.hid hF
    clear hF
    go_wp2
    go_ret
    obtain ⟨os, eo⟩ := fin_pos0 w (.cells Lib.zeros24 207) dk k
    refine ⟨rfl, ?_⟩
    have := below_of_grow (w := w) k os
    rw [← eo] at this
    exact this
set_option maxRecDepth 100000 in
theorem fmtu_calls (u : Nat) (hu : u < 18446744073709551616) (w : World) (ht : Tab w) :
    Calls Tryz.prog 145 #[.int .u64 u, .int .i64 10] w fun e w' => e = .returned (.string (nstr u)) ∧ Below w.heap.size w w' := by
  have H := Lib.hid (fmtu_in u hu w ht)
  clear ht
  go_enter Tryz.func145, Tryz.ntmps145
  go_wp2_with fail
  refine H.out.mono ?_
  rintro e w' ⟨rfl, hb⟩
  have HB := Lib.hid hb
  clear hb
  go_wp2_with fail
  go_ret
  exact ⟨rfl, HB.out⟩
end Go.Proofs.CW
