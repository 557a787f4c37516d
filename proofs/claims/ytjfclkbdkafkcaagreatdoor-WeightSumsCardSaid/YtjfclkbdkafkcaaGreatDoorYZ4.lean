/-
  Part 4 of the proof: K30, K31, K32, K33, K34, RG, K35, K36, K37, K38, K39, K40, K26a, Al, K41, K42, K43, LawA, LawB.
-/
import Derived.Test.YtjfclkbdkafkcaaGreatDoorYZ3
import Derived.Recover
import Derived.Defers
set_option linter.unusedVariables false
set_option linter.unusedSimpArgs false
namespace Go.Proofs.CW
open Go.RowKit Go.Shelf Go.Sort Go.Lib Go.Proofs.YtjfclkbdkafkcaaGreatDoorW.PrintWords Go.Proofs.YtjfclkbdkafkcaaGreatDoor.PF
attribute [local go_sem] Oper.semAt_some

theorem assert_hit (x : Int) (w : World) : (Instr.typeAssert (.iface 144 (.agg #[.int .i64 x])) 20 144 true).run Tryz.prog w = .ok (.tuple #[.agg #[.int .i64 x], .bool true]) w := by kernel_rfl
theorem assert_nil (w : World) : (Instr.typeAssert .nilIface 20 144 true).run Tryz.prog w = .ok (.tuple #[.agg #[.int .i64 0], .bool false]) w := by kernel_rfl
set_option maxRecDepth 100000 in
theorem catch_panicking (g : Nat) (y x : Int) (older : List PanicEntry) (w : World) (hg : w.heap[g]? = some (.cells #[.int .i64 y] 27 (0, 0))) :
    CallsD Tryz.prog 123 #[.pointer (some ⟨g, 0, none⟩)] (.panicking ({ v := .iface 144 (.agg #[.int .i64 x]), recovered := false } :: older)) w fun e u' w' =>
      e = .returned (.tuple #[]) ∧ u' = .panicking ({ v := .iface 144 (.agg #[.int .i64 x]), recovered := true } :: older) ∧ w' = (w.alloc (.cells #[.int .i64 x] 144)).setCell ⟨g, 0, none⟩ (.int .i64 x) := by
  refine callsD_of_wpS Tryz.func123 rfl fun c₀ cs hu => ?_
  apply wpS_seq
  apply wpS_region
  simp [wpOpsS, go_sem, recoverD, hu, Tryz.ntmps123, Exit.thenS]
  have hta := assert_hit x
  have hg2 := alloc_at (o' := .cells #[.int .i64 x] 144) hg
  have h0 : (w.alloc (.cells #[.int .i64 x] 144)).cell? ⟨g, 0, none⟩ = some (.int .i64 y) := blk_cell hg2 0
  have h1 : (w.alloc (.cells #[.int .i64 x] 144)).frozen? ⟨g, 0, none⟩ = false := blk_frozen hg2 0
  clear hg hg2
  refine wpS_of_wp ?_
  rw [show (#[Value.pointer (some ⟨g, 0, none⟩)] ++ ((Array.replicate 15 undef).setIfInBounds 3 (Value.iface 144 (Value.agg #[Value.int IntKind.i64 x]))).setIfInBounds 0 (Value.iface 144 (Value.agg #[Value.int IntKind.i64 x]))) = #[.pointer (some ⟨g, 0, none⟩), .iface 144 (.agg #[.int .i64 x]), undef, undef, .iface 144 (.agg #[.int .i64 x]), undef, undef, undef, undef, undef, undef, undef, undef, undef, undef, undef] from rfl]
  go_wp2_with fail
  exact ⟨rfl, _, rfl, _, results_none rfl _ _ _, rfl, rfl, rfl⟩
set_option maxRecDepth 100000 in
theorem catch_idle (g : Nat) (w : World) :
    CallsD Tryz.prog 123 #[.pointer (some ⟨g, 0, none⟩)] .returning w fun e u' w' => e = .returned (.tuple #[]) ∧ u' = .returning ∧ w' = w.alloc (.cells #[.int .i64 0] 144) := by
  refine callsD_of_wpS Tryz.func123 rfl fun c₀ cs hu => ?_
  apply wpS_seq
  apply wpS_region
  simp [wpOpsS, go_sem, recoverD, hu, Tryz.ntmps123, Exit.thenS]
  have hta := assert_nil
  have hnn : ∀ w : World, (binOp .neq 20 .nilIface .nilIface).run Tryz.prog w = .ok (.bool false) w := fun w => by kernel_rfl
  refine wpS_of_wp ?_
  rw [show (#[Value.pointer (some ⟨g, 0, none⟩)] ++ ((Array.replicate 15 undef).setIfInBounds 3 Value.nilIface).setIfInBounds 0 Value.nilIface) = #[.pointer (some ⟨g, 0, none⟩), .nilIface, undef, undef, .nilIface, undef, undef, undef, undef, undef, undef, undef, undef, undef, undef, undef] from rfl]
  go_wp2_with fail
  refine ⟨rfl, .returning, ?_, _, results_none rfl _ _ _, rfl, rfl, rfl⟩
  cases c₀
  simp at hu
  rw [hu]
theorem results_int {fn : Func} {t : Tmp} (hr : fn.results = #[.cell t 27]) (tmps : Array Value) {W : World} {g : Nat} {y : Int} (ht : tmps.getD t undef = .pointer (some ⟨g, 0, none⟩)) (h : W.heap[g]? = some (.cells #[.int .i64 y] 27 (0, 0))) :
    (results fn tmps).run Tryz.prog W = .ok (.int .i64 y) W := by
  have h0 : W.cell? ⟨g, 0, none⟩ = some (.int .i64 y) := blk_cell h 0
  have ht' : tmps[t]?.getD undef = .pointer (some ⟨g, 0, none⟩) := by simpa using ht
  simp [results, hr, go_sem, ht', h0]
theorem Others.alloc {g : Nat} {W W' : World} (h : Others g W W') (o : Obj) : Others g W (W'.alloc o) :=
  ⟨h.os, h.tape, h.output, by have := h.size; rw [World.size_alloc]; omega, fun k hk hne => (Below.heap_alloc W' o k (Nat.lt_of_lt_of_le hk h.size)).trans (h.heap k hk hne)⟩
theorem tried_calls (f : FuncId) (caps : Array Value) (w : World) (he : ∀ args w, (callFunc f args).run Tryz.prog w = .ok (.enter f args) w) (Rok : World → Prop) (Rerr : Int → World → Prop)
    (HD : Calls Tryz.prog f caps (w.alloc (.cells #[.int .i64 0] 27)) fun e W' => W'.heap[w.heap.size]? = some (.cells #[.int .i64 0] 27 (0, 0)) ∧ ((e = .returned (.tuple #[]) ∧ Rok W') ∨ ∃ x, e = thrown x ∧ Rerr x W')) :
    Calls Tryz.prog 73 #[.func (.func f) #[] caps] w fun e W => ∃ W' y, e = .returned (.int .i64 y) ∧ Others w.heap.size W' W ∧ ((y = 0 ∧ Rok W') ∨ Rerr y W') := by
  have hmf : ∀ (fn : Fn) (first cap : Array Value) (w : World), (Instr.makeFunc fn first cap).run Tryz.prog w = .ok (.func fn first cap) w := fun _ _ _ _ => rfl
  have H := Lib.hid HD
  clear HD
  obtain ⟨g, hgw⟩ : ∃ g, w.heap.size = g := ⟨_, rfl⟩
  rw [hgw] at H ⊢
  go_enter_defers Tryz.func73, Tryz.ntmps73
  go_wp2_with fail
  refine H.out.mono ?_
  rintro e W1 ⟨hg, (⟨rfl, hok⟩ | ⟨x, rfl, herr⟩)⟩
  · have h0 : W1.cell? ⟨g, 0, none⟩ = some (.int .i64 0) := blk_cell hg 0
    have h1 : W1.frozen? ⟨g, 0, none⟩ = false := blk_frozen hg 0
    have HG := Lib.hid (And.intro hg hok)
    clear hg hok
    go_wp2_with fail
    refine leaves_cons (f := 123) (args := #[.pointer (some ⟨g, 0, none⟩)]) (by simp) (by simp [go_sem]) ?_
    refine (catch_idle g _).mono ?_
    rintro e u' w' ⟨rfl, rfl, rfl⟩
    have h2 := alloc_at (o' := .cells #[.int .i64 0] 144) (blk_set HG.out.1 0 (.int .i64 0))
    exact ⟨_, results_int rfl _ rfl h2, W1, 0, rfl, ((Others.refl g W1).set 0 _).alloc _, .inl ⟨rfl, HG.out.2⟩⟩
  · have HG := Lib.hid (And.intro hg herr)
    clear hg herr
    go_wp2_with fail
    refine leaves_cons (f := 123) (args := #[.pointer (some ⟨g, 0, none⟩)]) (by simp) (by simp [go_sem]) ?_
    refine (catch_panicking g 0 x [] W1 HG.out.1).mono ?_
    rintro e u' w' ⟨rfl, rfl, rfl⟩
    have h2 := blk_set (alloc_at (o' := .cells #[.int .i64 x] 144) HG.out.1) 0 (.int .i64 x)
    exact ⟨_, results_int rfl _ rfl h2, W1, x, rfl, ((Others.refl g W1).alloc _).set 0 _, .inr HG.out.2⟩
end Go.Proofs.CW
namespace Go.Proofs.CW
open Go.RowKit Go.Shelf Go.Sort Go.Lib Go.Proofs.YtjfclkbdkafkcaaGreatDoorW.PrintWords Go.Proofs.YtjfclkbdkafkcaaGreatDoor.PF
attribute [local go_sem] Oper.semAt_some

set_option maxRecDepth 100000 in
set_option maxHeartbeats 400000 in
theorem sum_calls (A : Option Addr) (c : Nat) (l : List PS) (hsm : Smalls l) (hl : l.length ≤ 1000000) (w : World) (ht : Tab w) (hc : Kd.C kP w A l.length l) :
    Calls Tryz.prog 76 #[.slice A l.length c] w fun e W => e = outP (sumE l) ∧ Below w.heap.size w W := by
  have HF := Lib.hid (fun W (hb : Below w.heap.size w W) => fold1_calls A c l p0 (Small.of is_p0.ok) hsm hl W (ht.below hb) (Kd.C_below hc hb))
  have hb0 : Below w.heap.size w (w.alloc (.cells #[.string ⟨#[]⟩, .string ⟨#[]⟩] 24)) := (Below.refl _ w).alloc (Nat.le_refl _) _
  have h0 := PB.new w ⟨#[]⟩ ⟨#[]⟩
  obtain ⟨N, hN⟩ : ∃ N, w.heap.size = N := ⟨_, rfl⟩
  simp only [hN] at h0
  have HN := Lib.hid hN
  clear hc ht hsm
  go_enter Tryz.func76, Tryz.ntmps76
  go_wp2_with fail
  obtain ⟨W0, hW0⟩ : ∃ W0, (w.alloc (.cells #[.string ⟨#[]⟩, .string ⟨#[]⟩] 24)) = W0 := ⟨_, rfl⟩
  rw [hW0] at h0 hb0 ⊢
  have H0 := Lib.hid (And.intro h0 hb0)
  clear h0 hb0 hW0 hN
  refine (HF.out W0 H0.out.2).mono ?_
  rintro e W1 ⟨he, hb⟩
  have H1 := Lib.hid (And.intro (H0.out.1.below hb) (H0.out.2.trans (hb.mono H0.out.2.size)))
  obtain ⟨q1, q2, q3, q4⟩ := H1.out.1.cell
  have hn : w.heap.size ≤ N := by have := HN.out; omega
  clear hb
  cases hE : sumE l with
  | ok p =>
    obtain ⟨s, t⟩ := p
    have he2 : e = .returned (.agg #[.string s, .string t]) := by rw [he]; show outP (sumE l) = _; rw [hE]; rfl
    subst he2
    have HE := Lib.hid hE
    clear hE he
    go_wp2_with fail
    refine bodyPost_ret (results_p rfl _ rfl (H1.out.1.set _ _)) rfl ⟨by rw [HE.out]; rfl, ?_⟩
    exact (H1.out.2.setCell (p := ⟨N, 0, none⟩) hn _).setCell (p := ⟨N, 1, none⟩) hn _
  | error x =>
    have he2 : e = thrown x := by rw [he]; show outP (sumE l) = _; rw [hE]; rfl
    subst he2
    have HE := Lib.hid hE
    clear hE he
    go_wp2_with fail
    exact ⟨rfl, by rw [HE.out]; rfl, H1.out.2⟩
end Go.Proofs.CW
namespace Go.Proofs.CW
open Go.RowKit Go.Shelf Go.Sort Go.Lib Go.Proofs.YtjfclkbdkafkcaaGreatDoorW.PrintWords Go.Proofs.YtjfclkbdkafkcaaGreatDoor.PF
attribute [local go_sem] Oper.semAt_some

/-- The errors of lists. -/
def checkedR (ls : List (List PS)) : Int := if ls.any (fun l => decide (512 < l.length)) then 3 else if ls.all (fun l => l.all okP) then 0 else 2
/-- A row of lists. -/
def RowL (W : World) (g : Nat) (ls : List (List PS)) : Prop := ∀ (i : Nat) (hi : i < ls.length), ∃ A c, W.cell? ⟨g, i, none⟩ = some (.slice A ls[i].length c) ∧ Kd.C kP W A ls[i].length ls[i]
theorem RowL.below {W W' : World} {g : Nat} {ls : List (List PS)} (h : RowL W g ls) (hg : g < W.heap.size) (hb : Below W.heap.size W W') : RowL W' g ls := fun i hi => by
  obtain ⟨A, c, h1, h2⟩ := h i hi
  exact ⟨A, c, (hb.cell (p := ⟨g, i, none⟩) hg).trans h1, Kd.C_below h2 hb⟩
theorem checkedR_long {ls : List (List PS)} {i : Nat} (hi : i < ls.length) (h : 512 < ls[i].length) : checkedR ls = 3 := by
  unfold checkedR
  rw [if_pos]
  rw [List.any_eq_true]
  exact ⟨ls[i], List.getElem_mem hi, by simpa using h⟩
theorem checkedR_fine {ls : List (List PS)} (h : ∀ (j : Nat) (hj : j < ls.length), ls[j].length ≤ 512) : checkedR ls = if ls.all (fun l => l.all okP) then 0 else 2 := by
  unfold checkedR
  rw [if_neg]
  rw [List.any_eq_true]
  rintro ⟨l, hl, hx⟩
  obtain ⟨j, hj, rfl⟩ := List.mem_iff_getElem.1 hl
  have := h j hj
  simp at hx; omega
set_option maxRecDepth 100000 in
set_option maxHeartbeats 2000000 in
theorem checked_calls (g : Nat) (ls : List (List PS)) (hsm : ∀ l ∈ ls, Smalls l) (hn : ls.length ≤ 100) (hz : ∀ l ∈ ls, l.length ≤ 9223372036854775807) (w : World) (hg : g < w.heap.size) (hr : RowL w g ls) :
    Calls Tryz.prog 80 #[.slice (some ⟨g, 0, none⟩) ls.length ls.length] w fun e W => e = .returned (.int .i64 (checkedR ls)) ∧ Below w.heap.size w W := by
  have HC := Lib.hid (And.intro hr (And.intro hsm (And.intro hz hg)))
  have hcr0 := hr
  clear hr hsm hz hg
  go_enter Tryz.func80, Tryz.ntmps80
  go_wp2_with fail
  go_loopg [12] ls.length (fun k s12 wr => ∃ i : Nat, s12 = .int .i64 i ∧ i ≤ ls.length ∧ w = wr ∧ Hid (i + k = ls.length ∧ ∀ (j : Nat) (hj : j < ls.length), j < i → ls[j].length ≤ 512))
  case atStart => exact ⟨0, rfl, Nat.zero_le _, rfl, Lib.hid ⟨by simp, fun j _ h => by omega⟩⟩
  case round =>
    obtain ⟨i, rfl, hi, rfl, HI⟩ := hrel
    by_cases hlt : i < ls.length
    · have i1 : (i : Int) < (ls.length : Int) := by omega
      have i0 : (0 : Int) ≤ (i : Int) := by omega
      obtain ⟨A, c, hc, _⟩ := hcr0 i hlt
      obtain ⟨n, hnl⟩ : ∃ n, ls[i].length = n := ⟨_, rfl⟩
      rw [hnl] at hc
      have hn63 := HC.out.2.2.1 ls[i] (List.getElem_mem hlt)
      rw [hnl] at hn63
      have HN := Lib.hid hnl
      clear hnl
      by_cases hbig : 512 < n
      · have HE := Lib.hid (checkedR_long hlt (by rw [HN.out]; exact hbig))
        have c1 : (512 : Int) < (n : Int) := by omega
        go_wp2_with fail
        go_ret
        exact ⟨by rw [HE.out]; rfl, Below.refl _ _⟩
      · have c1 : ¬ (512 : Int) < (n : Int) := by omega
        go_wp2_with fail
        go_roundg (gk - 1)
        case measure => have := HI.out.1; omega
        case rel =>
          refine ⟨i + 1, by go_num, by omega, rfl, Lib.hid ⟨by have := HI.out.1; omega, fun j hj hji => ?_⟩⟩
          by_cases e : j = i
          · subst e; rw [HN.out]; omega
          · exact HI.out.2 j hj (by omega)
    · obtain rfl : i = ls.length := by omega
      have HFn := Lib.hid (checkedR_fine (ls := ls) (fun j hj => HI.out.2 j hj hj))
      go_wp2_with fail
      clear HI
      go_loopg [22] ls.length (fun k s22 wr => ∃ i : Nat, s22 = .int .i64 i ∧ i ≤ ls.length ∧ Hid (i + k = ls.length ∧ (∀ (j : Nat) (hj : j < ls.length), j < i → ls[j].all okP = true) ∧ Below w.heap.size w wr))
      case atStart => exact ⟨0, rfl, Nat.zero_le _, Lib.hid ⟨by simp, fun j _ h => by omega, Below.refl _ _⟩⟩
      case round =>
        obtain ⟨i, rfl, hi, HI⟩ := hrel
        obtain ⟨k1, rfl⟩ : ∃ k, k = gk := ⟨_, rfl⟩
        by_cases hlt : i < ls.length
        · have i1 : (i : Int) < (ls.length : Int) := by omega
          have i0 : (0 : Int) ≤ (i : Int) := by omega
          obtain ⟨A, c, hc, hrow⟩ := (hcr0.below HC.out.2.2.2 HI.out.2.2) i hlt
          obtain ⟨l, hl⟩ : ∃ l, ls[i] = l := ⟨_, rfl⟩
          rw [hl] at hc hrow
          have hll := HC.out.2.2.1 ls[i] (List.getElem_mem hlt)
          have hsm := HC.out.2.1 ls[i] (List.getElem_mem hlt)
          rw [hl] at hll hsm
          have HL := Lib.hid (And.intro hl (And.intro hrow hsm))
          have HB := Lib.hid (show Below wr.heap.size wr wr from Below.refl _ _)
          clear hl hrow hsm
          go_wp2_with fail
          obtain ⟨w1, hw1⟩ : ∃ w1, w1 = wr := ⟨_, rfl⟩
          subst hw1
          go_loopg [28] l.length (fun k s28 wr => ∃ m : Nat, s28 = .int .i64 m ∧ m ≤ l.length ∧ Hid (m + k = l.length ∧ (∀ (j : Nat) (hj : j < l.length), j < m → okP l[j] = true) ∧ Below w1.heap.size w1 wr))
          case atStart => exact ⟨0, rfl, Nat.zero_le _, Lib.hid ⟨by simp, fun j _ h => by omega, Below.refl _ _⟩⟩
          case round =>
            obtain ⟨m, rfl, hm, HM⟩ := hrel
            by_cases hlm : m < l.length
            · have j1 : (m : Int) < (l.length : Int) := by omega
              have j0 : (0 : Int) ≤ (m : Int) := by omega
              obtain ⟨ad, e, hc1, hc2⟩ := at_P (Kd.C_below HL.out.2.1 HM.out.2.2) m hlm hlm
              subst e
              obtain ⟨p, hp⟩ : ∃ p, l[m] = p := ⟨_, rfl⟩
              have hsp := HL.out.2.2 l[m] (List.getElem_mem hlm)
              rw [hp] at hc1 hc2 hsp
              obtain ⟨pn, pd⟩ := p
              have HP := Lib.hid (And.intro hp hsp)
              clear hp hsp
              go_wp2_with fail
              refine (check_calls (pn, pd) HP.out.2 _).mono ?_
              rintro e W ⟨rfl, hb⟩
              have H3 := Lib.hid (show Below w1.heap.size w1 W from (HM.out.2.2.alloc HM.out.2.2.size _).trans (hb.mono (by have := HM.out.2.2.size; simp; omega)))
              clear hb
              by_cases hok : okP (pn, pd) = true
              · rw [checkR_ok hok]
                have HO := Lib.hid hok
                clear hok
                go_wp2_with fail
                go_roundg (gk - 1)
                case measure => have := HM.out.1; omega
                case rel =>
                  refine ⟨m + 1, by go_num, by omega, Lib.hid ⟨by have := HM.out.1; omega, fun j hj hji => ?_, H3.out⟩⟩
                  by_cases e : j = m
                  · subst e; rw [HP.out.1]; exact HO.out
                  · exact HM.out.2.1 j hj (by omega)
              · rw [checkR_no hok]
                have HE := Lib.hid (show checkedR ls = 2 by
                  rw [HFn.out, if_neg]
                  rw [List.all_eq_true]
                  intro hall
                  have h1 := hall ls[i] (List.getElem_mem hlt)
                  rw [List.all_eq_true] at h1
                  have h2 := h1 l[m] (by rw [HL.out.1]; exact List.getElem_mem hlm)
                  rw [HP.out.1] at h2
                  exact hok h2)
                clear hok
                go_wp2_with fail
                go_ret
                exact ⟨by rw [HE.out]; rfl, HI.out.2.2.trans (H3.out.mono HI.out.2.2.size)⟩
            · obtain rfl : m = l.length := by omega
              go_wp2_with fail
              go_roundg (k1 - 1)
              case measure => have := HI.out.1; omega
              case rel =>
                refine ⟨i + 1, by go_num, by omega, Lib.hid ⟨by have := HI.out.1; omega, fun j hj hji => ?_, HI.out.2.2.trans (HM.out.2.2.mono HI.out.2.2.size)⟩⟩
                by_cases e : j = i
                · subst e
                  rw [HL.out.1, List.all_eq_true]
                  intro p hp
                  obtain ⟨q, hq, rfl⟩ := List.mem_iff_getElem.1 hp
                  exact HM.out.2.1 q hq hq
                · exact HI.out.2.1 j hj (by omega)
        · obtain rfl : i = ls.length := by omega
          have HE := Lib.hid (show checkedR ls = 0 by
            rw [HFn.out, if_pos]
            rw [List.all_eq_true]
            intro l hl
            obtain ⟨q, hq, rfl⟩ := List.mem_iff_getElem.1 hl
            exact HI.out.2.1 q hq hq)
          go_wp2_with fail
          go_ret
          exact ⟨by rw [HE.out]; rfl, HI.out.2.2⟩
end Go.Proofs.CW
namespace Go.Proofs.CW
open Go.RowKit Go.Shelf Go.Sort Go.Lib Go.Proofs.YtjfclkbdkafkcaaGreatDoorW.PrintWords Go.Proofs.YtjfclkbdkafkcaaGreatDoor.PF
attribute [local go_sem] Oper.semAt_some

/-- The cells of parts. -/
def flat (l : List PS) : List Value := l.flatMap fun p => [.string p.1, .string p.2]
theorem flat_cons (p : PS) (l : List PS) : flat (p :: l) = .string p.1 :: .string p.2 :: flat l := rfl
theorem flat_snoc (l : List PS) (p : PS) : flat (l ++ [p]) = flat l ++ [.string p.1, .string p.2] := by simp [flat]
theorem flat_get : ∀ (l : List PS) (i : Nat) (hi : i < l.length), (flat l)[i * 2]? = some (.string l[i].1) ∧ (flat l)[i * 2 + 1]? = some (.string l[i].2)
  | p :: l, 0, _ => ⟨rfl, rfl⟩
  | p :: l, i + 1, hi => by
    have := flat_get l i (by simpa using hi)
    rw [show (i + 1) * 2 = i * 2 + 1 + 1 by omega, flat_cons]
    simpa using this
/-- A row of parts of the call's own. -/
abbrev OwnP (W : World) (base : Nat) (v : Value) (l : List PS) : Prop := W.ownsRow base 24 2 v l.length (flat l)
theorem ownP_nil (W : World) (base : Nat) : OwnP W base (.slice none 0 0) [] := World.ownsRow_nil _ _ _ _
theorem ownP_C {W : World} {base : Nat} {v : Value} {l : List PS} (h : OwnP W base v l) : ∃ A c, v = .slice A l.length c ∧ Kd.C kP W A l.length l ∧ (A = none → l = []) ∧ ∀ ad, A = some ad → base ≤ ad.block ∧ ad.block < W.heap.size := by
  obtain ⟨h1, ⟨rfl, h2⟩ | ⟨g, cap, cur, rfl, e2, e3, e4, e5, e6, e7⟩⟩ := h
  · have : l = [] := List.length_eq_zero_iff.1 h2
    subst this
    exact ⟨none, 0, rfl, Kd.C_nil kP W, fun _ => rfl, fun ad h => by cases h⟩
  · refine ⟨some ⟨g, 0, none⟩, cap, rfl, ⟨rfl, ?_, fun _ => ⟨_, rfl, fun j p hj => ⟨[.string p.1, .string p.2], rfl, kP_mk W p, fun i u hu => ?_⟩⟩⟩, (fun h => by cases h), fun ad h => ?_⟩
    · have : maxLen = 9223372036854775807 := by unfold maxLen; decide
      omega
    · obtain ⟨hlt, e⟩ := List.getElem?_eq_some_iff.1 hj
      subst e
      have hf := flat_get l j hlt
      have hcell : ∀ k x, (flat l)[k]? = some x → W.cell? ⟨g, k, none⟩ = some x := fun k x hx => by
        rw [blk_cell e3]
        rw [← e7, List.getElem?_take] at hx
        split at hx
        · rw [← Array.getElem?_toList]; exact hx
        · cases hx
      have hadd : ((⟨g, 0, none⟩ : Addr).add (j * 2 + i)) = ⟨g, j * 2 + i, none⟩ := by simp [Addr.add]; omega
      rw [show kP.sz = 2 from rfl, hadd]
      match i, hu with
      | 0, hu => simp at hu; subst hu; exact hcell _ _ hf.1
      | 1, hu => simp at hu; subst hu; exact hcell _ _ hf.2
    · injection h with h; subst h
      exact ⟨e2, (Array.getElem?_eq_some_iff.1 e3).1⟩
theorem ownP_move {W W' : World} {base : Nat} {v : Value} {l : List PS} (h : OwnP W base v l) (hb : Below W.heap.size W W') : OwnP W' base v l := by
  obtain ⟨h1, h2 | ⟨g, cap, cur, e1, e2, e3, e4⟩⟩ := h
  · exact ⟨h1, .inl h2⟩
  · exact ⟨h1, .inr ⟨g, cap, cur, e1, e2, (hb.block _ (Array.getElem?_eq_some_iff.1 e3).1).trans e3, e4⟩⟩
theorem info_part : (Tryz.prog.info? 24).map (fun i => (i.zero, i.size, i.bytes)) = some (some (.agg #[.string ⟨#[]⟩, .string ⟨#[]⟩]), 2, 32) := by kernel_rfl
/-- How a list, or the error, comes back. -/
def OutL (base : Nat) (r : Except Int (List PS)) (e : Ending) (W : World) : Prop := match r with
  | .ok l => ∃ v, e = .returned v ∧ OwnP W base v l
  | .error x => e = thrown x
theorem own_base2 {W : World} {base e size n : Nat} {v : Value} {xs : List Value} (h : W.ownsRow base e size v n xs) : ∀ k, v.ownBlock = some k → base ≤ k := fun k hk => by
  rcases h.2 with ⟨rfl, _⟩ | ⟨g, cap, cur, rfl, e2, _⟩
  · cases hk
  · injection hk with hk; subst hk; exact e2
set_option maxRecDepth 100000 in
set_option maxHeartbeats 1000000 in
theorem share1_calls (base : Nat) (v : Value) (l : List PS) (p all : PS) (G : Nat) (sp : Small p) (sa : Small all) (hl : l.length ≤ 1000000) (w : World) (ht : Tab w) (hT : w.heap.size ≥ base) (ho : OwnP w base v l) (hG : PB w G all) (hGb : G < base)
    (htab : ∀ W, Below base w W → Tab W) :
    Calls Tryz.prog 128 #[v, pv p, .pointer (some ⟨G, 0, none⟩)] w fun e W => OutL base (do let q ← toE (divR p all); pure (l ++ [q])) e W ∧ Below base w W := by
  obtain ⟨pn, pd⟩ := p
  obtain ⟨an, ad⟩ := all
  obtain ⟨i0, hi, hz0, hz1, hz2⟩ := info_parts info_part
  have hb0 : Below w.heap.size w (w.alloc (.cells #[.string pn, .string pd] 24)) := (Below.refl _ w).alloc (Nat.le_refl _) _
  have hG2 := hG.below hb0
  obtain ⟨q1, q2, _, _⟩ := hG2.cell
  have ho2 := ownP_move ho hb0
  have HO := Lib.hid ho2
  have HB0 := Lib.hid hb0
  have HD := Lib.hid (div_calls (pn, pd) (an, ad) sp sa (w.alloc (.cells #[.string pn, .string pd] 24)) (ht.below hb0))
  obtain ⟨s6, t6, x6, hR⟩ : ∃ s t x, divR (pn, pd) (an, ad) = ((s, t), x) := ⟨_, _, _, rfl⟩
  rw [hR] at HD ⊢
  have HM := Lib.hid (must_calls ((s6, t6), x6))
  clear hR sp sa ht ho ho2 hG hG2 hb0 htab
  go_enter Tryz.func128, Tryz.ntmps128
  go_wp2_with fail
  refine HD.out.mono ?_
  rintro e W1 ⟨rfl, hb⟩
  have H1 := Lib.hid (And.intro (ownP_move HO.out hb) (HB0.out.trans (hb.mono (by simp))))
  clear hb
  go_wp2_with fail
  refine (HM.out W1).mono ?_
  rintro e W2 ⟨he, hb⟩
  have H2 := Lib.hid (And.intro (ownP_move H1.out.1 hb) (H1.out.2.trans (hb.mono H1.out.2.size)))
  clear hb
  cases hE : toE ((s6, t6), x6) with
  | ok q =>
    rw [hE] at he
    obtain ⟨s, t⟩ := q
    have he2 : e = .returned (.agg #[.string s, .string t]) := he
    subst he2
    have HE := Lib.hid hE
    clear hE he
    have ho := H2.out.1
    have hwz : base ≤ W2.heap.size := Nat.le_trans hT H2.out.2.size
    have hnew : ∀ (j : Nat) (u : Value), [Value.string s, Value.string t][j]? = some u → (W2.alloc (.cells #[.string s, .string t] 24)).cell? ((⟨W2.heap.size, 0, none⟩ : Addr).add j) = some u := by
      intro j u hj
      have h := heap_alloc_new W2 (.cells #[.string s, .string t] 24)
      match j, hj with
      | 0, hj => simp at hj; subst hj; exact blk_cell h 0
      | 1, hj => simp at hj; subst hj; exact blk_cell h 1
    have HNW := Lib.hid hnew
    clear hnew
    go_wp2_with (at_builtin; refine wpList_append_own _ rfl _ _ 34 rfl base 24 i0 (.agg #[.string ⟨#[]⟩, .string ⟨#[]⟩]) 2 32 Tryz.underlying34 hi hz0 hz1 hz2 rfl (by decide) _ _ _ rfl (ownP_move ho ((Below.refl _ W2).alloc (Nat.le_refl _) _)) ⟨W2.heap.size, 0, none⟩ 1 1 [.string s, .string t] rfl rfl HNW.out (by simp [Value.oneCell']) (by unfold maxLen; omega) (by omega) (by simp; omega) ?_; intro v' w3 hown' hgrow _)
    have HF := Lib.hid (show OwnP w3 base v' (l ++ [(s, t)]) by
      unfold OwnP; rw [flat_snoc, List.length_append]; exact hown')
    have HBF := Lib.hid (show Below base w w3 from ((H2.out.2.mono hT).alloc hwz _).grown hgrow (by simp; omega) (fun j hj => own_base2 H2.out.1 j hj))
    clear hown' hgrow ho
    go_wp2_with fail
    go_ret
    exact ⟨by rw [HE.out]; exact ⟨_, rfl, HF.out⟩, HBF.out⟩
  | error x =>
    rw [hE] at he
    have he2 : e = thrown x := he
    subst he2
    have HE := Lib.hid hE
    clear hE he
    go_wp2_with fail
    exact ⟨rfl, by rw [HE.out]; rfl, H2.out.2.mono hT⟩
end Go.Proofs.CW
namespace Go.Proofs.CW
open Go.RowKit Go.Shelf Go.Sort Go.Lib Go.Proofs.YtjfclkbdkafkcaaGreatDoorW.PrintWords Go.Proofs.YtjfclkbdkafkcaaGreatDoor.PF
attribute [local go_sem] Oper.semAt_some

theorem own_lowerP {W : World} {base base' : Nat} {v : Value} {l : List PS} (h : OwnP W base v l) (hb : base' ≤ base) : OwnP W base' v l := own_lower h hb
theorem mapM_snoc (f : PS → Except Int PS) (l : List PS) (i : Nat) (hi : i < l.length) : (l.take (i + 1)).mapM f = (do let a ← (l.take i).mapM f; let q ← f l[i]; pure (a ++ [q])) := by
  rw [List.take_succ_eq_append_getElem hi, List.mapM_append]
  congr 1
  funext a
  rw [List.mapM_cons, List.mapM_nil]
  cases f l[i] <;> rfl
theorem mapM_error (f : PS → Except Int PS) (l : List PS) (i : Nat) {x : Int} (h : (l.take i).mapM f = .error x) : l.mapM f = .error x := by
  have e : l = l.take i ++ l.drop i := (List.take_append_drop i l).symm
  rw [e, List.mapM_append, h]; rfl
theorem mapM_length {f : PS → Except Int PS} : ∀ (l : List PS) {r : List PS}, l.mapM f = .ok r → r.length = l.length
  | [], r, h => by
    rw [List.mapM_nil] at h; injection h with h; subst h; rfl
  | p :: l, r, h => by
    rw [List.mapM_cons] at h
    cases h1 : f p with
    | error x => rw [h1] at h; cases h
    | ok q =>
      rw [h1] at h
      cases h2 : l.mapM f with
      | error x => rw [h2] at h; cases h
      | ok r2 =>
        rw [h2] at h
        injection h with h
        subst h
        simp [mapM_length l h2]
set_option maxRecDepth 100000 in
set_option maxHeartbeats 1000000 in
theorem fold2_calls (A : Option Addr) (c : Nat) (l : List PS) (all : PS) (G : Nat) (sa : Small all) (hsm : Smalls l) (hl : l.length ≤ 100000) (w : World) (ht : Tab w) (hc : Kd.C kP w A l.length l) (hG : PB w G all) :
    Calls Tryz.prog 127 #[.slice A l.length c, .slice none 0 0, .func (.func 128) #[] #[.pointer (some ⟨G, 0, none⟩)]] w fun e W => OutL w.heap.size (l.mapM (fun p => toE (divR p all))) e W ∧ Below w.heap.size w W := by
  have HC := Lib.hid (And.intro hc (And.intro ht (And.intro hsm (And.intro sa (And.intro hG (Array.getElem?_eq_some_iff.1 hG).1)))))
  clear hc ht hsm sa hG
  go_enter Tryz.func127, Tryz.ntmps127
  go_wp2_with fail
  go_loopg [1, 11] l.length (fun k s1 s11 wr => ∃ (i : Nat) (r : List PS), s11 = .int .i64 i ∧ i ≤ l.length ∧ Hid (i + k = l.length ∧ (l.take i).mapM (fun p => toE (divR p all)) = .ok r ∧ OwnP wr w.heap.size s1 r ∧ Below w.heap.size w wr))
  case atStart => exact ⟨0, [], rfl, Nat.zero_le _, Lib.hid ⟨by simp, rfl, ownP_nil _ _, Below.refl _ _⟩⟩
  case round =>
    obtain ⟨i, r, rfl, hi, HI⟩ := hrel
    by_cases hlt : i < l.length
    · have i1 : (i : Int) < (l.length : Int) := by omega
      have i0 : (0 : Int) ≤ (i : Int) := by omega
      obtain ⟨ad, e, hc1, hc2⟩ := at_P (Kd.C_below HC.out.1 HI.out.2.2.2) i hlt hlt
      subst e
      obtain ⟨p, hp⟩ : ∃ p, l[i] = p := ⟨_, rfl⟩
      have hsp := HC.out.2.2.1 l[i] (List.getElem_mem hlt)
      have hst := mapM_snoc (fun p => toE (divR p all)) l i hlt
      rw [HI.out.2.1, hp] at hst
      rw [hp] at hc1 hc2 hsp
      have hrl := mapM_length _ HI.out.2.1
      rw [List.length_take] at hrl
      obtain ⟨pn, pd⟩ := p
      have HP := Lib.hid (And.intro hst (And.intro hsp hrl))
      clear hp hst hsp hrl
      go_wp2_with fail
      obtain ⟨W0, hW0⟩ : ∃ W0, wr.alloc (.cells #[.string pn, .string pd] 24) = W0 := ⟨_, rfl⟩
      have hb0 : Below wr.heap.size wr W0 := by rw [← hW0]; exact (Below.refl _ _).alloc (Nat.le_refl _) _
      have hb1 : Below w.heap.size w W0 := HI.out.2.2.2.trans (hb0.mono HI.out.2.2.2.size)
      have HW := Lib.hid (And.intro hb0 hb1)
      rw [hW0]
      clear hW0 hb0 hb1
      refine (share1_calls w.heap.size _ r (pn, pd) all G HP.out.2.1 HC.out.2.2.2.1 (by have := HP.out.2.2; omega) W0 (HC.out.2.1.below HW.out.2) HW.out.2.size (ownP_move HI.out.2.2.1 HW.out.1) (HC.out.2.2.2.2.1.below HW.out.2) HC.out.2.2.2.2.2 (fun W hb => HC.out.2.1.below (HW.out.2.trans hb))).mono ?_
      rintro e W ⟨he, hb⟩
      have H3 := Lib.hid (HW.out.2.trans hb)
      clear hb
      cases hE : toE (divR (pn, pd) all) with
      | ok q =>
        rw [hE] at he
        obtain ⟨v, rfl, ho⟩ := he
        have HX := Lib.hid (show (l.take (i + 1)).mapM (fun p => toE (divR p all)) = .ok (r ++ [q]) ∧ OwnP W w.heap.size v (r ++ [q]) from ⟨by rw [HP.out.1, hE]; rfl, ho⟩)
        clear ho hE
        go_wp2_with fail
        go_roundg (gk - 1)
        case measure => have := HI.out.1; omega
        case rel => exact ⟨i + 1, r ++ [q], by go_num, by omega, Lib.hid ⟨by have := HI.out.1; omega, HX.out.1, HX.out.2, H3.out⟩⟩
      | error x =>
        rw [hE] at he
        have he2 : e = thrown x := he
        subst he2
        have HX := Lib.hid (show l.mapM (fun p => toE (divR p all)) = .error x from mapM_error _ l (i + 1) (by rw [HP.out.1, hE]; rfl))
        clear he hE
        go_wp2_with fail
        exact ⟨rfl, by rw [HX.out]; rfl, H3.out⟩
    · obtain rfl : i = l.length := by omega
      have HE := Lib.hid (show l.mapM (fun p => toE (divR p all)) = .ok r by have := HI.out.2.1; rwa [List.take_length] at this)
      go_wp2_with fail
      go_ret
      exact ⟨by rw [HE.out]; exact ⟨_, rfl, HI.out.2.2.1⟩, HI.out.2.2.2⟩
set_option maxRecDepth 100000 in
set_option maxHeartbeats 1000000 in
theorem share_calls (A : Option Addr) (c : Nat) (l : List PS) (all : PS) (sa : Small all) (hsm : Smalls l) (hl : l.length ≤ 100000) (w : World) (ht : Tab w) (hc : Kd.C kP w A l.length l) :
    Calls Tryz.prog 77 #[.slice A l.length c, pv all] w fun e W => OutL w.heap.size (shareE l all) e W ∧ Below w.heap.size w W := by
  have hmf : ∀ (fn : Fn) (first cap : Array Value) (w : World), (Instr.makeFunc fn first cap).run Tryz.prog w = .ok (.func fn first cap) w := fun _ _ _ _ => rfl
  obtain ⟨an, ad⟩ := all
  have hb0 : Below w.heap.size w (w.alloc (.cells #[.string an, .string ad] 24)) := (Below.refl _ w).alloc (Nat.le_refl _) _
  have HF := Lib.hid (fold2_calls A c l (an, ad) w.heap.size sa hsm hl (w.alloc (.cells #[.string an, .string ad] 24)) (ht.below hb0) (Kd.C_below hc hb0) (PB.new w an ad))
  have HB0 := Lib.hid hb0
  clear ht hc hsm sa hb0
  by_cases h0 : an = s0
  · have h0b := (str_eq an [48]).2 h0
    have HE := Lib.hid (show shareE l (an, ad) = .error 7 by unfold shareE; rw [if_pos h0])
    clear h0
    go_enter Tryz.func77, Tryz.ntmps77
    go_wp2_with fail
    exact ⟨rfl, by rw [HE.out]; rfl, HB0.out⟩
  · have h0b := str_ne (l := [48]) h0
    have HE := Lib.hid (show shareE l (an, ad) = l.mapM (fun p => toE (divR p (an, ad))) by unfold shareE; rw [if_neg h0])
    clear h0
    go_enter Tryz.func77, Tryz.ntmps77
    go_wp2_with fail
    refine HF.out.mono ?_
    rintro e W ⟨he, hb⟩
    have H1 := Lib.hid (HB0.out.trans (hb.mono (by simp)))
    clear hb
    cases hM : l.mapM (fun p => toE (divR p (an, ad))) with
    | ok r =>
      rw [hM] at he
      obtain ⟨v, rfl, ho⟩ := he
      have HX := Lib.hid (And.intro hM (own_lowerP ho (base' := w.heap.size) (by simp)))
      clear ho hM
      go_wp2_with fail
      go_ret
      exact ⟨by rw [HE.out, HX.out.1]; exact ⟨_, rfl, HX.out.2⟩, H1.out⟩
    | error x =>
      rw [hM] at he
      have he2 : e = thrown x := he
      subst he2
      have HX := Lib.hid hM
      clear he hM
      go_wp2_with fail
      exact ⟨rfl, by rw [HE.out, HX.out]; rfl, H1.out⟩
end Go.Proofs.CW
namespace Go.Proofs.CW
open Go.RowKit Go.Shelf Go.Sort Go.Lib Go.Proofs.YtjfclkbdkafkcaaGreatDoorW.PrintWords Go.Proofs.YtjfclkbdkafkcaaGreatDoor.PF
attribute [local go_sem] Oper.semAt_some

section
variable {P : Program} {md : Region.Mode} {ops : Array Oper} {Q : Exit → Act → World → Prop} {S : World → Prop} {T : Array Bool → Act → World → Prop}
/-- The one operation that may come up, walked. -/
theorem T_only {fuel : Nat} (i : Nat) {o : Oper} {listed : Array Bool} {a : Act} {w : World} (hr : Region.ready md ops listed = [i]) (hi : ops[i]? = some o)
    (hw : Region.wanted o (yielded ops a.tmps) = true) (h : o.wp P a w (fun a' w' => S w' ∧ wpAnyT P md ops Q S T fuel (listed.setIfInBounds i true) a' w') Q) : wpAnyT P md ops Q S T (fuel + 1) listed a w := by
  refine ⟨by rw [hr]; simp, fun j hj => ?_⟩
  rw [hr, List.mem_singleton] at hj
  rw [hj]
  unfold wpOp
  simp only [hi, hw, if_true]
  exact .inl h
/-- .. in the tail, where the order is one. -/
theorem any_only {fuel : Nat} (i : Nat) {o : Oper} {listed : Array Bool} {a : Act} {w : World} (hr : Region.ready md ops listed = [i]) (hi : ops[i]? = some o)
    (hw : Region.wanted o (yielded ops a.tmps) = true) (h : o.wp P a w (fun a' w' => wpAny P md ops Q fuel (listed.setIfInBounds i true) a' w') Q) : wpAny P md ops Q (fuel + 1) listed a w := by
  refine ⟨fun h0 => (by rw [hr] at h0; cases h0), fun j hj => ?_⟩
  rw [hr, List.mem_singleton] at hj
  rw [hj]
  unfold wpOp
  simp only [hi, hw, if_true]
  exact .inl h
theorem any_done {listed : Array Bool} {a : Act} {w : World} (hr : Region.ready md ops listed = []) (h : Q .normal a w) : wpAny P md ops Q 0 listed a w := ⟨hr, h⟩
/-- The tail of a region: n is the one operation that may come up, and what follows is walked in the one order. -/
def Tail (P : Program) (md : Region.Mode) (ops : Array Oper) (Q : Exit → Act → World → Prop) (n g : Nat) (listed : Array Bool) (a : Act) (w : World) : Prop := Region.ready md ops listed = [n] ∧ wpAny P md ops Q g listed a w
theorem tail_only {n g : Nat} : ∀ listed a w, Tail P md ops Q n g listed a w → ∀ j ∈ Region.ready md ops listed, j = n := fun listed a w h j hj => by
  rw [h.1] at hj; exact List.mem_singleton.1 hj
/-- A region that draws: the first m operations in any order, the last g in one. -/
theorem region_tail (S : World → Prop) (n g : Nat) {id m : Nat} {a : Act} {w : World} (hm : P.follows .mixedOrders = true) (hsz : ops.size = m + g)
    (h : wpAnyT P .any ops Q S (Tail P .any ops Q n g) m (Array.replicate ops.size false) a w.drew) : (Code.region id ops true).wp P Q a w := by
  refine wp_region_any hm ?_
  have h2 := wpAny_of_T (g := g) (T := Tail P .any ops Q n g) (fun _ _ _ h => h.2) _ _ _ _ h
  rw [← hsz] at h2
  exact h2
end
end Go.Proofs.CW
namespace Go.Proofs.CW
open Go.RowKit Go.Shelf Go.Sort Go.Lib Go.Proofs.YtjfclkbdkafkcaaGreatDoorW.PrintWords Go.Proofs.YtjfclkbdkafkcaaGreatDoor.PF
attribute [local go_sem] Oper.semAt_some

theorem own_block_lt {W : World} {base e size n : Nat} {v : Value} {xs : List Value} {k : Nat} (h : W.ownsRow base e size v n xs) (hk : v.ownBlock = some k) : k < W.heap.size := by
  rcases h.2 with ⟨rfl, _⟩ | ⟨g, cap, cur, rfl, e2, e3, _⟩
  · cases hk
  · injection hk with hk; subst hk; exact (Array.getElem?_eq_some_iff.1 e3).1
theorem cell_lt {W : World} {p : Addr} {x : Value} (h : W.cell? p = some x) : p.block < W.heap.size := by
  apply Classical.byContradiction
  intro hn
  simp [World.cell?, Array.getElem?_eq_none (Nat.le_of_not_lt hn)] at h
/-- What a round of products reads. -/
abbrev ProdS (M : Nat) (bd : Addr) (p q : PS) (W : World) : Prop := W.cell? ⟨M, 0, none⟩ = some (.string p.1) ∧ W.cell? ⟨M, 1, none⟩ = some (.string p.2) ∧ W.cell? bd = some (.string q.1) ∧ W.cell? ⟨bd.block, bd.off + 1, none⟩ = some (.string q.2)
theorem ProdS.below {M : Nat} {bd : Addr} {p q : PS} {W W' : World} (h : ProdS M bd p q W) (h1 : M < W.heap.size) (h2 : bd.block < W.heap.size) (hb : Below W.heap.size W W') : ProdS M bd p q W' :=
  ⟨(hb.cell (p := ⟨M, 0, none⟩) h1).trans h.1, (hb.cell (p := ⟨M, 1, none⟩) h1).trans h.2.1, (hb.cell h2).trans h.2.2.1, (hb.cell (p := ⟨bd.block, bd.off + 1, none⟩) h2).trans h.2.2.2⟩
theorem prodE_snoc : ∀ (a b : List PS) (p q : PS), a.length = b.length → prodE (a ++ [p]) (b ++ [q]) = (do let l ← prodE a b; let x ← toE (mulR p q); pure (l ++ [x]))
  | [], [], p, q, _ => by
    show (do let x ← toE (mulR p q); let l ← prodE [] []; pure (x :: l)) = (do let l ← prodE [] []; let x ← toE (mulR p q); pure (l ++ [x]))
    show (do let x ← toE (mulR p q); pure [x] : Except Int (List PS)) = (do let x ← toE (mulR p q); pure ([] ++ [x]))
    rfl
  | [], _ :: _, _, _, h => by simp at h
  | _ :: _, [], _, _, h => by simp at h
  | x :: a, y :: b, p, q, h => by
    rw [List.cons_append, List.cons_append, prodE, prodE, prodE_snoc a b p q (by simpa using h)]
    cases toE (mulR x y) with
    | error e => rfl
    | ok z =>
      cases prodE a b with
      | error e => rfl
      | ok l =>
        cases toE (mulR p q) <;> rfl
theorem prodE_error : ∀ (a b c d : List PS) {x : Int}, a.length = b.length → prodE a b = .error x → prodE (a ++ c) (b ++ d) = .error x
  | [], [], _, _, x, _, h => by cases h
  | [], _ :: _, _, _, _, h, _ => by simp at h
  | _ :: _, [], _, _, _, h, _ => by simp at h
  | p :: a, q :: b, c, d, x, hl, h => by
    rw [List.cons_append, List.cons_append, prodE]
    rw [prodE] at h
    cases h1 : toE (mulR p q) with
    | error e => rw [h1] at h; exact h
    | ok z =>
      rw [h1] at h
      cases h2 : prodE a b with
      | error e =>
        rw [h2] at h
        injection h with h
        subst h
        show (do let l ← prodE (a ++ c) (b ++ d); pure (z :: l)) = _
        rw [prodE_error a b c d (by simpa using hl) h2]; rfl
      | ok l => rw [h2] at h; cases h
theorem prodE_length : ∀ (a b : List PS) {r : List PS}, a.length = b.length → prodE a b = .ok r → r.length = a.length
  | [], [], r, _, h => by injection h with h; subst h; rfl
  | [], _ :: _, _, h, _ => by simp at h
  | _ :: _, [], _, h, _ => by simp at h
  | p :: a, q :: b, r, hl, h => by
    rw [prodE] at h
    cases h1 : toE (mulR p q) with
    | error e => rw [h1] at h; cases h
    | ok z =>
      rw [h1] at h
      cases h2 : prodE a b with
      | error e => rw [h2] at h; cases h
      | ok l =>
        rw [h2] at h
        injection h with h
        subst h
        simp [prodE_length a b (by simpa using hl) h2]
theorem prodE_take (a b : List PS) (i : Nat) (ha : i < a.length) (hb : i < b.length) : prodE (a.take (i + 1)) (b.take (i + 1)) = (do let l ← prodE (a.take i) (b.take i); let x ← toE (mulR a[i] b[i]); pure (l ++ [x])) := by
  rw [List.take_succ_eq_append_getElem ha, List.take_succ_eq_append_getElem hb, prodE_snoc _ _ _ _ (by simp only [List.length_take]; omega)]
theorem prodE_all {a b : List PS} {i : Nat} {x : Int} (hl : a.length = b.length) (h : prodE (a.take i) (b.take i) = .error x) : prodE a b = .error x := by
  have := prodE_error (a.take i) (b.take i) (a.drop i) (b.drop i) (by simp only [List.length_take]; omega) h
  rwa [List.take_append_drop, List.take_append_drop] at this
set_option maxRecDepth 100000 in
set_option maxHeartbeats 2000000 in
theorem products_calls (A B : Option Addr) (c d : Nat) (a b : List PS) (hab : a.length = b.length) (hsa : Smalls a) (hsb : Smalls b) (hl : a.length ≤ 100000) (w : World) (ht : Tab w) (hca : Kd.C kP w A a.length a) (hcb : Kd.C kP w B b.length b) :
    Calls Tryz.prog 75 #[.slice A a.length c, .slice B b.length d] w fun e W => OutL w.heap.size (prodE a b) e W ∧ Below w.heap.size w W := by
  obtain ⟨i0, hi0, hz0, hz1, hz2⟩ := info_parts info_part
  have HC := Lib.hid (And.intro hca (And.intro hcb (And.intro hsa (And.intro hsb (And.intro hab ht)))))
  obtain ⟨n, hn⟩ : ∃ n, b.length = n := ⟨_, rfl⟩
  rw [hn]
  have HNb := Lib.hid hn
  clear hca hcb hsa hsb hab ht hn
  go_enter Tryz.func75, Tryz.ntmps75
  go_wp2_with fail
  go_loopg [5, 10] a.length (fun k s5 s10 wr => ∃ (i : Nat) (r : List PS), s10 = .int .i64 i ∧ i ≤ a.length ∧ Hid (i + k = a.length ∧ prodE (a.take i) (b.take i) = .ok r ∧ OwnP wr w.heap.size s5 r ∧ Below w.heap.size w wr))
  case atStart => exact ⟨0, [], rfl, Nat.zero_le _, Lib.hid ⟨by simp, rfl, ownP_nil _ _, Below.refl _ _⟩⟩
  case round =>
    obtain ⟨i, r, rfl, hi, HI⟩ := hrel
    by_cases hlt : i < a.length
    · have hltb : i < b.length := by have := HC.out.2.2.2.2.1; omega
      have i1 : (i : Int) < (a.length : Int) := by omega
      have i2 : (i : Int) < (n : Int) := by have := HNb.out; omega
      have i00 : (0 : Int) ≤ (i : Int) := by omega
      obtain ⟨ad, e, hc1, hc2⟩ := at_P (Kd.C_below HC.out.1 HI.out.2.2.2) i hlt hlt
      subst e
      obtain ⟨bd, e, hd1, hd2⟩ := at_P HC.out.2.1 i hltb hltb
      subst e
      have hbb := cell_lt hd1
      obtain ⟨p, hp⟩ : ∃ p, a[i] = p := ⟨_, rfl⟩
      obtain ⟨q, hq⟩ : ∃ q, b[i] = q := ⟨_, rfl⟩
      have hsp := HC.out.2.2.1 a[i] (List.getElem_mem hlt)
      have hsq := HC.out.2.2.2.1 b[i] (List.getElem_mem hltb)
      have hst := prodE_take a b i hlt hltb
      have hrl := prodE_length _ _ (by simp only [List.length_take]; have := HC.out.2.2.2.2.1; omega) HI.out.2.1
      rw [List.length_take] at hrl
      rw [HI.out.2.1, hp, hq] at hst
      rw [hp] at hc1 hc2 hsp
      rw [hq] at hd1 hd2 hsq
      obtain ⟨pn, pd⟩ := p
      obtain ⟨qn, qd⟩ := q
      have HP := Lib.hid (And.intro hst (And.intro hsp (And.intro hsq hrl)))
      clear hp hq hst hsp hsq hrl
      go_wp2_with fail
      obtain ⟨M, hM⟩ : ∃ M, wr.heap.size = M := ⟨_, rfl⟩
      obtain ⟨W0, hW0⟩ : ∃ W0, wr.alloc (.cells #[.string pn, .string pd] 24) = W0 := ⟨_, rfl⟩
      have hb0 : Below wr.heap.size wr W0 := by rw [← hW0]; exact (Below.refl _ _).alloc (Nat.le_refl _) _
      have hz0 : M < W0.heap.size := by rw [← hW0, World.size_alloc]; omega
      have hbw : (bd.add (i * 2)).block < wr.heap.size := Nat.lt_of_lt_of_le hbb HI.out.2.2.2.size
      have hpb := PB.new wr pn pd
      rw [hW0] at hpb
      have hS : ProdS M (bd.add (i * 2)) (pn, pd) (qn, qd) W0.drew := ⟨hM ▸ hpb.cell.1, hM ▸ hpb.cell.2.1,
        (hb0.cell (p := bd.add (i * 2)) hbw).trans ((HI.out.2.2.2.cell (p := bd.add (i * 2)) hbb).trans hd1), (hb0.cell (p := ⟨(bd.add (i * 2)).block, (bd.add (i * 2)).off + 1, none⟩) hbw).trans ((HI.out.2.2.2.cell (p := ⟨(bd.add (i * 2)).block, (bd.add (i * 2)).off + 1, none⟩) hbb).trans hd2)⟩
      have HW := Lib.hid (And.intro hb0 (And.intro (HI.out.2.2.2.trans (hb0.mono HI.out.2.2.2.size)) (And.intro hz0 (And.intro hbw (And.intro hM hbb)))))
      rw [hW0]
      simp only [hM]
      clear hb0 hW0 hz0 hbw hpb hd1 hd2 hbb hM
      refine region_tail (m := 12) (ProdS M (bd.add (i * 2)) (pn, pd) (qn, qd)) 12 1 (by kernel_rfl) rfl ?_
      refine T_take 0 15 u5 rfl rfl (by kernel_rfl) (by kernel_rfl) (by kernel_rfl) (fun _ _ d _ _ h => by cases d <;> exact h) (by kernel_rfl) tail_only hS (by kernel_rfl) (fun W hW => by obtain ⟨s1, s2, s3, s4⟩ := hW; go_simp) ?_
      try simp only [List.setIfInBounds_toArray, List.set_cons_zero, List.set_cons_succ]
      refine T_take 1 16 (.agg #[.string pn, .string pd]) rfl rfl (by kernel_rfl) (by kernel_rfl) (by kernel_rfl) (fun _ _ d _ _ h => by cases d <;> exact h) (by kernel_rfl) tail_only hS (by kernel_rfl) (fun W hW => by obtain ⟨s1, s2, s3, s4⟩ := hW; go_simp) ?_
      try simp only [List.setIfInBounds_toArray, List.set_cons_zero, List.set_cons_succ]
      refine T_take 2 17 (.slice (some bd) n d) rfl rfl (by kernel_rfl) (by kernel_rfl) (by kernel_rfl) (fun _ _ d _ _ h => by cases d <;> exact h) (by kernel_rfl) tail_only hS (by kernel_rfl) (fun W hW => by obtain ⟨s1, s2, s3, s4⟩ := hW; go_simp) ?_
      try simp only [List.setIfInBounds_toArray, List.set_cons_zero, List.set_cons_succ]
      refine T_take 3 18 (.int .i64 i) rfl rfl (by kernel_rfl) (by kernel_rfl) (by kernel_rfl) (fun _ _ d _ _ h => by cases d <;> exact h) (by kernel_rfl) tail_only hS (by kernel_rfl) (fun W hW => by obtain ⟨s1, s2, s3, s4⟩ := hW; go_simp) ?_
      try simp only [List.setIfInBounds_toArray, List.set_cons_zero, List.set_cons_succ]
      refine T_take 4 19 (.pointer (some (bd.add (i * 2)))) rfl rfl (by kernel_rfl) (by kernel_rfl) (by kernel_rfl) (fun _ _ d _ _ h => by cases d <;> exact h) (by kernel_rfl) tail_only hS (by kernel_rfl) (fun W hW => by obtain ⟨s1, s2, s3, s4⟩ := hW; go_simp) ?_
      try simp only [List.setIfInBounds_toArray, List.set_cons_zero, List.set_cons_succ]
      refine T_take 5 20 (.agg #[.string qn, .string qd]) rfl rfl (by kernel_rfl) (by kernel_rfl) (by kernel_rfl) (fun _ _ d _ _ h => by cases d <;> exact h) (by kernel_rfl) tail_only hS (by kernel_rfl) (fun W hW => by obtain ⟨s1, s2, s3, s4⟩ := hW; go_simp) ?_
      try simp only [List.setIfInBounds_toArray, List.set_cons_zero, List.set_cons_succ]
      refine T_only 6 (by kernel_rfl) rfl (by kernel_rfl) ?_
      unfold Oper.wp
      go_simp
      obtain ⟨s6, t6, x6, hR⟩ : ∃ s t x, mulR (pn, pd) (qn, qd) = ((s, t), x) := ⟨_, _, _, rfl⟩
      have HR := Lib.hid hR
      refine (mul_calls (pn, pd) (qn, qd) HP.out.2.1 HP.out.2.2.1 W0.drew (HC.out.2.2.2.2.2.below (below_drew1 HW.out.2.1))).mono ?_
      rintro e W1 ⟨rfl, hb⟩
      rw [hR]
      clear hR
      have hS1 : ProdS M (bd.add (i * 2)) (pn, pd) (qn, qd) W1 := hS.below HW.out.2.2.1 (Nat.lt_of_lt_of_le HW.out.2.2.2.1 HW.out.1.size) hb
      have H1 := Lib.hid (show Below wr.heap.size wr W1 from (below_drew1 HW.out.1).trans (hb.mono HW.out.1.size))
      have hz1 : M < W1.heap.size ∧ (bd.add (i * 2)).block < W1.heap.size := ⟨Nat.lt_of_lt_of_le HW.out.2.2.1 hb.size, Nat.lt_of_lt_of_le HW.out.2.2.2.1 H1.out.size⟩
      have HZ1 := Lib.hid hz1
      clear hb hz1
      refine ⟨hS1, ?_⟩
      try simp only [List.setIfInBounds_toArray, List.set_cons_zero, List.set_cons_succ]
      refine T_take 7 22 (.agg #[.string s6, .string t6]) rfl rfl (by kernel_rfl) (by kernel_rfl) (by kernel_rfl) (fun _ _ d _ _ h => by cases d <;> exact h) (by kernel_rfl) tail_only hS1 (by kernel_rfl) (fun W hW => by obtain ⟨s1, s2, s3, s4⟩ := hW; go_simp) ?_
      try simp only [List.setIfInBounds_toArray, List.set_cons_zero, List.set_cons_succ]
      refine T_take 8 23 (.int .i64 x6) rfl rfl (by kernel_rfl) (by kernel_rfl) (by kernel_rfl) (fun _ _ d _ _ h => by cases d <;> exact h) (by kernel_rfl) tail_only hS1 (by kernel_rfl) (fun W hW => by obtain ⟨s1, s2, s3, s4⟩ := hW; go_simp) ?_
      try simp only [List.setIfInBounds_toArray, List.set_cons_zero, List.set_cons_succ]
      refine T_only 9 (by kernel_rfl) rfl (by kernel_rfl) ?_
      unfold Oper.wp
      go_simp
      refine (must_calls ((s6, t6), x6) W1).mono ?_
      rintro e W2 ⟨he, hb⟩
      have hS2 : ProdS M (bd.add (i * 2)) (pn, pd) (qn, qd) W2 := hS1.below HZ1.out.1 HZ1.out.2 hb
      have H2 := Lib.hid (show Below wr.heap.size wr W2 ∧ M < W2.heap.size ∧ (bd.add (i * 2)).block < W2.heap.size from ⟨H1.out.trans (hb.mono H1.out.size), Nat.lt_of_lt_of_le HZ1.out.1 hb.size, Nat.lt_of_lt_of_le HZ1.out.2 hb.size⟩)
      clear hb
      cases hE : toE ((s6, t6), x6) with
      | ok x =>
        obtain ⟨s, t⟩ := x
        have he2 : e = .returned (.agg #[.string s, .string t]) := by rw [he, hE]; rfl
        subst he2
        have HE := Lib.hid (show toE (mulR (pn, pd) (qn, qd)) = .ok (s, t) by rw [HR.out]; exact hE)
        clear he hE
        refine ⟨hS2, ?_⟩
        try simp only [List.setIfInBounds_toArray, List.set_cons_zero, List.set_cons_succ]
        refine T_only 10 (by kernel_rfl) rfl (by kernel_rfl) ?_
        unfold Oper.wp
        go_simp
        have hba : Below W2.heap.size W2 (W2.alloc (.cells #[.string s, .string t] 24)) := (Below.refl _ W2).alloc (Nat.le_refl _) _
        refine ⟨hS2.below H2.out.2.1 H2.out.2.2 hba, ?_⟩
        have hnew : ∀ (j : Nat) (u : Value), [Value.string s, Value.string t][j]? = some u → (W2.alloc (.cells #[.string s, .string t] 24)).cell? ((⟨W2.heap.size, 0, none⟩ : Addr).add j) = some u := by
          intro j u hj
          have h := heap_alloc_new W2 (.cells #[.string s, .string t] 24)
          match j, hj with
          | 0, hj => simp at hj; subst hj; exact blk_cell h 0
          | 1, hj => simp at hj; subst hj; exact blk_cell h 1
        have ho := ownP_move (ownP_move HI.out.2.2.1 H2.out.1) hba
        have hwz : w.heap.size ≤ W2.heap.size := Nat.le_trans HI.out.2.2.2.size H2.out.1.size
        have hrl := HP.out.2.2.2
        refine T_only 11 (by kernel_rfl) rfl (by kernel_rfl) ?_
        refine wp_append_own _ (.tmp 15) (.tmp 25) 34 rfl w.heap.size 24 i0 (.agg #[.string ⟨#[]⟩, .string ⟨#[]⟩]) 2 32 Tryz.underlying34 hi0 hz0 hz1 hz2 rfl (by decide) u5 r.length (flat r) rfl ho ⟨W2.heap.size, 0, none⟩ 1 1 [.string s, .string t] rfl rfl hnew (by simp [Value.oneCell']) (by unfold maxLen; omega) (by omega) (by simp; omega) ?_
        intro v' w3 hown' hgrow _
        have hbf : Below w.heap.size w w3 := (((HI.out.2.2.2.trans (H2.out.1.mono HI.out.2.2.2.size)).alloc hwz _).grown hgrow (by simp; omega) (fun j hj => own_base2 HI.out.2.2.1 j hj))
        have hne : ∀ k, (k = M ∨ k = (bd.add (i * 2)).block) → some k ≠ u5.ownBlock := by
          intro k hk e
          have hob := own_block_lt HI.out.2.2.1 e.symm
          have hbb := own_base2 HI.out.2.2.1 k e.symm
          rcases hk with rfl | rfl
          · have := HW.out.2.2.2.2.1; omega
          · have := HW.out.2.2.2.2.2; omega
        have hk3 : ∀ k, (k = M ∨ k = (bd.add (i * 2)).block) → w3.heap[k]? = (W2.alloc (.cells #[.string s, .string t] 24)).heap[k]? := by
          intro k hk
          refine hgrow.block k ?_ (hne k hk)
          rw [World.size_alloc]
          rcases hk with rfl | rfl
          · have := H2.out.2.1; omega
          · have := H2.out.2.2; omega
        have hS3 : ProdS M (bd.add (i * 2)) (pn, pd) (qn, qd) w3 := by
          have h := hS2.below H2.out.2.1 H2.out.2.2 hba
          exact ⟨(World.cell?_of_block (hk3 _ (.inl rfl))).trans h.1, (World.cell?_of_block (hk3 _ (.inl rfl))).trans h.2.1, (World.cell?_of_block (a := bd.add (i * 2)) (hk3 _ (.inr rfl))).trans h.2.2.1, (World.cell?_of_block (a := ⟨(bd.add (i * 2)).block, (bd.add (i * 2)).off + 1, none⟩) (hk3 _ (.inr rfl))).trans h.2.2.2⟩
        have HF := Lib.hid (show OwnP w3 w.heap.size v' (r ++ [(s, t)]) ∧ Below w.heap.size w w3 from ⟨by unfold OwnP; rw [flat_snoc, List.length_append]; exact hown', hbf⟩)
        simp only [Act.put]
        refine ⟨hS3, by kernel_rfl, ?_⟩
        try simp only [List.setIfInBounds_toArray, List.set_cons_zero, List.set_cons_succ]
        clear hS hS1 hS2 hS3 hk3 hne hbf hown' hgrow hrl hwz ho hnew hba
        refine any_only 12 (by kernel_rfl) rfl (by kernel_rfl) ?_
        unfold Oper.wp
        go_simp
        refine any_done (by kernel_rfl) ?_
        go_wp2_with fail
        go_roundg (gk - 1)
        case measure => have := HI.out.1; omega
        case rel => exact ⟨i + 1, r ++ [(s, t)], by go_num, by omega, Lib.hid ⟨by have := HI.out.1; omega, by rw [HP.out.1, HE.out]; rfl, HF.out.1, HF.out.2⟩⟩
      | error x =>
        have he2 : e = thrown x := by rw [he, hE]; rfl
        subst he2
        have HE := Lib.hid (show toE (mulR (pn, pd) (qn, qd)) = .error x by rw [HR.out]; exact hE)
        have HX := Lib.hid (show prodE a b = .error x from prodE_all HC.out.2.2.2.2.1 (i := i + 1) (by rw [HP.out.1, HE.out]; rfl))
        clear he hE hS hS1 hS2
        exact ⟨rfl, by rw [HX.out]; rfl, HI.out.2.2.2.trans (H2.out.1.mono HI.out.2.2.2.size)⟩
    · obtain rfl : i = a.length := by omega
      have HE := Lib.hid (show prodE a b = .ok r by
        have := HI.out.2.1
        rwa [List.take_length, List.take_of_length_le (by have := HC.out.2.2.2.2.1; omega)] at this)
      go_wp2_with fail
      go_ret
      exact ⟨by rw [HE.out]; exact ⟨_, rfl, HI.out.2.2.1⟩, HI.out.2.2.2⟩
end Go.Proofs.CW
namespace Go.Proofs.CW
open Go.RowKit Go.Shelf Go.Sort Go.Lib Go.Proofs.YtjfclkbdkafkcaaGreatDoorW.PrintWords Go.Proofs.YtjfclkbdkafkcaaGreatDoor.PF
attribute [local go_sem] Oper.semAt_some

theorem listsR_eq (a b : List PS) : listsR a b = if checkedR [a, b] = 0 ∧ a.length ≠ b.length then 2 else checkedR [a, b] := by
  unfold listsR checkedR
  simp only [List.any_cons, List.any_nil, Bool.or_false, List.all_cons, List.all_nil, Bool.and_true, Bool.or_eq_true, decide_eq_true_eq]
  by_cases h : 512 < a.length ∨ 512 < b.length
  · rw [if_pos h, if_pos h, if_neg (by omega)]
  · rw [if_neg h, if_neg h]
    by_cases h2 : (a.all okP && b.all okP) = true
    · rw [if_pos h2, if_pos h2]
      by_cases h3 : a.length = b.length
      · rw [if_pos h3, if_neg (by omega)]
      · rw [if_neg h3, if_pos ⟨rfl, h3⟩]
    · rw [if_neg h2, if_neg h2, if_neg (by omega)]
theorem rowL_two {A B : Option Addr} {c d : Nat} {a b : List PS} {w : World} {t : TypeId} (hca : Kd.C kP w A a.length a) (hcb : Kd.C kP w B b.length b) :
    RowL (w.alloc (.cells #[.slice A a.length c, .slice B b.length d] t)) w.heap.size [a, b] := by
  have hb : Below w.heap.size w (w.alloc (.cells #[.slice A a.length c, .slice B b.length d] t)) := (Below.refl _ w).alloc (Nat.le_refl _) _
  have h := heap_alloc_new w (.cells #[.slice A a.length c, .slice B b.length d] t)
  intro i hi
  match i, hi with
  | 0, _ => exact ⟨A, c, blk_cell h 0, Kd.C_below hca hb⟩
  | 1, _ => exact ⟨B, d, blk_cell h 1, Kd.C_below hcb hb⟩
set_option maxRecDepth 100000 in
set_option maxHeartbeats 1000000 in
theorem paired_calls (A B : Option Addr) (c d : Nat) (a b : List PS) (hsa : Smalls a) (hsb : Smalls b) (hla : a.length ≤ 1000000) (hlb : b.length ≤ 1000000) (w : World) (hca : Kd.C kP w A a.length a) (hcb : Kd.C kP w B b.length b) :
    Calls Tryz.prog 72 #[.slice A a.length c, .slice B b.length d] w fun e W => e = .returned (.int .i64 (listsR a b)) ∧ Below w.heap.size w W := by
  have HC := Lib.hid (fun t => checked_calls w.heap.size [a, b] (by intro l hl; rcases List.mem_cons.1 hl with rfl | hl; exact hsa; rcases List.mem_cons.1 hl with rfl | hl; exact hsb; cases hl) (by simp) (by intro l hl; rcases List.mem_cons.1 hl with rfl | hl; omega; rcases List.mem_cons.1 hl with rfl | hl; omega; cases hl)
    (w.alloc (.cells #[.slice A a.length c, .slice B b.length d] t)) (by rw [World.size_alloc]; omega) (rowL_two hca hcb))
  have hb0 : ∀ t, Below w.heap.size w (w.alloc (.cells #[.slice A a.length c, .slice B b.length d] t)) := fun t => (Below.refl _ w).alloc (Nat.le_refl _) _
  clear hca hcb hsa hsb
  go_enter Tryz.func72, Tryz.ntmps72
  go_wp2_with fail
  refine (HC.out _).mono ?_
  rintro e W1 ⟨rfl, hb⟩
  have HB := Lib.hid ((hb0 _).trans (hb.mono (hb0 _).size))
  clear hb hb0
  obtain ⟨x, hx⟩ : ∃ x, checkedR [a, b] = x := ⟨_, rfl⟩
  rw [hx]
  obtain ⟨n, hn⟩ : ∃ n, a.length = n := ⟨_, rfl⟩
  obtain ⟨m, hm⟩ : ∃ m, b.length = m := ⟨_, rfl⟩
  rw [hn, hm]
  have HX := Lib.hid (And.intro HC.out (And.intro hx (And.intro hn hm)))
  clear HC hx hn hm hla hlb
  by_cases h0 : x = 0
  · subst h0
    by_cases hl : n = m
    · subst hl
      go_wp2_with fail
      go_ret
      exact ⟨by rw [listsR_eq, HX.out.2.1, HX.out.2.2.1, HX.out.2.2.2, if_neg (by omega)]; rfl, HB.out⟩
    · have hl2 : ¬ (n : Int) = (m : Int) := by omega
      go_wp2_with fail
      go_ret
      exact ⟨by rw [listsR_eq, HX.out.2.1, HX.out.2.2.1, HX.out.2.2.2, if_pos ⟨rfl, hl⟩]; rfl, HB.out⟩
  · go_wp2_with fail
    go_ret
    exact ⟨by rw [listsR_eq, HX.out.2.1, if_neg (by omega)]; rfl, HB.out⟩
end Go.Proofs.CW
namespace Go.Proofs.CW
open Go.RowKit Go.Shelf Go.Sort Go.Lib Go.Proofs.YtjfclkbdkafkcaaGreatDoorW.PrintWords Go.Proofs.YtjfclkbdkafkcaaGreatDoor.PF
attribute [local go_sem] Oper.semAt_some

theorem small_mkR {r : Rat} {p : PS} (h0 : 0 ≤ r) (h : toE (mkR r) = .ok p) : Small p := by
  unfold toE at h
  rcases mkR_is h0 with ⟨q, h1, h2⟩ | h1
  · rw [h1, if_pos rfl] at h; injection h with h; subst h; exact Small.of h2.ok
  · rw [h1, if_neg (by simp [no])] at h; cases h
theorem small_mul {a b p : PS} (h : toE (mulR a b) = .ok p) : Small p := by
  unfold mulR at h
  by_cases hk : (okP a && okP b) = true
  · rw [if_pos hk] at h; exact small_mkR (Rat.mul_nonneg (rat_nonneg a) (rat_nonneg b)) h
  · rw [if_neg hk] at h; unfold toE no at h; rw [if_neg (by simp)] at h; cases h
theorem smalls_prod : ∀ {a b l : List PS}, prodE a b = .ok l → Smalls l
  | [], _, l, h => by cases h; exact fun p hp => by cases hp
  | _ :: _, [], l, h => by cases h; exact fun p hp => by cases hp
  | p :: a, q :: b, l, h => by
    rw [prodE] at h
    cases h1 : toE (mulR p q) with
    | error e => rw [h1] at h; cases h
    | ok z =>
      rw [h1] at h
      cases h2 : prodE a b with
      | error e => rw [h2] at h; cases h
      | ok r =>
        rw [h2] at h
        injection h with h
        subst h
        intro x hx
        rcases List.mem_cons.1 hx with rfl | hx
        · exact small_mul h1
        · exact smalls_prod h2 x hx
theorem small_fold : ∀ {l : List PS} {s p : PS}, Small s → l.foldlM (fun s p => toE (addR s p)) s = .ok p → Small p
  | [], s, p, hs, h => by cases h; exact hs
  | x :: l, s, p, hs, h => by
    rw [List.foldlM_cons] at h
    cases h1 : toE (addR s x) with
    | error e => rw [h1] at h; cases h
    | ok z => rw [h1] at h; exact small_fold (small_add h1) h
theorem small_sum {l : List PS} {p : PS} (h : sumE l = .ok p) : Small p := small_fold (Small.of is_p0.ok) h
/-- A box with a slice of parts. -/
def SB (W : World) (g : Nat) (v : Value) : Prop := W.heap[g]? = some (.cells #[v] 34 (0, 0))
theorem SB.below {W W' : World} {g : Nat} {v : Value} (h : SB W g v) (hb : Below W.heap.size W W') : SB W' g v := (hb.block _ (Array.getElem?_eq_some_iff.1 h).1).trans h
theorem SB.cell {W : World} {g : Nat} {v : Value} (h : SB W g v) : W.cell? ⟨g, 0, none⟩ = some v ∧ W.frozen? ⟨g, 0, none⟩ = false := ⟨blk_cell h 0, blk_frozen h 0⟩
theorem SB.new (W : World) (v : Value) : SB (W.alloc (.cells #[v] 34)) W.heap.size v := heap_alloc_new W _
theorem SB.set {W : World} {g : Nat} {v : Value} (h : SB W g v) (v' : Value) : SB (W.setCell ⟨g, 0, none⟩ v') g v' := blk_set h 0 v'
theorem SB.lt {W : World} {g : Nat} {v : Value} (h : SB W g v) : g < W.heap.size := (Array.getElem?_eq_some_iff.1 h).1
theorem PB.lt {W : World} {g : Nat} {p : PS} (h : PB W g p) : g < W.heap.size := (Array.getElem?_eq_some_iff.1 h).1
theorem SB.keep {W : World} {g : Nat} {v : Value} {p : Addr} (h : SB W g v) (hp : p.block ≠ g) (x : Value) : SB (W.setCell p x) g v := (Below.heap_setCell W p x g (Ne.symm hp)).trans h
theorem PB.keep {W : World} {g : Nat} {q : PS} {p : Addr} (h : PB W g q) (hp : p.block ≠ g) (x : Value) : PB (W.setCell p x) g q := (Below.heap_setCell W p x g (Ne.symm hp)).trans h
theorem ownP_set {W : World} {base : Nat} {v : Value} {l : List PS} (h : OwnP W base v l) {p : Addr} (hp : p.block < base) (x : Value) : OwnP (W.setCell p x) base v l := by
  obtain ⟨h1, h2 | ⟨g, cap, cur, e1, e2, e3, e4⟩⟩ := h
  · exact ⟨h1, .inl h2⟩
  · exact ⟨h1, .inr ⟨g, cap, cur, e1, e2, (Below.heap_setCell W p x g (by omega)).trans e3, e4⟩⟩
theorem ownP_base {W : World} {base b : Nat} {v : Value} {l : List PS} (h : OwnP W base v l) (hb : b ≤ base) : OwnP W b v l := by
  obtain ⟨h1, h2 | ⟨g, cap, cur, e1, e2, e3, e4⟩⟩ := h
  · exact ⟨h1, .inl h2⟩
  · exact ⟨h1, .inr ⟨g, cap, cur, e1, by omega, e3, e4⟩⟩
theorem set_other {W : World} {p : Addr} {k : Nat} (x : Value) (h : k ≠ p.block) : (W.setCell p x).heap[k]? = W.heap[k]? := Below.heap_setCell W p x k h
end Go.Proofs.CW
namespace Go.Proofs.CW
open Go.RowKit Go.Shelf Go.Sort Go.Lib Go.Proofs.YtjfclkbdkafkcaaGreatDoorW.PrintWords Go.Proofs.YtjfclkbdkafkcaaGreatDoor.PF
attribute [local go_sem] Oper.semAt_some

/-- What the work of an update comes to. -/
def UpdO (w W : World) (M G : Nat) (r : Except Int (List PS × PS)) (e : Ending) : Prop :=
  (∃ l x v W0, r = .ok (l, x) ∧ e = .returned (.tuple #[]) ∧ OwnP W w.heap.size v l ∧ SB W M v ∧ PB W G x ∧ Below w.heap.size w W0 ∧ (W.os = W0.os ∧ W.tape = W0.tape ∧ W.output = W0.output ∧ W.heap.size = W0.heap.size) ∧ ∀ k, k ≠ M → k ≠ G → W.heap[k]? = W0.heap[k]?)
  ∨ (∃ x, r = .error x ∧ e = thrown x ∧ Below w.heap.size w W)
abbrev Box1S (N : Nat) (x y : Value) (W : World) : Prop := W.cell? ⟨N, 0, none⟩ = some x ∧ W.cell? ⟨N, 1, none⟩ = some y
set_option maxRecDepth 100000 in
set_option maxHeartbeats 2000000 in
theorem upd1_calls (K L M G : Nat) (A B : Option Addr) (c d : Nat) (a b : List PS) (hab : a.length = b.length) (hsa : Smalls a) (hsb : Smalls b) (hl : a.length ≤ 100000) (w : World) (ht : Tab w) (hca : Kd.C kP w A a.length a) (hcb : Kd.C kP w B b.length b)
    (hK : w.cell? ⟨K, 0, none⟩ = some (.slice A a.length c)) (hL : w.cell? ⟨L, 0, none⟩ = some (.slice B b.length d)) (v0 : Value) (q0 : PS) (hM : SB w M v0) (hG : PB w G q0) (hMG : M ≠ G) :
    Calls Tryz.prog 74 #[.pointer (some ⟨K, 0, none⟩), .pointer (some ⟨L, 0, none⟩), .pointer (some ⟨M, 0, none⟩), .pointer (some ⟨G, 0, none⟩)] w fun e W => UpdO w W M G (updE a b) e := by
  have HP := Lib.hid (products_calls A B c d a b hab hsa hsb hl w ht hca hcb)
  have HS := Lib.hid (fun A c l hsm hl W (hb : Below w.heap.size w W) hc => sum_calls A c l hsm hl W (ht.below hb) hc)
  have HH := Lib.hid (fun A c l all sa hsm hl W (hb : Below w.heap.size w W) hc => share_calls A c l all sa hsm hl W (ht.below hb) hc)
  have HC := Lib.hid (And.intro hM (And.intro hG (And.intro hMG (And.intro hab hl))))
  clear ht hca hcb hsa hsb hM hG hMG hab hl
  go_enter Tryz.func74, Tryz.ntmps74
  go_wp2_with fail
  refine HP.out.mono ?_
  rintro e W1 ⟨ho, hb⟩
  cases hE : prodE a b with
  | error x =>
    rw [hE] at ho
    have he2 : e = thrown x := ho
    subst he2
    have HX := Lib.hid (show updE a b = .error x by unfold updE; rw [hE]; rfl)
    clear hE ho
    go_wp2_with fail
    refine ⟨rfl, ?_⟩
    exact .inr ⟨x, HX.out, rfl, hb⟩
  | ok l =>
    rw [hE] at ho
    obtain ⟨v, rfl, ho⟩ := ho
    obtain ⟨A2, c2, rfl, hc2, _, _⟩ := ownP_C ho
    have hll := prodE_length _ _ HC.out.2.2.2.1 hE
    have H1 := Lib.hid (And.intro hb (And.intro hE (And.intro hc2 (And.intro hll (smalls_prod hE)))))
    clear hb hE ho hc2 hll
    go_wp2_with fail
    refine (HS.out A2 c2 l H1.out.2.2.2.2 (by have := H1.out.2.2.2.1; have := HC.out.2.2.2.2; omega) W1 H1.out.1 H1.out.2.2.1).mono ?_
    rintro e W2 ⟨he, hb⟩
    have H2 := Lib.hid (And.intro (H1.out.1.trans (hb.mono H1.out.1.size)) (Kd.C_below H1.out.2.2.1 hb))
    clear hb
    cases hE : sumE l with
    | error x =>
      have he2 : e = thrown x := by rw [he, hE]; rfl
      subst he2
      have HX := Lib.hid (show updE a b = .error x by unfold updE; rw [H1.out.2.1]; show (do let all ← sumE l; let s ← shareE l all; pure (s, all)) = _; rw [hE]; rfl)
      clear hE he
      go_wp2_with fail
      refine ⟨rfl, ?_⟩
      exact .inr ⟨x, HX.out, rfl, H2.out.1⟩
    | ok all =>
      obtain ⟨s, t⟩ := all
      have he2 : e = .returned (.agg #[.string s, .string t]) := by rw [he, hE]; rfl
      subst he2
      have H3 := Lib.hid (And.intro hE (small_sum hE))
      clear hE he
      go_wp2_with fail
      obtain ⟨N, hN⟩ : ∃ N, W2.heap.size = N := ⟨_, rfl⟩
      have h0 := PB.new W2 s t
      have hb0 : Below w.heap.size w (W2.alloc (.cells #[.string s, .string t] 24)) := H2.out.1.alloc H2.out.1.size _
      have hbb : Below W2.heap.size W2 (W2.alloc (.cells #[.string s, .string t] 24)) := (Below.refl _ _).alloc (Nat.le_refl _) _
      have hc4 := Kd.C_below H2.out.2 hbb
      rw [hN] at h0 ⊢
      obtain ⟨W3, hW3⟩ : ∃ W3, W2.alloc (.cells #[.string s, .string t] 24) = W3 := ⟨_, rfl⟩
      rw [hW3] at h0 hb0 hc4 ⊢
      have hS : Box1S N (.string s) (.string t) W3.drew := ⟨h0.cell.1, h0.cell.2.1⟩
      have H4 := Lib.hid (And.intro hb0 (And.intro h0.lt (And.intro hc4 (Nat.le_trans H2.out.1.size (Nat.le_of_eq hN)))))
      clear h0 hb0 hbb hc4 hW3
      refine region_tail (m := 5) (Box1S N (.string s) (.string t)) 5 1 (by kernel_rfl) rfl ?_
      refine T_take 0 11 (.slice A2 l.length c2) rfl rfl (by kernel_rfl) (by kernel_rfl) (by kernel_rfl) (fun _ _ d _ _ h => by cases d <;> exact h) (by kernel_rfl) tail_only hS (by kernel_rfl) (fun W hW => by obtain ⟨s1, s2⟩ := hW; go_simp) ?_
      try simp only [List.setIfInBounds_toArray, List.set_cons_zero, List.set_cons_succ]
      refine T_take 1 12 (.agg #[.string s, .string t]) rfl rfl (by kernel_rfl) (by kernel_rfl) (by kernel_rfl) (fun _ _ d _ _ h => by cases d <;> exact h) (by kernel_rfl) tail_only hS (by kernel_rfl) (fun W hW => by obtain ⟨s1, s2⟩ := hW; go_simp) ?_
      try simp only [List.setIfInBounds_toArray, List.set_cons_zero, List.set_cons_succ]
      refine T_take 3 14 (.agg #[.string s, .string t]) rfl rfl (by kernel_rfl) (by kernel_rfl) (by kernel_rfl) (fun _ _ d _ _ h => by cases d <;> exact h) (by kernel_rfl) tail_only hS (by kernel_rfl) (fun W hW => by obtain ⟨s1, s2⟩ := hW; go_simp) ?_
      try simp only [List.setIfInBounds_toArray, List.set_cons_zero, List.set_cons_succ]
      refine T_only 2 (by kernel_rfl) rfl (by kernel_rfl) ?_
      unfold Oper.wp
      go_simp
      refine (HH.out A2 c2 l (s, t) H3.out.2 H1.out.2.2.2.2 (by have := H1.out.2.2.2.1; have := HC.out.2.2.2.2; omega) W3.drew (below_drew1 H4.out.1) (Kd.C_drew H4.out.2.2.1)).mono ?_
      rintro e W4 ⟨ho, hb⟩
      cases hE : shareE l (s, t) with
      | error x =>
        rw [hE] at ho
        have he2 : e = thrown x := ho
        subst he2
        have HX := Lib.hid (show updE a b = .error x by unfold updE; rw [H1.out.2.1]; show (do let all ← sumE l; let s ← shareE l all; pure (s, all)) = _; rw [H3.out.1]; show (do let s ← shareE l (s, t); pure (s, _)) = _; rw [hE]; rfl)
        clear hE ho hS
        refine ⟨rfl, ?_⟩
        exact .inr ⟨x, HX.out, rfl, (below_drew1 H4.out.1).trans (hb.mono H4.out.1.size)⟩
      | ok r =>
        rw [hE] at ho
        obtain ⟨v, rfl, ho⟩ := ho
        have HX := Lib.hid (show updE a b = .ok (r, (s, t)) by unfold updE; rw [H1.out.2.1]; show (do let all ← sumE l; let s ← shareE l all; pure (s, all)) = _; rw [H3.out.1]; show (do let s ← shareE l (s, t); pure (s, _)) = _; rw [hE]; rfl)
        have hb4 := (below_drew1 H4.out.1).trans (hb.mono H4.out.1.size)
        have hM4 := HC.out.1.below hb4
        have hG4 := HC.out.2.1.below hb4
        have hS4 : Box1S N (.string s) (.string t) W4 := ⟨(hb.cell (p := ⟨N, 0, none⟩) H4.out.2.1).trans hS.1, (hb.cell (p := ⟨N, 1, none⟩) H4.out.2.1).trans hS.2⟩
        obtain ⟨m1, m2⟩ := hM4.cell
        have hMN : M ≠ N := by have := HC.out.1.lt; have := H4.out.2.2.2; omega
        obtain ⟨A3, c3, rfl, _, _, _⟩ := ownP_C ho
        have hS5 : Box1S N (.string s) (.string t) (W4.setCell ⟨M, 0, none⟩ (.slice A3 r.length c3)) := ⟨(World.cell?_setCell_far _ _ _ _ (by exact hMN)).trans hS4.1, (World.cell?_setCell_far _ _ _ _ (by exact hMN)).trans hS4.2⟩
        obtain ⟨g1, g2, g3, g4⟩ := (hG4.keep (p := ⟨M, 0, none⟩) HC.out.2.2.1 (.slice A3 r.length c3)).cell
        clear hE
        refine ⟨hS4, ?_⟩
        try simp only [List.setIfInBounds_toArray, List.set_cons_zero, List.set_cons_succ]
        refine T_only 4 (by kernel_rfl) rfl (by kernel_rfl) ?_
        unfold Oper.wp
        go_simp
        refine ⟨hS5, by kernel_rfl, ?_⟩
        try simp only [List.setIfInBounds_toArray, List.set_cons_zero, List.set_cons_succ]
        refine any_only 5 (by kernel_rfl) rfl (by kernel_rfl) ?_
        unfold Oper.wp
        go_simp
        refine any_done (by kernel_rfl) ?_
        go_wp2_with fail
        have hlM : M < W3.drew.heap.size := Nat.lt_of_lt_of_le HC.out.1.lt H4.out.1.size
        have hlG : G < W3.drew.heap.size := Nat.lt_of_lt_of_le HC.out.2.1.lt H4.out.1.size
        have hMG := HC.out.2.2.1
        refine bodyPost_end (results_none rfl _ _ _) rfl (.inl ⟨r, (s, t), _, W4, HX.out, rfl, ownP_base (ownP_set (p := ⟨G, 1, none⟩) (ownP_set (p := ⟨G, 0, none⟩) (ownP_set (p := ⟨M, 0, none⟩) ho hlM _) hlG _) hlG _) H4.out.1.size,
          ((hM4.set _).keep (p := ⟨G, 0, none⟩) (fun e => hMG e.symm) _).keep (p := ⟨G, 1, none⟩) (fun e => hMG e.symm) _, (hG4.keep (p := ⟨M, 0, none⟩) hMG _).set s t, hb4, ⟨rfl, rfl, rfl, by simp⟩, ?_⟩)
        intro k h1 h2
        rw [set_other (p := ⟨G, 1, none⟩) _ h2, set_other (p := ⟨G, 0, none⟩) _ h2, set_other (p := ⟨M, 0, none⟩) _ h1]
end Go.Proofs.CW
namespace Go.Proofs.CW
open Go.RowKit Go.Shelf Go.Sort Go.Lib Go.Proofs.YtjfclkbdkafkcaaGreatDoorW.PrintWords Go.Proofs.YtjfclkbdkafkcaaGreatDoor.PF
attribute [local go_sem] Oper.semAt_some

/-- The boxes of an update. -/
structure Box4 (w W : World) (N : Nat) (va vb v : Value) (q : PS) : Prop where
  bel : Below w.heap.size w W
  nw : w.heap.size = N
  sa : SB W N va
  sb : SB W (N + 1) vb
  sv : SB W (N + 2) v
  sq : PB W (N + 3) q
theorem Box4.below {w W W' : World} {N : Nat} {va vb v : Value} {q : PS} (h : Box4 w W N va vb v q) (hb : Below W.heap.size W W') : Box4 w W' N va vb v q :=
  ⟨h.bel.trans (hb.mono h.bel.size), h.nw, h.sa.below hb, h.sb.below hb, h.sv.below hb, h.sq.below hb⟩
theorem Box4.new (w : World) (va vb v : Value) (s t : ByteArray) :
    Box4 w ((((w.alloc (.cells #[va] 34)).alloc (.cells #[vb] 34)).alloc (.cells #[v] 34)).alloc (.cells #[.string s, .string t] 24)) w.heap.size va vb v (s, t) := by
  have b1 : Below w.heap.size w (w.alloc (.cells #[va] 34)) := (Below.refl _ w).alloc (Nat.le_refl _) _
  have k (W : World) (o : Obj) : Below W.heap.size W (W.alloc o) := (Below.refl _ W).alloc (Nat.le_refl _) _
  have s1 := (((SB.new w va).below (k _ (.cells #[vb] 34))).below (k _ (.cells #[v] 34))).below (k _ (.cells #[.string s, .string t] 24))
  have s2 := ((SB.new (w.alloc (.cells #[va] 34)) vb).below (k _ (.cells #[v] 34))).below (k _ (.cells #[.string s, .string t] 24))
  have s3 := (SB.new ((w.alloc (.cells #[va] 34)).alloc (.cells #[vb] 34)) v).below (k _ (.cells #[.string s, .string t] 24))
  have s4 := PB.new (((w.alloc (.cells #[va] 34)).alloc (.cells #[vb] 34)).alloc (.cells #[v] 34)) s t
  simp only [World.size_alloc] at s2 s3 s4
  exact ⟨((b1.alloc (by simp) _).alloc (by simp; omega) _).alloc (by simp; omega) _, rfl, s1, s2, s3, s4⟩
theorem SB.others {W W' : World} {g k : Nat} {v : Value} (h : SB W k v) (ho : Others g W W') (hk : k ≠ g) : SB W' k v := (ho.heap k h.lt hk).trans h
theorem PB.others {W W' : World} {g k : Nat} {p : PS} (h : PB W k p) (ho : Others g W W') (hk : k ≠ g) : PB W' k p := (ho.heap k h.lt hk).trans h
theorem ownP_others {W W' : World} {base g : Nat} {v : Value} {l : List PS} (h : OwnP W base v l) (ho : Others g W W') (hg : g < base) : OwnP W' base v l := by
  obtain ⟨h1, h2 | ⟨k, cap, cur, e1, e2, e3, e4⟩⟩ := h
  · exact ⟨h1, .inl h2⟩
  · exact ⟨h1, .inr ⟨k, cap, cur, e1, e2, (ho.heap k (Array.getElem?_eq_some_iff.1 e3).1 (by omega)).trans e3, e4⟩⟩
theorem ownP_drew {W : World} {base : Nat} {v : Value} {l : List PS} (h : OwnP W base v l) : OwnP W.drew base v l := h
/-- How an update comes back. -/
def UpdV (base : Nat) (r : List PS × PS × Int) (e : Ending) (W : World) : Prop := ∃ v, e = .returned (.tuple #[v, pv r.2.1, .int .i64 r.2.2]) ∧ OwnP W base v r.1
theorem results_upd {fn : Func} {t u s : Tmp} (hr : fn.results = #[.cell t 34, .cell u 24, .tmp s]) (tmps : Array Value) {W : World} {g k : Nat} {A : Option Addr} {n c : Nat} {p : PS} (ht : tmps.getD t undef = .pointer (some ⟨g, 0, none⟩)) (hu : tmps.getD u undef = .pointer (some ⟨k, 0, none⟩)) (h1 : SB W g (.slice A n c)) (h2 : PB W k p) :
    (results fn tmps).run Tryz.prog W = .ok (.tuple #[.slice A n c, pv p, tmps.getD s undef]) W := by
  obtain ⟨h0, h3, _, _⟩ := h2.cell
  have h4 := h1.cell.1
  have ht' : tmps[t]?.getD undef = .pointer (some ⟨g, 0, none⟩) := by simpa using ht
  have hu' : tmps[u]?.getD undef = .pointer (some ⟨k, 0, none⟩) := by simpa using hu
  simp [results, hr, go_sem, ht', hu', h0, h3, h4]
theorem upd_below {wA W W0 : World} {b M G : Nat} (hb : Below b wA W0) (hM : b ≤ M) (hG : b ≤ G) (h : W.os = W0.os ∧ W.tape = W0.tape ∧ W.output = W0.output ∧ W.heap.size = W0.heap.size) (hk : ∀ k, k ≠ M → k ≠ G → W.heap[k]? = W0.heap[k]?) : Below b wA W :=
  ⟨h.1.trans hb.os, h.2.1.trans hb.tape, h.2.2.1.trans hb.output, by rw [h.2.2.2]; exact hb.size, fun k h1 => (hk k (by omega) (by omega)).trans (hb.block k h1)⟩
/-- What the work leaves, where it ends well; where it does not. -/
def UpdOk (w : World) (B N : Nat) (a b : List PS) (W : World) : Prop := ∃ l x v, updE a b = .ok (l, x) ∧ OwnP W B v l ∧ SB W (N + 2) v ∧ PB W (N + 3) x ∧ Below w.heap.size w W
def UpdNo (w : World) (N : Nat) (a b : List PS) (x : Int) (W : World) : Prop := updE a b = .error x ∧ SB W (N + 2) (.slice none 0 0) ∧ PB W (N + 3) (⟨#[]⟩, ⟨#[]⟩) ∧ Below w.heap.size w W
set_option maxRecDepth 100000 in
set_option maxHeartbeats 1000000 in
theorem updt_calls (w W1 : World) (N : Nat) (A B : Option Addr) (c d : Nat) (a b : List PS) (hab : a.length = b.length) (hsa : Smalls a) (hsb : Smalls b) (hl : a.length ≤ 100000) (ht : Tab w) (hca : Kd.C kP w A a.length a) (hcb : Kd.C kP w B b.length b)
    (h : Box4 w W1 N (.slice A a.length c) (.slice B b.length d) (.slice none 0 0) (⟨#[]⟩, ⟨#[]⟩)) :
    Calls Tryz.prog 73 #[.func (.func 74) #[] #[.pointer (some ⟨N, 0, none⟩), .pointer (some ⟨N + 1, 0, none⟩), .pointer (some ⟨N + 2, 0, none⟩), .pointer (some ⟨N + 3, 0, none⟩)]] W1
      fun e W => ∃ W' y, e = .returned (.int .i64 y) ∧ Others W1.heap.size W' W ∧ ((y = 0 ∧ UpdOk w (W1.heap.size + 1) N a b W') ∨ UpdNo w N a b y W') := by
  refine tried_calls _ _ W1 (enters_of Tryz.func74 (by kernel_rfl) rfl) (UpdOk w (W1.heap.size + 1) N a b) (UpdNo w N a b) ?_
  have hbb : Below W1.heap.size W1 (W1.alloc (.cells #[.int .i64 0] 27)) := (Below.refl _ _).alloc (Nat.le_refl _) _
  have h2 := h.below hbb
  have hz := h.sq.lt
  have hn := h.nw
  have he := heap_alloc_new W1 (.cells #[.int .i64 0] 27)
  refine (upd1_calls N (N + 1) (N + 2) (N + 3) A B c d a b hab hsa hsb hl _ (ht.below h2.bel) (Kd.C_below hca h2.bel) (Kd.C_below hcb h2.bel) h2.sa.cell.1 h2.sb.cell.1 _ _ h2.sv h2.sq (by omega)).mono ?_
  rintro e W' (⟨l, x, v, W0, h1, rfl, ho, hM, hG, hb, hw, hk⟩ | ⟨x, h1, rfl, hb⟩)
  · have hlt : W1.heap.size < (W1.alloc (.cells #[.int .i64 0] 27)).heap.size := by rw [World.size_alloc]; omega
    refine ⟨(hk _ (by omega) (by omega)).trans ((hb.block _ hlt).trans he), .inl ⟨rfl, l, x, v, h1, by rw [World.size_alloc] at ho; exact ho, hM, hG, ?_⟩⟩
    exact h2.bel.trans (upd_below (hb.mono h2.bel.size) (by omega) (by omega) hw hk)
  · have hlt : W1.heap.size < (W1.alloc (.cells #[.int .i64 0] 27)).heap.size := by rw [World.size_alloc]; omega
    exact ⟨(hb.block _ hlt).trans he, .inr ⟨x, rfl, h1, h2.sv.below hb, h2.sq.below hb, h2.bel.trans (hb.mono h2.bel.size)⟩⟩
end Go.Proofs.CW
namespace Go.Proofs.CW
open Go.RowKit Go.Shelf Go.Sort Go.Lib Go.Proofs.YtjfclkbdkafkcaaGreatDoorW.PrintWords Go.Proofs.YtjfclkbdkafkcaaGreatDoor.PF
attribute [local go_sem] Oper.semAt_some

theorem listsR_zero {a b : List PS} (h : listsR a b = 0) : a.length = b.length ∧ a.length ≤ 512 := by
  unfold listsR at h
  by_cases h1 : 512 < a.length ∨ 512 < b.length
  · rw [if_pos h1] at h; cases h
  · rw [if_neg h1] at h
    by_cases h2 : (a.all okP && b.all okP) = true
    · rw [if_pos h2] at h
      by_cases h3 : a.length = b.length
      · exact ⟨h3, by omega⟩
      · rw [if_neg h3] at h; cases h
    · rw [if_neg h2] at h; cases h
/-- Two cells that stay. -/
abbrev BoxV (M G : Nat) (v x y : Value) (W : World) : Prop := W.cell? ⟨M, 0, none⟩ = some v ∧ W.cell? ⟨G, 0, none⟩ = some x ∧ W.cell? ⟨G, 1, none⟩ = some y
set_option maxRecDepth 100000 in
set_option maxHeartbeats 2000000 in
theorem update_calls (A B : Option Addr) (c d : Nat) (a b : List PS) (hsa : Smalls a) (hsb : Smalls b) (hla : a.length ≤ 1000000) (hlb : b.length ≤ 1000000) (w : World) (ht : Tab w) (hca : Kd.C kP w A a.length a) (hcb : Kd.C kP w B b.length b) :
    Calls Tryz.prog 24 #[.slice A a.length c, .slice B b.length d] w fun e W => UpdV w.heap.size (updR a b) e W ∧ Below w.heap.size w W := by
  have HP := Lib.hid (fun W (hb : Below w.heap.size w W) => paired_calls A B c d a b hsa hsb hla hlb W (Kd.C_below hca hb) (Kd.C_below hcb hb))
  have HT := Lib.hid (fun W1 N hab (h512 : a.length ≤ 512) h => updt_calls w W1 N A B c d a b hab hsa hsb (by omega) ht hca hcb h)
  have h4 := Box4.new w (.slice A a.length c) (.slice B b.length d) (.slice none 0 0) ⟨#[]⟩ ⟨#[]⟩
  obtain ⟨N, hN⟩ : ∃ N, w.heap.size = N := ⟨_, rfl⟩
  simp only [hN] at h4
  have HN := Lib.hid hN
  clear hca hcb hsa hsb ht hla hlb
  go_enter Tryz.func24, Tryz.ntmps24
  go_wp2_with fail
  obtain ⟨W0, hW0⟩ : ∃ W0, ((((w.alloc (.cells #[.slice A a.length c] 34)).alloc (.cells #[.slice B b.length d] 34)).alloc (.cells #[.slice none 0 0] 34)).alloc (.cells #[.string ⟨#[]⟩, .string ⟨#[]⟩] 24)) = W0 := ⟨_, rfl⟩
  rw [hW0] at h4 ⊢
  refine (HP.out W0 h4.bel).mono ?_
  rintro e W1 ⟨rfl, hb⟩
  have H4 := Lib.hid (h4.below hb)
  clear h4 hW0 hb
  obtain ⟨x, hx⟩ : ∃ x, listsR a b = x := ⟨_, rfl⟩
  rw [hx]
  have HX := Lib.hid hx
  clear hx
  have k1 : W1.cell? ⟨N + 1 + 1, 0, none⟩ = some (.slice none 0 0) := H4.out.sv.cell.1
  have k2 : W1.frozen? ⟨N + 1 + 1, 0, none⟩ = false := H4.out.sv.cell.2
  obtain ⟨k3, k4, k5, k6⟩ : W1.cell? ⟨N + 1 + 1 + 1, 0, none⟩ = some (.string ⟨#[]⟩) ∧ W1.cell? ⟨N + 1 + 1 + 1, 1, none⟩ = some (.string ⟨#[]⟩) ∧ W1.frozen? ⟨N + 1 + 1 + 1, 0, none⟩ = false ∧ W1.frozen? ⟨N + 1 + 1 + 1, 1, none⟩ = false := H4.out.sq.cell
  by_cases h0 : x = 0
  · subst h0
    have HZ := Lib.hid (listsR_zero HX.out)
    go_wp2_with fail
    refine (HT.out W1 N HZ.out.1 HZ.out.2 H4.out).mono ?_
    rintro e W2 ⟨W', y, rfl, hot, hd⟩
    have hsz := H4.out.sq.lt
    have hnw := H4.out.nw
    have hbw := H4.out.bel
    have key : ∃ A3 c3 l q, SB W2 (N + 1 + 1) (.slice A3 l.length c3) ∧ PB W2 (N + 1 + 1 + 1) q ∧ (N + 4 ≤ W1.heap.size + 1 ∧ OwnP W2 (W1.heap.size + 1) (.slice A3 l.length c3) l) ∧ Below w.heap.size w W2 ∧ updR a b = (l, q, y) := by
      rcases hd with ⟨rfl, l, q, v, h1, ho, hs, hp, hb⟩ | ⟨h1, hs, hp, hb⟩
      · obtain ⟨A3, c3, rfl, _, _, _⟩ := ownP_C ho
        exact ⟨A3, c3, l, q, hs.others hot (by omega), hp.others hot (by omega), ⟨by omega, ownP_others ho hot (by omega)⟩, below_others hb hot (by omega), by unfold updR; rw [HX.out, h1]; rfl⟩
      · exact ⟨none, 0, [], _, hs.others hot (by omega), hp.others hot (by omega), ⟨by omega, ownP_nil _ _⟩, below_others hb hot (by omega), by unfold updR; rw [HX.out, h1]; rfl⟩
    obtain ⟨A3, c3, l, q, hs, hp, ho, hb, hu⟩ := key
    obtain ⟨s, t⟩ := q
    have HU := Lib.hid (And.intro hs (And.intro hp (And.intro ho (And.intro hb hu))))
    clear hd hot hsz hbw hs hp ho hb hu
    go_wp2_with fail
    have hS : BoxV (N + 1 + 1) (N + 1 + 1 + 1) (.slice A3 l.length c3) (.string s) (.string t) W2.drew := ⟨HU.out.1.cell.1, HU.out.2.1.cell.1, HU.out.2.1.cell.2.1⟩
    have e1 : SB W2.drew (N + 1 + 1) (.slice A3 l.length c3) := HU.out.1
    have e2 : PB W2.drew (N + 1 + 1 + 1) (s, t) := HU.out.2.1
    have f1 := e1.set (.slice A3 l.length c3)
    have f2 := e2.keep (p := ⟨N + 1 + 1, 0, none⟩) (by simp) (.slice A3 l.length c3)
    have g1 := (f1.keep (p := ⟨N + 1 + 1 + 1, 0, none⟩) (by simp) (.string s)).keep (p := ⟨N + 1 + 1 + 1, 1, none⟩) (by simp) (.string t)
    have g2 := f2.set s t
    obtain ⟨W3, hW3⟩ : ∃ W3, W2.drew.setCell ⟨N + 1 + 1, 0, none⟩ (.slice A3 l.length c3) = W3 := ⟨_, rfl⟩
    obtain ⟨W4, hW4⟩ : ∃ W4, (W3.setCell ⟨N + 1 + 1 + 1, 0, none⟩ (.string s)).setCell ⟨N + 1 + 1 + 1, 1, none⟩ (.string t) = W4 := ⟨_, rfl⟩
    rw [hW3] at f1 f2 g1 g2
    rw [hW4] at g1 g2
    have hb3 : Below w.heap.size w W3 := by rw [← hW3]; exact (below_drew1 HU.out.2.2.2.1).setCell (p := ⟨N + 1 + 1, 0, none⟩) (by simp; omega) _
    have hb4 : Below w.heap.size w W4 := by rw [← hW4]; exact (hb3.setCell (p := ⟨N + 1 + 1 + 1, 0, none⟩) (by simp; omega) _).setCell (p := ⟨N + 1 + 1 + 1, 1, none⟩) (by simp; omega) _
    have k1 := f1.cell.1
    have k2 := e1.cell.2
    obtain ⟨k3, k4, k5, k6⟩ := f2.cell
    refine region_tail (m := 5) (BoxV (N + 1 + 1) (N + 1 + 1 + 1) (.slice A3 l.length c3) (.string s) (.string t)) 5 1 (by kernel_rfl) rfl ?_
    refine T_take 0 17 (.slice A3 l.length c3) rfl rfl (by kernel_rfl) (by kernel_rfl) (by kernel_rfl) (fun _ _ d _ _ h => by cases d <;> exact h) (by kernel_rfl) tail_only hS (by kernel_rfl) (fun W hW => by obtain ⟨s1, s2, s3⟩ := hW; go_simp) ?_
    try simp only [List.setIfInBounds_toArray, List.set_cons_zero, List.set_cons_succ]
    refine T_take 1 18 (.agg #[.string s, .string t]) rfl rfl (by kernel_rfl) (by kernel_rfl) (by kernel_rfl) (fun _ _ d _ _ h => by cases d <;> exact h) (by kernel_rfl) tail_only hS (by kernel_rfl) (fun W hW => by obtain ⟨s1, s2, s3⟩ := hW; go_simp) ?_
    try simp only [List.setIfInBounds_toArray, List.set_cons_zero, List.set_cons_succ]
    refine T_take 2 19 (.int .i64 y) rfl rfl (by kernel_rfl) (by kernel_rfl) (by kernel_rfl) (fun _ _ d _ _ h => by cases d <;> exact h) (by kernel_rfl) tail_only hS (by kernel_rfl) (fun W hW => by obtain ⟨s1, s2, s3⟩ := hW; go_simp) ?_
    try simp only [List.setIfInBounds_toArray, List.set_cons_zero, List.set_cons_succ]
    have j1 := hS.1
    refine T_only 3 (by kernel_rfl) rfl (by kernel_rfl) ?_
    unfold Oper.wp
    go_simp
    try rw [hW3]
    refine ⟨⟨k1, k3, k4⟩, ?_⟩
    try simp only [List.setIfInBounds_toArray, List.set_cons_zero, List.set_cons_succ]
    clear j1
    refine T_only 4 (by kernel_rfl) rfl (by kernel_rfl) ?_
    unfold Oper.wp
    go_simp
    try rw [hW4]
    refine ⟨⟨g1.cell.1, g2.cell.1, g2.cell.2.1⟩, by kernel_rfl, ?_⟩
    refine any_only 5 (by kernel_rfl) rfl (by kernel_rfl) ?_
    unfold Oper.wp
    go_simp
    refine any_done (by kernel_rfl) ?_
    have ho4 : OwnP W4 w.heap.size (.slice A3 l.length c3) l := by
      have hx := HU.out.2.2.1.1
      rw [← hW4, ← hW3]
      exact ownP_base (ownP_set (p := ⟨N + 1 + 1 + 1, 1, none⟩) (ownP_set (p := ⟨N + 1 + 1 + 1, 0, none⟩) (ownP_set (p := ⟨N + 1 + 1, 0, none⟩) (ownP_drew HU.out.2.2.1.2) (by simp; omega) _) (by simp; omega) _) (by simp; omega) _) (by omega)
    rw [hN] at hb4 ho4
    go_wp2_with fail
    refine bodyPost_ret (results_upd rfl _ rfl rfl g1 g2) rfl ⟨?_, hb4⟩
    rw [HU.out.2.2.2.2]
    exact ⟨_, rfl, ho4⟩
  · go_wp2_with fail
    have hs := ((H4.out.sv.set (.slice none 0 0)).keep (p := ⟨N + 1 + 1 + 1, 0, none⟩) (by simp) (.string ⟨#[]⟩)).keep (p := ⟨N + 1 + 1 + 1, 1, none⟩) (by simp) (.string ⟨#[]⟩)
    have hp := (H4.out.sq.keep (p := ⟨N + 1 + 1, 0, none⟩) (by simp) (.slice none 0 0)).set ⟨#[]⟩ ⟨#[]⟩
    have hnw := H4.out.nw
    have hu : updR a b = ([], (⟨#[]⟩, ⟨#[]⟩), x) := by unfold updR; rw [HX.out, if_neg h0]
    refine bodyPost_ret (results_upd rfl _ rfl rfl hs hp) rfl ⟨?_, ?_⟩
    · rw [hu]; exact ⟨_, rfl, ownP_nil _ _⟩
    · exact ((H4.out.bel.setCell (p := ⟨N + 1 + 1, 0, none⟩) (by simp; omega) _).setCell (p := ⟨N + 1 + 1 + 1, 0, none⟩) (by simp; omega) _).setCell (p := ⟨N + 1 + 1 + 1, 1, none⟩) (by simp; omega) _
end Go.Proofs.CW
namespace Go.Proofs.CW
open Go.RowKit Go.Shelf Go.Sort Go.Lib Go.Proofs.YtjfclkbdkafkcaaGreatDoorW.PrintWords Go.Proofs.YtjfclkbdkafkcaaGreatDoor.PF
attribute [local go_sem] Oper.semAt_some

theorem ratioR_neg {a b : Int} (h : a < 0 ∨ b < 0) : ratioR a b = no 11 := by unfold ratioR; rw [if_pos h]
theorem ratioR_pos {a b : Int} (h : ¬ (a < 0 ∨ b < 0)) : ratioR a b = makeR (nstr a.toNat) (nstr b.toNat) := by unfold ratioR; rw [if_neg h]
theorem nstr_small {n : Int} (h0 : 0 ≤ n) (h1 : n ≤ 9223372036854775807) : (nstr n.toNat).size ≤ 9223372036854775807 := by
  have : (decDigits n.toNat).length ≤ 19 := (decDigits_length_le (by omega)).2 (by omega)
  rw [← list_length, nstr_list]; omega
theorem rp_step {w W W' : World} {N : Nat} {p : PS} (h : PB W N p ∧ Below w.heap.size w W ∧ N < W.heap.size) (hb : Below W.heap.size W W') : PB W' N p ∧ Below w.heap.size w W' ∧ N < W'.heap.size := ⟨h.1.below hb, h.2.1.trans (hb.mono h.2.1.size), Nat.lt_of_lt_of_le h.2.2 hb.size⟩
set_option maxRecDepth 100000 in
set_option maxHeartbeats 1000000 in
theorem ratio_calls (a b : Int) (ha0 : -9223372036854775808 ≤ a) (ha : a ≤ 9223372036854775807) (hb0 : -9223372036854775808 ≤ b) (hb : b ≤ 9223372036854775807) (w : World) (ht : Tab w) :
    Calls Tryz.prog 49 #[.int .i64 a, .int .i64 b] w fun e W => e = .returned (rv (ratioR a b)) ∧ Below w.heap.size w W := by
  obtain ⟨N, hN⟩ : ∃ N, w.heap.size = N := ⟨_, rfl⟩
  have HT := Lib.hid ht
  have HO := Lib.hid (fun (n : Int) (h0 : 0 ≤ n) (h1 : n ≤ 9223372036854775807) (W : World) (hb : Below w.heap.size w W) => of_ok n h0 h1 W (ht.below hb))
  have HM := Lib.hid (fun (x y : ByteArray) hx hy (W : World) (hb : Below w.heap.size w W) => make_calls x y hx hy W (ht.below hb))
  clear ht
  go_enter Tryz.func49, Tryz.ntmps49
  go_wp2_with fail
  have h0 : PB (w.alloc (.cells #[.string ⟨#[]⟩, .string ⟨#[]⟩] 24)) N (⟨#[]⟩, ⟨#[]⟩) := by rw [← hN]; exact PB.new w _ _
  have hb0 : Below w.heap.size w (w.alloc (.cells #[.string ⟨#[]⟩, .string ⟨#[]⟩] 24)) := (Below.refl _ w).alloc (Nat.le_refl _) _
  have hz0 : N < (w.alloc (.cells #[.string ⟨#[]⟩, .string ⟨#[]⟩] 24)).heap.size := by rw [World.size_alloc]; omega
  have hnw : w.heap.size ≤ N := by omega
  obtain ⟨W0, hW0⟩ : ∃ W0, w.alloc (.cells #[.string ⟨#[]⟩, .string ⟨#[]⟩] 24) = W0 := ⟨_, rfl⟩
  rw [hW0] at h0 hb0 hz0 ⊢
  have H0 := Lib.hid (And.intro h0 (And.intro hb0 hz0))
  clear h0 hb0 hz0 hN hW0
  by_cases hna : a < 0
  · have HE := Lib.hid (ratioR_neg (a := a) (b := b) (.inl hna))
    refine (of_neg a hna _).mono ?_
    rintro e w1 ⟨rfl, hb⟩
    have H1 := Lib.hid (rp_step H0.out hb)
    clear hb hna
    go_wp2_with fail
    by_cases hnb : b < 0
    · refine (of_neg b hnb _).mono ?_
      rintro e w2 ⟨rfl, hb⟩
      have H2 := Lib.hid (rp_step H1.out hb)
      obtain ⟨q1, q2, q3, q4⟩ := H2.out.1.cell
      clear hb hnb
      go_wp2_with fail
      refine bodyPost_ret (results_pb rfl _ rfl (H2.out.1.set _ _)) rfl ⟨by rw [HE.out]; rfl, ?_⟩
      exact (H2.out.2.1.setCell (p := ⟨N, 0, none⟩) hnw _).setCell (p := ⟨N, 1, none⟩) hnw _
    · refine (HO.out b (by omega) (by omega) _ H1.out.2.1).mono ?_
      rintro e w2 ⟨rfl, hb⟩
      have H2 := Lib.hid (rp_step H1.out hb)
      obtain ⟨q1, q2, q3, q4⟩ := H2.out.1.cell
      clear hb hnb
      go_wp2_with fail
      refine bodyPost_ret (results_pb rfl _ rfl (H2.out.1.set _ _)) rfl ⟨by rw [HE.out]; rfl, ?_⟩
      exact (H2.out.2.1.setCell (p := ⟨N, 0, none⟩) hnw _).setCell (p := ⟨N, 1, none⟩) hnw _
  · refine (HO.out a (by omega) (by omega) _ H0.out.2.1).mono ?_
    rintro e w1 ⟨rfl, hb⟩
    have H1 := Lib.hid (rp_step H0.out hb)
    clear hb
    go_wp2_with fail
    by_cases hnb : b < 0
    · have HE := Lib.hid (ratioR_neg (a := a) (b := b) (.inr hnb))
      refine (of_neg b hnb _).mono ?_
      rintro e w2 ⟨rfl, hb⟩
      have H2 := Lib.hid (rp_step H1.out hb)
      obtain ⟨q1, q2, q3, q4⟩ := H2.out.1.cell
      clear hb hnb hna
      go_wp2_with fail
      refine bodyPost_ret (results_pb rfl _ rfl (H2.out.1.set _ _)) rfl ⟨by rw [HE.out]; rfl, ?_⟩
      exact (H2.out.2.1.setCell (p := ⟨N, 0, none⟩) hnw _).setCell (p := ⟨N, 1, none⟩) hnw _
    · have HE := Lib.hid (ratioR_pos (a := a) (b := b) (by omega))
      have HS := Lib.hid (And.intro (nstr_small (n := a) (by omega) (by omega)) (nstr_small (n := b) (by omega) (by omega)))
      refine (HO.out b (by omega) (by omega) _ H1.out.2.1).mono ?_
      rintro e w2 ⟨rfl, hb⟩
      have H2 := Lib.hid (rp_step H1.out hb)
      clear hb hnb hna
      go_wp2_with fail
      refine (HM.out (nstr a.toNat) (nstr b.toNat) HS.out.1 HS.out.2 w2 H2.out.2.1).mono ?_
      rintro e w3 ⟨rfl, hb⟩
      have H3 := Lib.hid (rp_step H2.out hb)
      obtain ⟨q1, q2, q3, q4⟩ := H3.out.1.cell
      clear hb
      obtain ⟨s, t, x, hR⟩ : ∃ s t x, makeR (nstr a.toNat) (nstr b.toNat) = ((s, t), x) := ⟨_, _, _, rfl⟩
      have HR := Lib.hid hR
      rw [hR]
      clear hR
      go_wp2_with fail
      refine bodyPost_ret (results_pb rfl _ rfl (H3.out.1.set _ _)) rfl ⟨by rw [HE.out, HR.out]; rfl, ?_⟩
      exact (H3.out.2.1.setCell (p := ⟨N, 0, none⟩) hnw _).setCell (p := ⟨N, 1, none⟩) hnw _
end Go.Proofs.CW
namespace Go.Proofs.CW
set_option maxRecDepth 100000
theorem al_1 : makeR ⟨#[54]⟩ ⟨#[52]⟩ = ((⟨#[51]⟩, ⟨#[50]⟩), 0) := by decide +kernel
end Go.Proofs.CW
namespace Go.Proofs.CW
open Go.RowKit Go.Shelf Go.Sort Go.Lib Go.Proofs.YtjfclkbdkafkcaaGreatDoorW.PrintWords Go.Proofs.YtjfclkbdkafkcaaGreatDoor.PF
attribute [local go_sem] Oper.semAt_some

theorem results_one {fn : Func} {t : Tmp} (hr : fn.results = #[.cell t 24]) (tmps : Array Value) {W : World} {g : Nat} {p : PS} (ht : tmps.getD t undef = .pointer (some ⟨g, 0, none⟩)) (h : PB W g p) :
    (results fn tmps).run Tryz.prog W = .ok (pv p) W := by
  obtain ⟨h0, h1, _, _⟩ := h.cell
  have ht' : tmps[t]?.getD undef = .pointer (some ⟨g, 0, none⟩) := by simpa using ht
  simp [results, hr, go_sem, ht', h0, h1]
set_option maxRecDepth 100000 in
set_option maxHeartbeats 1000000 in
theorem lawof_calls (a b : Int) (ha0 : -9223372036854775808 ≤ a) (ha : a ≤ 9223372036854775807) (hb0 : -9223372036854775808 ≤ b) (hb : b ≤ 9223372036854775807) (w : World) (ht : Tab w) :
    Calls Tryz.prog 30 #[.int .i64 a, .int .i64 b] w fun e W => e = .returned (pv (ratioR a b).1) ∧ Below w.heap.size w W := by
  have HR := Lib.hid (fun W (h : Below w.heap.size w W) => ratio_calls a b ha0 ha hb0 hb W (ht.below h))
  have hbel : Below w.heap.size w (w.alloc (.cells #[.string ⟨#[]⟩, .string ⟨#[]⟩] 24)) := (Below.refl _ w).alloc (Nat.le_refl _) _
  have h0 := PB.new w ⟨#[]⟩ ⟨#[]⟩
  obtain ⟨N, hN⟩ : ∃ N, w.heap.size = N := ⟨_, rfl⟩
  simp only [hN] at h0
  clear ht ha0 ha hb0 hb
  go_enter Tryz.func30, Tryz.ntmps30
  go_wp2_with fail
  obtain ⟨W0, hW0⟩ : ∃ W0, w.alloc (.cells #[.string ⟨#[]⟩, .string ⟨#[]⟩] 24) = W0 := ⟨_, rfl⟩
  rw [hW0] at h0 hbel ⊢
  refine (HR.out W0 hbel).mono ?_
  rintro e W1 ⟨rfl, hb⟩
  obtain ⟨s, t, x, hR⟩ : ∃ s t x, ratioR a b = ((s, t), x) := ⟨_, _, _, rfl⟩
  have HE := Lib.hid hR
  rw [hR]
  clear hR
  have h1 := h0.below hb
  have hb1 := hbel.trans (hb.mono hbel.size)
  have hb2 : Below w.heap.size w (W1.alloc (.cells #[.string s, .string t] 24)) := hb1.alloc hb1.size _
  have h2 := h1.below (show Below W1.heap.size W1 (W1.alloc (.cells #[.string s, .string t] 24)) from (Below.refl _ _).alloc (Nat.le_refl _) _)
  have hz := h1.lt
  have HH := Lib.hid (And.intro h2 (And.intro hb2 hz))
  obtain ⟨q1, q2, q3, q4⟩ := h2.cell
  clear hb hW0 h0 h1 hbel hb1 hb2 h2 hz
  go_wp2_with fail
  refine bodyPost_ret (results_one rfl _ rfl (HH.out.1.set s t)) rfl ⟨by rw [HE.out], ?_⟩
  exact (HH.out.2.1.setCell (p := ⟨N, 0, none⟩) (by simp; omega) _).setCell (p := ⟨N, 1, none⟩) (by simp; omega) _
end Go.Proofs.CW
namespace Go.Proofs.CW
open Go.RowKit Go.Shelf Go.Sort Go.Lib Go.Proofs.YtjfclkbdkafkcaaGreatDoorW.PrintWords Go.Proofs.YtjfclkbdkafkcaaGreatDoor.PF
attribute [local go_sem] Oper.semAt_some

/-- Are all strings that short? -/
def shortB (n : Int) (l : List PS) : Bool := l.all fun p => decide ((p.1.size : Int) ≤ n) && decide ((p.2.size : Int) ≤ n)
theorem shortB_no {n : Int} {l : List PS} {i : Nat} (hi : i < l.length) (h : n < (l[i].1.size : Int) ∨ n < (l[i].2.size : Int)) : shortB n l = false := by
  unfold shortB
  rw [List.all_eq_false]
  refine ⟨l[i], List.getElem_mem hi, ?_⟩
  simp only [Bool.and_eq_true, decide_eq_true_eq]
  omega
theorem shortB_yes {n : Int} {l : List PS} (h : ∀ (j : Nat) (hj : j < l.length), (l[j].1.size : Int) ≤ n ∧ (l[j].2.size : Int) ≤ n) : shortB n l = true := by
  unfold shortB
  rw [List.all_eq_true]
  intro p hp
  obtain ⟨j, hj, rfl⟩ := List.mem_iff_getElem.1 hp
  have := h j hj
  simp only [Bool.and_eq_true, decide_eq_true_eq]
  omega
set_option maxRecDepth 100000 in
set_option maxHeartbeats 2000000 in
theorem short_list (n : Int) (A : Option Addr) (c : Nat) (l : List PS) (hl : l.length ≤ 9223372036854775807) (hsm : Smalls l) (w : World) (hc : Kd.C kP w A l.length l) :
    Calls Tryz.prog 16 #[.int .i64 n, .slice A l.length c] w fun e W => e = .returned (.bool (shortB n l)) ∧ Below w.heap.size w W := by
  have HC := Lib.hid (And.intro hc (And.intro hsm hl))
  clear hc hsm hl
  go_enter Tryz.func16, Tryz.ntmps16
  go_wp2_with fail
  go_loopg [9] l.length (fun k s9 wr => ∃ i : Nat, s9 = .int .i64 i ∧ i ≤ l.length ∧ Hid (i + k = l.length ∧ (∀ (j : Nat) (hj : j < l.length), j < i → (l[j].1.size : Int) ≤ n ∧ (l[j].2.size : Int) ≤ n) ∧ Below w.heap.size w wr))
  case atStart => exact ⟨0, rfl, Nat.zero_le _, Lib.hid ⟨by simp, fun j _ h => by omega, Below.refl _ _⟩⟩
  case round =>
    obtain ⟨i, rfl, hi, HI⟩ := hrel
    by_cases hlt : i < l.length
    · have i1 : (i : Int) < (l.length : Int) := by omega
      have i00 : (0 : Int) ≤ (i : Int) := by omega
      obtain ⟨ad, e, hc1, hc2⟩ := at_P (Kd.C_below HC.out.1 HI.out.2.2) i hlt hlt
      subst e
      obtain ⟨p, hp⟩ : ∃ p, l[i] = p := ⟨_, rfl⟩
      have hs := HC.out.2.1 l[i] (List.getElem_mem hlt)
      rw [hp] at hc1 hc2 hs
      obtain ⟨s, t⟩ := p
      have HP := Lib.hid (And.intro hp hs)
      have hb0 : Below w.heap.size w (wr.alloc (.cells #[.string s, .string t] 24)) := HI.out.2.2.alloc HI.out.2.2.size _
      have HB := Lib.hid hb0
      have z1 := hs.1
      have z2 := hs.2
      clear hp hs hb0
      by_cases k1 : n < (s.size : Int)
      · go_wp2_with fail
        go_ret
        exact ⟨by rw [shortB_no hlt (.inl (by rw [HP.out.1]; exact k1))]; rfl, HB.out⟩
      · by_cases k2 : n < (t.size : Int)
        · go_wp2_with fail
          go_ret
          exact ⟨by rw [shortB_no hlt (.inr (by rw [HP.out.1]; exact k2))]; rfl, HB.out⟩
        · go_wp2_with fail
          go_roundg (gk - 1)
          case measure => have := HI.out.1; omega
          case rel =>
            have hll := HC.out.2.2
            refine ⟨i + 1, by rw [w64 (by omega) (by omega)]; congr 1, by omega, Lib.hid ⟨by have := HI.out.1; omega, fun j hj h => ?_, HB.out⟩⟩
            by_cases hji : j < i
            · exact HI.out.2.1 j hj hji
            · obtain rfl : j = i := by omega
              rw [HP.out.1]; exact ⟨by omega, by omega⟩
    · obtain rfl : i = l.length := by omega
      go_wp2_with fail
      go_ret
      exact ⟨by rw [shortB_yes (fun j hj => HI.out.2.1 j hj hj)]; rfl, HI.out.2.2⟩
end Go.Proofs.CW
namespace Go.Proofs.CW
open Go.RowKit Go.Shelf Go.Sort Go.Lib Go.Proofs.YtjfclkbdkafkcaaGreatDoorW.PrintWords Go.Proofs.YtjfclkbdkafkcaaGreatDoor.PF
attribute [local go_sem] Oper.semAt_some

theorem C_flat {W : World} {g : Nat} {l : List PS} {t : TypeId} (h : W.heap[g]? = some (.cells (flat l).toArray t (0, 0))) (hl : l.length ≤ 9223372036854775807) : Kd.C kP W (some ⟨g, 0, none⟩) l.length l := by
  refine ⟨rfl, ?_, fun _ => ⟨_, rfl, fun j p hj => ⟨[.string p.1, .string p.2], rfl, kP_mk W p, fun i u hu => ?_⟩⟩⟩
  · omega
  · obtain ⟨hlt, e⟩ := List.getElem?_eq_some_iff.1 hj
    subst e
    have hf := flat_get l j hlt
    have hcell : ∀ k x, (flat l)[k]? = some x → W.cell? ⟨g, k, none⟩ = some x := fun k x hx => by
      rw [blk_cell h]
      simpa using hx
    have hadd : ((⟨g, 0, none⟩ : Addr).add (j * 2 + i)) = ⟨g, j * 2 + i, none⟩ := by simp [Addr.add]; omega
    rw [show kP.sz = 2 from rfl, hadd]
    match i, hu with
    | 0, hu => simp at hu; subst hu; exact hcell _ _ hf.1
    | 1, hu => simp at hu; subst hu; exact hcell _ _ hf.2
theorem own_at {W : World} {base : Nat} {v : Value} {l : List PS} (h : OwnP W base v l) (hl : l ≠ []) : ∃ g c, v = .slice (some ⟨g, 0, none⟩) l.length c ∧ Kd.C kP W (some ⟨g, 0, none⟩) l.length l := by
  have h2 := ownP_C h
  obtain ⟨h1, ⟨rfl, h3⟩ | ⟨g, cap, cur, rfl, e2, e3, e4⟩⟩ := h
  · exact absurd (List.length_eq_zero_iff.1 h3) hl
  · obtain ⟨A, c, e, hc, _, _⟩ := h2
    injection e with e5 e6 e7
    subst e5
    exact ⟨g, cap, rfl, hc⟩
/-- What the last look at the examples reads. -/
abbrev AlS (g N : Nat) (W : World) : Prop := W.cell? ⟨g, 0, none⟩ = some (.string ⟨#[49]⟩) ∧ W.cell? ⟨g, 1, none⟩ = some (.string ⟨#[52]⟩) ∧ W.cell? ⟨g, 2, none⟩ = some (.string ⟨#[51]⟩) ∧ W.cell? ⟨g, 3, none⟩ = some (.string ⟨#[52]⟩) ∧
  W.cell? ⟨N, 0, none⟩ = some (.string ⟨#[49]⟩) ∧ W.cell? ⟨N, 1, none⟩ = some (.string ⟨#[50]⟩)
theorem AlS.below {a N : Nat} {W W' : World} (h : AlS a N W) (hb : Below W.heap.size W W') : AlS a N W' :=
  ⟨(hb.cell (cell_lt h.1)).trans h.1, (hb.cell (cell_lt h.2.1)).trans h.2.1, (hb.cell (cell_lt h.2.2.1)).trans h.2.2.1, (hb.cell (cell_lt h.2.2.2.1)).trans h.2.2.2.1, (hb.cell (cell_lt h.2.2.2.2.1)).trans h.2.2.2.2.1, (hb.cell (cell_lt h.2.2.2.2.2)).trans h.2.2.2.2.2⟩
def p12 : PS := (⟨#[49]⟩, ⟨#[50]⟩)
def p13 : PS := (⟨#[49]⟩, ⟨#[51]⟩)
def p14 : PS := (⟨#[49]⟩, ⟨#[52]⟩)
def p34 : PS := (⟨#[51]⟩, ⟨#[52]⟩)
theorem al_p : okP p12 = true ∧ okP p13 = true ∧ okP p14 = true ∧ okP p34 = true := by decide +kernel
theorem al_add : addR p12 p13 = ((⟨#[53]⟩, ⟨#[54]⟩), 0) := by decide +kernel
theorem al_13 : (ratioR 1 3).1 = p13 := by decide +kernel
theorem al_12 : (ratioR 1 2).1 = p12 := by decide +kernel
theorem al_14 : (ratioR 1 4).1 = p14 := by decide +kernel
theorem al_34 : (ratioR 3 4).1 = p34 := by decide +kernel
theorem al_upd : updR [p12, p12] [p14, p34] = ([p14, p34], p12, 0) := by decide +kernel
theorem box_step {w W : World} (hb : Below w.heap.size w W) (s t : ByteArray) : Below w.heap.size w (W.alloc (.cells #[.string s, .string t] 24)) ∧ PB (W.alloc (.cells #[.string s, .string t] 24)) W.heap.size (s, t) ∧ Below W.heap.size W (W.alloc (.cells #[.string s, .string t] 24)) :=
  ⟨hb.alloc hb.size _, PB.new W s t, (Below.refl _ W).alloc (Nat.le_refl _) _⟩
theorem row_step {w W : World} (hb : Below w.heap.size w W) (l : List PS) (t : TypeId) (hl : l.length ≤ 9223372036854775807) : Below w.heap.size w (W.alloc (.cells (flat l).toArray t)) ∧ Kd.C kP (W.alloc (.cells (flat l).toArray t)) (some ⟨W.heap.size, 0, none⟩) l.length l ∧ Below W.heap.size W (W.alloc (.cells (flat l).toArray t)) :=
  ⟨hb.alloc hb.size _, C_flat (heap_alloc_new W _) hl, (Below.refl _ W).alloc (Nat.le_refl _) _⟩
set_option maxRecDepth 100000 in
set_option maxHeartbeats 2000000 in
theorem alive_calls (w : World) (ht : Tab w) : Calls Tryz.prog 17 #[] w fun e W => e = .returned (.bool true) ∧ Below w.heap.size w W := by
  have HM := Lib.hid (make_calls ⟨#[54]⟩ ⟨#[52]⟩ (by decide) (by decide) w ht)
  rw [al_1] at HM
  have H12 := Lib.hid (fun W (hb : Below w.heap.size w W) => al_12 ▸ lawof_calls 1 2 (by omega) (by omega) (by omega) (by omega) W (ht.below hb))
  have H13 := Lib.hid (fun W (hb : Below w.heap.size w W) => al_13 ▸ lawof_calls 1 3 (by omega) (by omega) (by omega) (by omega) W (ht.below hb))
  have H14 := Lib.hid (fun W (hb : Below w.heap.size w W) => al_14 ▸ lawof_calls 1 4 (by omega) (by omega) (by omega) (by omega) W (ht.below hb))
  have H34 := Lib.hid (fun W (hb : Below w.heap.size w W) => al_34 ▸ lawof_calls 3 4 (by omega) (by omega) (by omega) (by omega) W (ht.below hb))
  have HA := Lib.hid (fun W (hb : Below w.heap.size w W) => al_add ▸ add_calls p12 p13 (Small.of al_p.1) (Small.of al_p.2.1) W (ht.below hb))
  have HU : Hid (∀ A B c d W, Below w.heap.size w W → Kd.C kP W A 2 [p12, p12] → Kd.C kP W B 2 [p14, p34] → Calls Tryz.prog 24 #[.slice A 2 c, .slice B 2 d] W fun e W' => (∃ v, e = .returned (.tuple #[v, .agg #[.string ⟨#[49]⟩, .string ⟨#[50]⟩], .int .i64 0]) ∧ OwnP W' W.heap.size v [p14, p34]) ∧ Below W.heap.size W W') :=
    Lib.hid (fun A B c d W (hb : Below w.heap.size w W) h1 h2 => by
      have h := update_calls A B c d [p12, p12] [p14, p34] (by intro p hp; simp at hp; subst hp; exact Small.of al_p.1) (by intro p hp; simp at hp; rcases hp with rfl | rfl; exact Small.of al_p.2.2.1; exact Small.of al_p.2.2.2) (by simp) (by simp) W (ht.below hb) h1 h2
      rw [al_upd] at h
      exact h)
  clear ht
  go_enter Tryz.func17, Tryz.ntmps17
  go_wp2_with fail
  refine HM.out.mono ?_
  rintro e W1 ⟨rfl, hb⟩
  obtain ⟨g1, g2, _⟩ := box_step hb ⟨#[51]⟩ ⟨#[50]⟩
  clear hb
  go_wp2_with fail
  obtain ⟨N1, hN1⟩ : ∃ N, W1.heap.size = N := ⟨_, rfl⟩
  obtain ⟨V1, hV1⟩ : ∃ V, W1.alloc (.cells #[.string ⟨#[51]⟩, .string ⟨#[50]⟩] 24) = V := ⟨_, rfl⟩
  rw [hV1, hN1] at g2
  rw [hV1] at g1 ⊢
  refine (H12.out V1 g1).mono ?_
  rintro e W2 ⟨rfl, hb⟩
  have g3 := g1.trans (hb.mono g1.size)
  have g4 := g2.below hb
  clear g1 g2 hb hV1
  unfold pv p12
  go_wp2_with fail
  refine (H13.out W2 g3).mono ?_
  rintro e W3 ⟨rfl, hb⟩
  have g1 := g3.trans (hb.mono g3.size)
  have g2 := g4.below hb
  clear g3 g4 hb
  unfold pv p13
  go_wp2_with fail
  refine (HA.out W3 g1).mono ?_
  rintro e W4 ⟨rfl, hb⟩
  have g3 := g1.trans (hb.mono g1.size)
  have g4 := g2.below hb
  obtain ⟨k1, k2, k3⟩ := box_step g3 ⟨#[53]⟩ ⟨#[54]⟩
  have g5 := g4.below k3
  clear g1 g2 g3 g4 hb k3
  unfold rv pv
  go_wp2_with fail
  obtain ⟨N2, hN2⟩ : ∃ N, W4.heap.size = N := ⟨_, rfl⟩
  obtain ⟨V2, hV2⟩ : ∃ V, W4.alloc (.cells #[.string ⟨#[53]⟩, .string ⟨#[54]⟩] 24) = V := ⟨_, rfl⟩
  rw [hV2] at g5 k1 ⊢
  rw [hV2, hN2] at k2
  refine (H12.out V2 k1).mono ?_
  rintro e W5 ⟨rfl, hb⟩
  have g1 := k1.trans (hb.mono k1.size)
  have g2 := g5.below hb
  have g3 := k2.below hb
  clear k1 g5 k2 hb hV2
  unfold pv p12
  go_wp2_with fail
  refine (H12.out W5 g1).mono ?_
  rintro e W6 ⟨rfl, hb⟩
  have g4 := g1.trans (hb.mono g1.size)
  have g5 := g2.below hb
  have g6 := g3.below hb
  clear g1 g2 g3 hb
  obtain ⟨j1, j2, j3⟩ := row_step g4 [p12, p12] 24 (by simp)
  have g7 := g5.below j3
  have g8 := g6.below j3
  clear g4 g5 g6 j3
  unfold pv p12
  go_wp2_with fail
  obtain ⟨N3, hN3⟩ : ∃ N, W6.heap.size = N := ⟨_, rfl⟩
  obtain ⟨V3, hV3⟩ : ∃ V, W6.alloc (.cells #[.string ⟨#[49]⟩, .string ⟨#[50]⟩, .string ⟨#[49]⟩, .string ⟨#[50]⟩] 24) = V := ⟨_, rfl⟩
  have hV3' : W6.alloc (.cells (flat [p12, p12]).toArray 24) = V3 := hV3
  rw [hV3'] at j1 j2 g7 g8
  rw [hN3] at j2
  rw [hV3]
  refine (H14.out V3 j1).mono ?_
  rintro e W7 ⟨rfl, hb⟩
  have g1 := j1.trans (hb.mono j1.size)
  have g2 := g7.below hb
  have g3 := g8.below hb
  have g4 := Kd.C_below j2 hb
  clear j1 j2 g7 g8 hb hV3 hV3'
  unfold pv p14
  go_wp2_with fail
  refine (H34.out W7 g1).mono ?_
  rintro e W8 ⟨rfl, hb⟩
  have g5 := g1.trans (hb.mono g1.size)
  have g6 := g2.below hb
  have g7 := g3.below hb
  have g8 := Kd.C_below g4 hb
  clear g1 g2 g3 g4 hb
  obtain ⟨j1, j2, j3⟩ := row_step g5 [p14, p34] 24 (by simp)
  have g1 := g6.below j3
  have g2 := g7.below j3
  have g3 := Kd.C_below g8 j3
  clear g5 g6 g7 g8 j3
  unfold pv p34
  go_wp2_with fail
  obtain ⟨N4, hN4⟩ : ∃ N, W8.heap.size = N := ⟨_, rfl⟩
  obtain ⟨V4, hV4⟩ : ∃ V, W8.alloc (.cells #[.string ⟨#[49]⟩, .string ⟨#[52]⟩, .string ⟨#[51]⟩, .string ⟨#[52]⟩] 24) = V := ⟨_, rfl⟩
  have hV4' : W8.alloc (.cells (flat [p14, p34]).toArray 24) = V4 := hV4
  rw [hV4'] at j1 j2 g1 g2 g3
  rw [hN4] at j2
  rw [hV4, hN4]
  refine (HU.out _ _ _ _ V4 j1 g3 j2).mono ?_
  rintro e W9 ⟨⟨v, rfl, ho⟩, hb⟩
  obtain ⟨a3, c3, rfl, hc⟩ := own_at ho (by simp)
  have g4 := j1.trans (hb.mono j1.size)
  have g5 := g1.below hb
  have g6 := g2.below hb
  clear g1 g2 g3 j1 j2 hb hV4 hV4' ho
  obtain ⟨j1, j2, j3⟩ := box_step g4 ⟨#[49]⟩ ⟨#[50]⟩
  have g1 := g5.below j3
  have g2 := g6.below j3
  have g3 := Kd.C_below hc j3
  clear g4 g5 g6 hc j3
  rw [show [p14, p34].length = 2 from rfl]
  obtain ⟨_, e3, d1, d2⟩ := at_P g3 0 (by simp) (by simp)
  injection e3 with e3
  subst e3
  obtain ⟨_, e4, d3, d4⟩ := at_P g3 1 (by simp) (by simp)
  injection e4 with e4
  subst e4
  obtain ⟨q1, q2, _, _⟩ := g1.cell
  obtain ⟨q3, q4, _, _⟩ := g2.cell
  obtain ⟨q5, q6, _, _⟩ := j2.cell
  have HZ := Lib.hid j1
  have hS : AlS a3 W9.heap.size (W9.alloc (.cells #[.string ⟨#[49]⟩, .string ⟨#[50]⟩] 24)) := ⟨d1, d2, d3, d4, q5, q6⟩
  clear g1 g2 g3 j1 j2 d1 d2 d3 d4 q5 q6
  go_wp2_with fail
  obtain ⟨N5, hN5⟩ : ∃ N, W9.heap.size = N := ⟨_, rfl⟩
  obtain ⟨X0, hX0⟩ : ∃ V, W9.alloc (.cells #[.string ⟨#[49]⟩, .string ⟨#[50]⟩] 24) = V := ⟨_, rfl⟩
  rw [hX0, hN5] at hS
  rw [hX0] at HZ
  rw [hX0, hN5]
  have hS0 : AlS a3 N5 X0.drew := hS
  have B0 := Lib.hid (below_drew1 HZ.out)
  clear hS q1 q2 q3 q4 hX0 hN5
  obtain ⟨Y0, hY0⟩ : ∃ V, X0.drew = V := ⟨_, rfl⟩
  refine region_tail (m := 34) (AlS a3 N5) 34 1 (by kernel_rfl) rfl ?_
  rw [hY0] at hS0 B0 ⊢
  clear hY0 HZ
  refine T_take 0 46 (.bool true) rfl rfl (by kernel_rfl) (by kernel_rfl) (by kernel_rfl) (fun _ _ d _ _ h => by cases d <;> exact h) (by kernel_rfl) tail_only hS0 (by kernel_rfl) (fun W hW => by obtain ⟨s1, s2, s3, s4, s5, s6⟩ := hW; go_simp) ?_
  try simp only [List.setIfInBounds_toArray, List.set_cons_zero, List.set_cons_succ]
  refine T_take 1 47 (.bool true) rfl rfl (by kernel_rfl) (by kernel_rfl) (by kernel_rfl) (fun _ _ d _ _ h => by cases d <;> exact h) (by kernel_rfl) tail_only hS0 (by kernel_rfl) (fun W hW => by obtain ⟨s1, s2, s3, s4, s5, s6⟩ := hW; go_simp) ?_
  try simp only [List.setIfInBounds_toArray, List.set_cons_zero, List.set_cons_succ]
  refine T_take 2 48 (.int .i64 0) rfl rfl (by kernel_rfl) (by kernel_rfl) (by kernel_rfl) (fun _ _ d _ _ h => by cases d <;> exact h) (by kernel_rfl) tail_only hS0 (by kernel_rfl) (fun W hW => by obtain ⟨s1, s2, s3, s4, s5, s6⟩ := hW; go_simp) ?_
  try simp only [List.setIfInBounds_toArray, List.set_cons_zero, List.set_cons_succ]
  refine T_take 3 49 (.bool true) rfl rfl (by kernel_rfl) (by kernel_rfl) (by kernel_rfl) (fun _ _ d _ _ h => by cases d <;> exact h) (by kernel_rfl) tail_only hS0 (by kernel_rfl) (fun W hW => by obtain ⟨s1, s2, s3, s4, s5, s6⟩ := hW; go_simp) ?_
  try simp only [List.setIfInBounds_toArray, List.set_cons_zero, List.set_cons_succ]
  refine T_take 4 50 (.bool true) rfl rfl (by kernel_rfl) (by kernel_rfl) (by kernel_rfl) (fun _ _ d _ _ h => by cases d <;> exact h) (by kernel_rfl) tail_only hS0 (by kernel_rfl) (fun W hW => by obtain ⟨s1, s2, s3, s4, s5, s6⟩ := hW; go_simp) ?_
  try simp only [List.setIfInBounds_toArray, List.set_cons_zero, List.set_cons_succ]
  refine T_take 5 51 (.bool true) rfl rfl (by kernel_rfl) (by kernel_rfl) (by kernel_rfl) (fun _ _ d _ _ h => by cases d <;> exact h) (by kernel_rfl) tail_only hS0 (by kernel_rfl) (fun W hW => by obtain ⟨s1, s2, s3, s4, s5, s6⟩ := hW; go_simp) ?_
  try simp only [List.setIfInBounds_toArray, List.set_cons_zero, List.set_cons_succ]
  refine T_take 6 52 (.slice (some ⟨a3, 0, none⟩) 2 c3) rfl rfl (by kernel_rfl) (by kernel_rfl) (by kernel_rfl) (fun _ _ d _ _ h => by cases d <;> exact h) (by kernel_rfl) tail_only hS0 (by kernel_rfl) (fun W hW => by obtain ⟨s1, s2, s3, s4, s5, s6⟩ := hW; go_simp) ?_
  try simp only [List.setIfInBounds_toArray, List.set_cons_zero, List.set_cons_succ]
  refine T_take 7 53 (.int .i64 2) rfl rfl (by kernel_rfl) (by kernel_rfl) (by kernel_rfl) (fun _ _ d _ _ h => by cases d <;> exact h) (by kernel_rfl) tail_only hS0 (by kernel_rfl) (fun W hW => by obtain ⟨s1, s2, s3, s4, s5, s6⟩ := hW; go_simp) ?_
  try simp only [List.setIfInBounds_toArray, List.set_cons_zero, List.set_cons_succ]
  refine T_take 8 54 (.bool true) rfl rfl (by kernel_rfl) (by kernel_rfl) (by kernel_rfl) (fun _ _ d _ _ h => by cases d <;> exact h) (by kernel_rfl) tail_only hS0 (by kernel_rfl) (fun W hW => by obtain ⟨s1, s2, s3, s4, s5, s6⟩ := hW; go_simp) ?_
  try simp only [List.setIfInBounds_toArray, List.set_cons_zero, List.set_cons_succ]
  refine T_take 9 55 (.bool true) rfl rfl (by kernel_rfl) (by kernel_rfl) (by kernel_rfl) (fun _ _ d _ _ h => by cases d <;> exact h) (by kernel_rfl) tail_only hS0 (by kernel_rfl) (fun W hW => by obtain ⟨s1, s2, s3, s4, s5, s6⟩ := hW; go_simp) ?_
  try simp only [List.setIfInBounds_toArray, List.set_cons_zero, List.set_cons_succ]
  refine T_take 10 56 (.bool true) rfl rfl (by kernel_rfl) (by kernel_rfl) (by kernel_rfl) (fun _ _ d _ _ h => by cases d <;> exact h) (by kernel_rfl) tail_only hS0 (by kernel_rfl) (fun W hW => by obtain ⟨s1, s2, s3, s4, s5, s6⟩ := hW; go_simp) ?_
  try simp only [List.setIfInBounds_toArray, List.set_cons_zero, List.set_cons_succ]
  refine T_take 11 57 (.slice (some ⟨a3, 0, none⟩) 2 c3) rfl rfl (by kernel_rfl) (by kernel_rfl) (by kernel_rfl) (fun _ _ d _ _ h => by cases d <;> exact h) (by kernel_rfl) tail_only hS0 (by kernel_rfl) (fun W hW => by obtain ⟨s1, s2, s3, s4, s5, s6⟩ := hW; go_simp) ?_
  try simp only [List.setIfInBounds_toArray, List.set_cons_zero, List.set_cons_succ]
  refine T_take 12 58 (.pointer (some ⟨a3, 0, none⟩)) rfl rfl (by kernel_rfl) (by kernel_rfl) (by kernel_rfl) (fun _ _ d _ _ h => by cases d <;> exact h) (by kernel_rfl) tail_only hS0 (by kernel_rfl) (fun W hW => by obtain ⟨s1, s2, s3, s4, s5, s6⟩ := hW; go_simp) ?_
  try simp only [List.setIfInBounds_toArray, List.set_cons_zero, List.set_cons_succ]
  refine T_take 13 59 (.agg #[.string ⟨#[49]⟩, .string ⟨#[52]⟩]) rfl rfl (by kernel_rfl) (by kernel_rfl) (by kernel_rfl) (fun _ _ d _ _ h => by cases d <;> exact h) (by kernel_rfl) tail_only hS0 (by kernel_rfl) (fun W hW => by obtain ⟨s1, s2, s3, s4, s5, s6⟩ := hW; go_simp) ?_
  try simp only [List.setIfInBounds_toArray, List.set_cons_zero, List.set_cons_succ]
  refine T_only 14 (by kernel_rfl) rfl (by kernel_rfl) ?_
  unfold Oper.wp
  go_simp
  refine (H14.out Y0 B0.out).mono ?_
  rintro e Y1 ⟨rfl, hb⟩
  have hS1 := hS0.below hb
  have B1 := Lib.hid (B0.out.trans (hb.mono B0.out.size))
  clear hb hS0 B0
  unfold pv p14
  refine ⟨hS1, ?_⟩
  try simp only [List.setIfInBounds_toArray, List.set_cons_zero, List.set_cons_succ]
  refine T_take 15 61 (.bool true) rfl rfl (by kernel_rfl) (by kernel_rfl) (by kernel_rfl) (fun _ _ d _ _ h => by cases d <;> exact h) (by kernel_rfl) tail_only hS1 (by kernel_rfl) (fun W hW => by obtain ⟨s1, s2, s3, s4, s5, s6⟩ := hW; go_simp) ?_
  try simp only [List.setIfInBounds_toArray, List.set_cons_zero, List.set_cons_succ]
  refine T_take 16 62 (.bool true) rfl rfl (by kernel_rfl) (by kernel_rfl) (by kernel_rfl) (fun _ _ d _ _ h => by cases d <;> exact h) (by kernel_rfl) tail_only hS1 (by kernel_rfl) (fun W hW => by obtain ⟨s1, s2, s3, s4, s5, s6⟩ := hW; go_simp) ?_
  try simp only [List.setIfInBounds_toArray, List.set_cons_zero, List.set_cons_succ]
  refine T_take 17 63 (.bool true) rfl rfl (by kernel_rfl) (by kernel_rfl) (by kernel_rfl) (fun _ _ d _ _ h => by cases d <;> exact h) (by kernel_rfl) tail_only hS1 (by kernel_rfl) (fun W hW => by obtain ⟨s1, s2, s3, s4, s5, s6⟩ := hW; go_simp) ?_
  try simp only [List.setIfInBounds_toArray, List.set_cons_zero, List.set_cons_succ]
  refine T_take 18 64 (.slice (some ⟨a3, 0, none⟩) 2 c3) rfl rfl (by kernel_rfl) (by kernel_rfl) (by kernel_rfl) (fun _ _ d _ _ h => by cases d <;> exact h) (by kernel_rfl) tail_only hS1 (by kernel_rfl) (fun W hW => by obtain ⟨s1, s2, s3, s4, s5, s6⟩ := hW; go_simp) ?_
  try simp only [List.setIfInBounds_toArray, List.set_cons_zero, List.set_cons_succ]
  refine T_take 19 65 (.pointer (some ⟨a3, 2, none⟩)) rfl rfl (by kernel_rfl) (by kernel_rfl) (by kernel_rfl) (fun _ _ d _ _ h => by cases d <;> exact h) (by kernel_rfl) tail_only hS1 (by kernel_rfl) (fun W hW => by obtain ⟨s1, s2, s3, s4, s5, s6⟩ := hW; go_simp) ?_
  try simp only [List.setIfInBounds_toArray, List.set_cons_zero, List.set_cons_succ]
  refine T_take 20 66 (.agg #[.string ⟨#[51]⟩, .string ⟨#[52]⟩]) rfl rfl (by kernel_rfl) (by kernel_rfl) (by kernel_rfl) (fun _ _ d _ _ h => by cases d <;> exact h) (by kernel_rfl) tail_only hS1 (by kernel_rfl) (fun W hW => by obtain ⟨s1, s2, s3, s4, s5, s6⟩ := hW; go_simp) ?_
  try simp only [List.setIfInBounds_toArray, List.set_cons_zero, List.set_cons_succ]
  refine T_only 21 (by kernel_rfl) rfl (by kernel_rfl) ?_
  unfold Oper.wp
  go_simp
  refine (H34.out Y1 B1.out).mono ?_
  rintro e Y2 ⟨rfl, hb⟩
  have hS2 := hS1.below hb
  have B2 := Lib.hid (B1.out.trans (hb.mono B1.out.size))
  clear hb hS1 B1
  unfold pv p34
  refine ⟨hS2, ?_⟩
  try simp only [List.setIfInBounds_toArray, List.set_cons_zero, List.set_cons_succ]
  refine T_take 22 68 (.bool true) rfl rfl (by kernel_rfl) (by kernel_rfl) (by kernel_rfl) (fun _ _ d _ _ h => by cases d <;> exact h) (by kernel_rfl) tail_only hS2 (by kernel_rfl) (fun W hW => by obtain ⟨s1, s2, s3, s4, s5, s6⟩ := hW; go_simp) ?_
  try simp only [List.setIfInBounds_toArray, List.set_cons_zero, List.set_cons_succ]
  refine T_take 23 69 (.bool true) rfl rfl (by kernel_rfl) (by kernel_rfl) (by kernel_rfl) (fun _ _ d _ _ h => by cases d <;> exact h) (by kernel_rfl) tail_only hS2 (by kernel_rfl) (fun W hW => by obtain ⟨s1, s2, s3, s4, s5, s6⟩ := hW; go_simp) ?_
  try simp only [List.setIfInBounds_toArray, List.set_cons_zero, List.set_cons_succ]
  refine T_take 24 70 (.bool true) rfl rfl (by kernel_rfl) (by kernel_rfl) (by kernel_rfl) (fun _ _ d _ _ h => by cases d <;> exact h) (by kernel_rfl) tail_only hS2 (by kernel_rfl) (fun W hW => by obtain ⟨s1, s2, s3, s4, s5, s6⟩ := hW; go_simp) ?_
  try simp only [List.setIfInBounds_toArray, List.set_cons_zero, List.set_cons_succ]
  refine T_take 25 71 (.agg #[.string ⟨#[49]⟩, .string ⟨#[50]⟩]) rfl rfl (by kernel_rfl) (by kernel_rfl) (by kernel_rfl) (fun _ _ d _ _ h => by cases d <;> exact h) (by kernel_rfl) tail_only hS2 (by kernel_rfl) (fun W hW => by obtain ⟨s1, s2, s3, s4, s5, s6⟩ := hW; go_simp) ?_
  try simp only [List.setIfInBounds_toArray, List.set_cons_zero, List.set_cons_succ]
  refine T_only 26 (by kernel_rfl) rfl (by kernel_rfl) ?_
  unfold Oper.wp
  go_simp
  refine (H12.out Y2 B2.out).mono ?_
  rintro e Y3 ⟨rfl, hb⟩
  have hS3 := hS2.below hb
  have B3 := Lib.hid (B2.out.trans (hb.mono B2.out.size))
  clear hb hS2 B2
  unfold pv p12
  refine ⟨hS3, ?_⟩
  try simp only [List.setIfInBounds_toArray, List.set_cons_zero, List.set_cons_succ]
  refine T_take 27 73 (.bool true) rfl rfl (by kernel_rfl) (by kernel_rfl) (by kernel_rfl) (fun _ _ d _ _ h => by cases d <;> exact h) (by kernel_rfl) tail_only hS3 (by kernel_rfl) (fun W hW => by obtain ⟨s1, s2, s3, s4, s5, s6⟩ := hW; go_simp) ?_
  try simp only [List.setIfInBounds_toArray, List.set_cons_zero, List.set_cons_succ]
  refine T_take 28 74 (.bool true) rfl rfl (by kernel_rfl) (by kernel_rfl) (by kernel_rfl) (fun _ _ d _ _ h => by cases d <;> exact h) (by kernel_rfl) tail_only hS3 (by kernel_rfl) (fun W hW => by obtain ⟨s1, s2, s3, s4, s5, s6⟩ := hW; go_simp) ?_
  try simp only [List.setIfInBounds_toArray, List.set_cons_zero, List.set_cons_succ]
  refine T_take 29 75 (.bool true) rfl rfl (by kernel_rfl) (by kernel_rfl) (by kernel_rfl) (fun _ _ d _ _ h => by cases d <;> exact h) (by kernel_rfl) tail_only hS3 (by kernel_rfl) (fun W hW => by obtain ⟨s1, s2, s3, s4, s5, s6⟩ := hW; go_simp) ?_
  try simp only [List.setIfInBounds_toArray, List.set_cons_zero, List.set_cons_succ]
  refine T_take 30 76 (.pointer (some ⟨N5, 1, none⟩)) rfl rfl (by kernel_rfl) (by kernel_rfl) (by kernel_rfl) (fun _ _ d _ _ h => by cases d <;> exact h) (by kernel_rfl) tail_only hS3 (by kernel_rfl) (fun W hW => by obtain ⟨s1, s2, s3, s4, s5, s6⟩ := hW; go_simp) ?_
  try simp only [List.setIfInBounds_toArray, List.set_cons_zero, List.set_cons_succ]
  refine T_take 31 77 (.string ⟨#[50]⟩) rfl rfl (by kernel_rfl) (by kernel_rfl) (by kernel_rfl) (fun _ _ d _ _ h => by cases d <;> exact h) (by kernel_rfl) tail_only hS3 (by kernel_rfl) (fun W hW => by obtain ⟨s1, s2, s3, s4, s5, s6⟩ := hW; go_simp) ?_
  try simp only [List.setIfInBounds_toArray, List.set_cons_zero, List.set_cons_succ]
  refine T_take 32 78 (.bool true) rfl rfl (by kernel_rfl) (by kernel_rfl) (by kernel_rfl) (fun _ _ d _ _ h => by cases d <;> exact h) (by kernel_rfl) tail_only hS3 (by kernel_rfl) (fun W hW => by obtain ⟨s1, s2, s3, s4, s5, s6⟩ := hW; go_simp) ?_
  try simp only [List.setIfInBounds_toArray, List.set_cons_zero, List.set_cons_succ]
  refine T_take 33 79 (.bool true) rfl rfl (by kernel_rfl) (by kernel_rfl) (by kernel_rfl) (fun _ _ d _ _ h => by cases d <;> exact h) (by kernel_rfl) tail_only hS3 (by kernel_rfl) (fun W hW => by obtain ⟨s1, s2, s3, s4, s5, s6⟩ := hW; go_simp) ?_
  try simp only [List.setIfInBounds_toArray, List.set_cons_zero, List.set_cons_succ]
  refine ⟨by kernel_rfl, ?_⟩
  refine any_only 34 (by kernel_rfl) rfl (by kernel_rfl) ?_
  unfold Oper.wp
  go_simp
  refine any_done (by kernel_rfl) ?_
  go_wp2_with fail
  go_ret
  exact ⟨rfl, B3.out⟩
end Go.Proofs.CW
namespace Go.Proofs.CW

theorem Is.head {p : PS} {r : Rat} (h : Is p r) : p.1 = s0 ↔ r = 0 := by
  rw [← h.eq, rat_zero h.ok, nval_zero (okP_iff.1 h.ok).1.1]

/-- WeightField: all that the law calls. -/
structure FieldL (a b c : PS) : Prop where
  mk_ ::
  ex : ∃ ab x abc bc left ac : PS, addR a b = (ab, 0) ∧ addR b a = (ab, 0) ∧ mulR a b = (x, 0) ∧ mulR b a = (x, 0) ∧ addR ab c = (abc, 0) ∧ addR b c = (bc, 0) ∧ addR a bc = (abc, 0) ∧ subR ab b = (a, 0) ∧
    mulR a bc = (left, 0) ∧ mulR a c = (ac, 0) ∧ addR x ac = (left, 0) ∧ (b.1 = s0 → divR x b = no 10) ∧ (b.1 ≠ s0 → divR x b = (a, 0))
/-- The sign of a comparison. -/
def sgn (r s : Rat) : Int := if r < s then -1 else if s < r then 1 else 0
/-- WeightOrders: all that the law calls. -/
structure OrdersL (a b c : PS) : Prop where
  mk_ ::
  ex : ∃ (n : Int) (x y p q : PS) (d : Res), cmpR a b = n ∧ subR a b = d ∧ addR a c = (x, 0) ∧ addR b c = (y, 0) ∧ mulR a c = (p, 0) ∧ mulR b c = (q, 0) ∧ (c.1 = s0 → cmpR p q = 0) ∧ (c.1 ≠ s0 → cmpR p q = n) ∧ cmpR b a = - n ∧
    (n = 0 ↔ a = b) ∧ (d.2 = 11 ↔ n < 0) ∧ cmpR x y = n ∧ (n = -1 ∨ n = 0 ∨ n = 1)
end Go.Proofs.CW
namespace Go.Proofs.CW

/-- Parts and their numbers. -/
structure Are (l : List PS) (rs : List Rat) : Prop where
  eq : l = rs.map ps
  ok : ∀ r ∈ rs, 0 ≤ r ∧ fits r = true
theorem Are.length {l : List PS} {rs : List Rat} (h : Are l rs) : l.length = rs.length := by rw [h.eq]; simp
theorem Are.all {l : List PS} {rs : List Rat} (h : Are l rs) : l.all okP = true := by
  rw [List.all_eq_true]
  intro p hp
  rw [h.eq, List.mem_map] at hp
  obtain ⟨r, hr, rfl⟩ := hp
  exact (Is.mk_fits (h.ok r hr).1 (h.ok r hr).2).ok
theorem Are.of {l : List PS} (h : l.all okP = true) : Are l (l.map rat) := by
  rw [List.all_eq_true] at h
  constructor
  · rw [List.map_map]
    conv => lhs; rw [← List.map_id l]
    exact List.map_congr_left fun p hp => by simp [ps_rat (h p hp)]
  · intro r hr
    obtain ⟨p, hp, rfl⟩ := List.mem_map.1 hr
    exact ⟨rat_nonneg p, fits_rat (h p hp)⟩
theorem Are.map {rs : List Rat} (h : ∀ r ∈ rs, 0 ≤ r ∧ fits r = true) : Are (rs.map ps) rs := ⟨rfl, h⟩
theorem Q.sum {n : Nat} : ∀ (rs : List Rat), (∀ r ∈ rs, Q n r) → Q (1 + (n + 1) * rs.length) rs.sum
  | [], _ => Q.zero (by omega)
  | x :: rs, h => by
    have h1 := h x (by simp)
    have h2 := Q.sum rs fun y hy => h y (by simp [hy])
    rw [List.sum_cons]
    exact (h1.add h2).mono (by rw [List.length_cons, Nat.mul_add]; omega)
end Go.Proofs.CW
