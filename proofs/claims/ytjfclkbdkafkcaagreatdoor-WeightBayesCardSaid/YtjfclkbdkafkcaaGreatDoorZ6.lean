/-
  Part 6 of the proof: F0, F1, F3.
-/
import Derived.Test.YtjfclkbdkafkcaaGreatDoorZ5
import Derived.Test.YtjfclkbdkafkcaaGreatDoorCards
import Derived.Test.YtjfclkbdkafkcaaGreatDoorTie
import Derived.WalkKit
import Derived.ProofKit
import Derived.OpenShut
import Derived.Deep.DeepHandedRow
import Derived.Deep.DeepLaidRun
import Derived.Lib.LaidTab
import Derived.Stop.LaidErr
import Derived.Deep.SlicePairs
set_option linter.unusedVariables false
set_option linter.unusedSimpArgs false
namespace Go.Proofs.YtjfclkbdkafkcaaGreatDoor
open Go.ChangeShapes Go.WideShapes Go.ChangeAt Go.RowKit Go.Proofs.CW

set_option maxRecDepth 100000
theorem own : ownKnob Tryz.prog.godebug = none := by kernel_rfl
theorem laidOut : laidOutB Tryz.prog = true := by kernel_rfl
theorem gTab : Tryz.prog.globalNamed "internal/strconv.uint64pow10" = some 4 := by kernel_rfl
theorem tTab : (Tryz.prog.globals[4]?).map (·.type) = some 226 := by kernel_rfl
theorem cTab : Tryz.prog.cellsOf 226 = 20 := by kernel_rfl
theorem cOne : Tryz.prog.cellsOf 113 = 1 := by kernel_rfl
set_option maxRecDepth 100000
/-- The listed variables of the outright laws: the same seven. -/
theorem tab_of {W : World} (h : laidMetH Tryz.prog Rows.weightFieldRow.laid W) : Tab W := by
  have h1 : laidMet Tryz.prog Rows.weightFieldRow.laid W := h
  have h2 := laidMet.tail (laidMet.tail h1)
  exact Lib.tabIs_of_head (rest := [("unicode/utf8.acceptRanges", Rows.laid_unicode_utf8_acceptRanges), ("strconv.ErrRange", Rows.laid_strconv_ErrRange), ("strconv.ErrSyntax", Rows.laid_strconv_ErrSyntax), ("unicode/utf8.first", Rows.laid_unicode_utf8_first)]) gTab tTab Tryz.underlying226 Tryz.underlying113 cOne cTab h2
theorem cells_part : Tryz.prog.cellTypes Tryz.prog.depth 24 = some [22, 22] := by kernel_rfl
theorem two_part : Tryz.prog.cellsOf 24 = 2 := by kernel_rfl
theorem str_cell {W : World} {base : Nat} {v : Value} (h : Cell.okWide Tryz.prog W .any base 22 v) : ∃ s : ByteArray, v = .string s ∧ s.size ≤ 9223372036854775807 := by
  simp only [Cell.okWide, Tryz.underlying22] at h
  cases v with
  | string s =>
    simp only [Cell.ok, Tryz.underlying22] at h
    refine ⟨s, rfl, ?_⟩
    have : IntKind.i64.max = 9223372036854775807 := by decide
    omega
  | _ => simp [Cell.ok, Tryz.underlying22] at h
/-- A part that came in. -/
theorem open_part {W : World} {base : Nat} {v : Value} (h : Value.okWide Tryz.prog W .any base 24 v) : ∃ p : PS, v = pv p ∧ Small p := by
  simp only [Value.okWide, Tryz.underlying24] at h
  obtain ⟨cs, rfl, h2, ts, h3, _, h5⟩ := h
  rw [cells_part] at h3
  injection h3 with h3
  subst h3
  rw [two_part] at h2
  have h0 : cs[0]? = some cs[0] := Array.getElem?_eq_getElem (by omega)
  have h1 : cs[1]? = some cs[1] := Array.getElem?_eq_getElem (by omega)
  obtain ⟨u, k1, k2⟩ := h5 0 _ h0
  obtain ⟨u', k3, k4⟩ := h5 1 _ h1
  simp at k1 k3
  subst k1 k3
  obtain ⟨s, e1, z1⟩ := str_cell k2
  obtain ⟨t, e2, z2⟩ := str_cell k4
  refine ⟨(s, t), ?_, ⟨z1, z2⟩⟩
  have : cs = #[.string s, .string t] := by
    apply Array.ext
    · simpa using h2
    · intro i hi hj
      match i, hi with
      | 0, _ => exact e1
      | 1, _ => exact e2
      | n + 2, hi => omega
  rw [this]
end Go.Proofs.YtjfclkbdkafkcaaGreatDoor
namespace Go.Proofs.YtjfclkbdkafkcaaGreatDoor
open Go.ChangeShapes Go.WideShapes Go.ChangeAt Go.RowKit Go.Proofs.CW
set_option maxRecDepth 100000

/-! The start that is shown: the listed variables hold what their initialisers lay. -/
def lit1 : DataW Unit → List Value
  | .lit (.int k n) => [.int k n]
  | _ => []
def lit2 : DataW Unit → List Value
  | .agg ys => ys.flatMap lit1
  | y => lit1 y
def lit3 (d : DataW Unit) : Array Value := (match d with
  | .agg xs => xs.flatMap lit2
  | y => lit1 y).toArray
def putVar (g : Nat) (cs : Array Value) (h : Array Obj) : Array Obj := h.modify g fun
  | .cells _ t frozen => .cells cs t frozen
  | o => o
noncomputable def low : Nat := (World.holding Tryz.prog default ⟨#[], #[], []⟩).heap.size
def rangeB : ByteArray := ⟨#[118, 97, 108, 117, 101, 32, 111, 117, 116, 32, 111, 102, 32, 114, 97, 110, 103, 101]⟩
def syntaxB : ByteArray := ⟨#[105, 110, 118, 97, 108, 105, 100, 32, 115, 121, 110, 116, 97, 120]⟩
noncomputable def laidWorld (os : Os) : World :=
  let w0 := World.holding Tryz.prog os ⟨#[.cells #[.string rangeB] 232, .cells #[.string syntaxB] 232], #[], []⟩
  { w0 with heap := putVar 7 (lit3 Rows.laid_math_bits_deBruijn32tab) (putVar 8 (lit3 Rows.laid_math_bits_deBruijn64tab) (putVar 4 (lit3 Rows.laid_internal_strconv_uint64pow10)
      (putVar 6 (lit3 Rows.laid_unicode_utf8_acceptRanges) (putVar 5 (lit3 Rows.laid_unicode_utf8_first)
      (putVar 2 #[.iface 230 (.pointer (some ⟨low, 0, none⟩))] (putVar 1 #[.iface 230 (.pointer (some ⟨low + 1, 0, none⟩))] w0.heap)))))) }
theorem laid_met (os : Os) (args : Array Value) : laidMet Tryz.prog Rows.weightFieldRow.laid ((laidWorld os).forCall (fun _ _ => 0) ⟨#[], args, []⟩).memory :=
  laidMet_of_run3 8 (by kernel_rfl) (by kernel_rfl) (by kernel_rfl)
end Go.Proofs.YtjfclkbdkafkcaaGreatDoor
namespace Go.Proofs.YtjfclkbdkafkcaaGreatDoor
open Go.ChangeShapes Go.WideShapes Go.ChangeAt Go.RowKit Go.Proofs.CW Go.Proofs.YtjfclkbdkafkcaaGreatDoorW.PrintWords
set_option maxRecDepth 100000

theorem one_nat : Tryz.prog.cellsOf 22 = 1 := by kernel_rfl
/-- A list of parts that came in. -/
theorem open_parts {H : Type} {enc : TypeId × Value → H} {W : World} {base : Nat} {v : Value} {d : DataW H} {p : List MemPlace} (hval : Value.okWide Tryz.prog W .any base 34 v)
    (h : DataW.Trod enc Tryz.prog W 0 (fun _ => true) true 34 v d p) : ∃ (A : Option Addr) (l : List PS) (c : Nat), v = .slice A l.length c ∧ Smalls l ∧ l.length ≤ 9223372036854775807 ∧ l.length ≤ c ∧ Kd.C kP W A l.length l := by
  obtain ⟨A, n, c, rfl⟩ := okWide_slice Tryz.underlying34 hval
  obtain ⟨fuel, hf⟩ := h
  rcases Go.Deep.open_slice_pairs Tryz.underlying34 Tryz.underlying24 two_part rfl rfl one_nat one_nat hf with ⟨hcs, _⟩ | ⟨a, len, cap, m, k, V0, V1, D0, D1, P0, P1, hcs, hb, hl, hm, hmm, hx, hcell⟩
  · simp [Value.cells] at hcs
    obtain ⟨rfl, rfl, rfl⟩ := hcs
    exact ⟨none, [], 0, rfl, (fun p hp => by cases hp), by simp, by simp, Kd.C_nil _ _⟩
  · simp [Value.cells] at hcs
    obtain ⟨rfl, rfl, rfl⟩ := hcs
    have hm9 : maxLen = 9223372036854775807 := by decide
    have hnm : n ≤ m := by rw [hmm]; split <;> omega
    obtain ⟨q, hq⟩ := Go.Deep.choose_lt (α := PS) (n := n) (p := fun i q => W.cell? (a.add (i * 2)) = some (.string q.1) ∧ W.cell? (a.add (i * 2 + 1)) = some (.string q.2) ∧ q.1.size ≤ maxLen ∧ q.2.size ≤ maxLen) (fun i hi => by
      obtain ⟨h0, h1, t0, t1⟩ := hcell i (by omega)
      obtain ⟨s, e0, _, z0⟩ := DataW.trod_string Tryz.underlying22 t0
      obtain ⟨t, e1, _, z1⟩ := DataW.trod_string Tryz.underlying22 t1
      injection e0 with e0
      injection e1 with e1
      rw [e0] at h0
      rw [e1] at h1
      exact ⟨(s, t), h0, h1, z0, z1⟩)
    have hlen : ((List.range n).map q).length = n := by simp
    refine ⟨some a, (List.range n).map q, c, by rw [hlen], ?_, by omega, by omega, ?_⟩
    · intro p hp
      obtain ⟨i, hi, rfl⟩ := List.mem_map.1 hp
      obtain ⟨_, _, z0, z1⟩ := hq i (List.mem_range.1 hi)
      exact ⟨by omega, by omega⟩
    · rw [hlen]
      refine ⟨hlen, by omega, fun _ => ⟨a, rfl, fun j p hj => ?_⟩⟩
      have hjn : j < n := by
        have := List.getElem?_eq_some_iff.1 hj
        obtain ⟨h, _⟩ := this
        omega
      obtain ⟨h0, h1, _, _⟩ := hq j hjn
      rw [List.getElem?_map, List.getElem?_range hjn] at hj
      injection hj with hj
      subst hj
      refine ⟨[.string (q j).1, .string (q j).2], rfl, kP_mk _ _, fun i u hu => ?_⟩
      match i, hu with
      | 0, hu => injection hu with hu; subst hu; exact h0
      | 1, hu => injection hu with hu; subst hu; exact h1
      | i + 2, hu => simp at hu
theorem byte_range {n : Int} (h : (Lit.int .u8 n).wf = true) : ∃ k : Nat, n = (k : Int) ∧ k < 256 := by
  have h1 : (0 : Int) ≤ n ∧ n ≤ 255 := by
    simp [Lit.wf, IntKind.min, IntKind.max, IntKind.signed, IntKind.bits] at h
    omega
  exact ⟨n.toNat, by omega, by omega⟩
end Go.Proofs.YtjfclkbdkafkcaaGreatDoor
