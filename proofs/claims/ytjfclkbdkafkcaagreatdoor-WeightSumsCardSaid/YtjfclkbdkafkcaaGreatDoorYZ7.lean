/-
  Part 7 of the proof: F0, F1.
-/
import Derived.Test.YtjfclkbdkafkcaaGreatDoorYZ6
import Derived.Test.YtjfclkbdkafkcaaGreatDoorCards
import Derived.Test.YtjfclkbdkafkcaaGreatDoorTie
import Derived.WalkKit
import Derived.ProofKit
import Derived.OpenShut
import Derived.Deep.DeepHandedRow
import Derived.Deep.DeepLaidRun
import Derived.Lib.LaidTab
import Derived.Stop.LaidErr
set_option linter.unusedVariables false
set_option linter.unusedSimpArgs false
namespace Go.Proofs.YtjfclkbdkafkcaaGreatDoor
open Go.ChangeShapes Go.WideShapes Go.ChangeAt Go.RowKit Go.Proofs.CW

set_option maxRecDepth 100000
theorem own : ownKnob Tryz.prog.godebug = none := by kernel_rfl
theorem laidOut : laidOutB Tryz.prog = true := by kernel_rfl
theorem gTab : Tryz.prog.globalNamed "internal/strconv.uint64pow10" = some 4 := by kernel_rfl
theorem tTab : (Tryz.prog.globals[4]?).map (·.type) = some 226 := by kernel_rfl
theorem cTab : Tryz.prog.cellsOf 226 = 20 := by kernel_rfl
theorem cOne : Tryz.prog.cellsOf 113 = 1 := by kernel_rfl
set_option maxRecDepth 100000
/-- The listed variables of the outright laws: the same seven. -/
theorem tab_of {W : World} (h : laidMetH Tryz.prog Rows.weightFieldRow.laid W) : Tab W := by
  have h1 : laidMet Tryz.prog Rows.weightFieldRow.laid W := h
  have h2 := laidMet.tail (laidMet.tail h1)
  exact Lib.tabIs_of_head (rest := [("unicode/utf8.acceptRanges", Rows.laid_unicode_utf8_acceptRanges), ("strconv.ErrRange", Rows.laid_strconv_ErrRange), ("strconv.ErrSyntax", Rows.laid_strconv_ErrSyntax), ("unicode/utf8.first", Rows.laid_unicode_utf8_first)]) gTab tTab Tryz.underlying226 Tryz.underlying113 cOne cTab h2
theorem cells_part : Tryz.prog.cellTypes Tryz.prog.depth 24 = some [22, 22] := by kernel_rfl
theorem two_part : Tryz.prog.cellsOf 24 = 2 := by kernel_rfl
theorem str_cell {W : World} {base : Nat} {v : Value} (h : Cell.okWide Tryz.prog W .any base 22 v) : ∃ s : ByteArray, v = .string s ∧ s.size ≤ 9223372036854775807 := by
  simp only [Cell.okWide, Tryz.underlying22] at h
  cases v with
  | string s =>
    simp only [Cell.ok, Tryz.underlying22] at h
    refine ⟨s, rfl, ?_⟩
    have : IntKind.i64.max = 9223372036854775807 := by decide
    omega
  | _ => simp [Cell.ok, Tryz.underlying22] at h
/-- A part that came in. -/
theorem open_part {W : World} {base : Nat} {v : Value} (h : Value.okWide Tryz.prog W .any base 24 v) : ∃ p : PS, v = pv p ∧ Small p := by
  simp only [Value.okWide, Tryz.underlying24] at h
  obtain ⟨cs, rfl, h2, ts, h3, _, h5⟩ := h
  rw [cells_part] at h3
  injection h3 with h3
  subst h3
  rw [two_part] at h2
  have h0 : cs[0]? = some cs[0] := Array.getElem?_eq_getElem (by omega)
  have h1 : cs[1]? = some cs[1] := Array.getElem?_eq_getElem (by omega)
  obtain ⟨u, k1, k2⟩ := h5 0 _ h0
  obtain ⟨u', k3, k4⟩ := h5 1 _ h1
  simp at k1 k3
  subst k1 k3
  obtain ⟨s, e1, z1⟩ := str_cell k2
  obtain ⟨t, e2, z2⟩ := str_cell k4
  refine ⟨(s, t), ?_, ⟨z1, z2⟩⟩
  have : cs = #[.string s, .string t] := by
    apply Array.ext
    · simpa using h2
    · intro i hi hj
      match i, hi with
      | 0, _ => exact e1
      | 1, _ => exact e2
      | n + 2, hi => omega
  rw [this]
end Go.Proofs.YtjfclkbdkafkcaaGreatDoor
namespace Go.Proofs.YtjfclkbdkafkcaaGreatDoor
open Go.ChangeShapes Go.WideShapes Go.ChangeAt Go.RowKit Go.Proofs.CW
set_option maxRecDepth 100000

/-! The start that is shown: the listed variables hold what their initialisers lay. -/
def lit1 : DataW Unit → List Value
  | .lit (.int k n) => [.int k n]
  | _ => []
def lit2 : DataW Unit → List Value
  | .agg ys => ys.flatMap lit1
  | y => lit1 y
def lit3 (d : DataW Unit) : Array Value := (match d with
  | .agg xs => xs.flatMap lit2
  | y => lit1 y).toArray
def putVar (g : Nat) (cs : Array Value) (h : Array Obj) : Array Obj := h.modify g fun
  | .cells _ t frozen => .cells cs t frozen
  | o => o
noncomputable def low : Nat := (World.holding Tryz.prog default ⟨#[], #[], []⟩).heap.size
def rangeB : ByteArray := ⟨#[118, 97, 108, 117, 101, 32, 111, 117, 116, 32, 111, 102, 32, 114, 97, 110, 103, 101]⟩
def syntaxB : ByteArray := ⟨#[105, 110, 118, 97, 108, 105, 100, 32, 115, 121, 110, 116, 97, 120]⟩
noncomputable def laidWorld (os : Os) : World :=
  let w0 := World.holding Tryz.prog os ⟨#[.cells #[.string rangeB] 232, .cells #[.string syntaxB] 232], #[], []⟩
  { w0 with heap := putVar 7 (lit3 Rows.laid_math_bits_deBruijn32tab) (putVar 8 (lit3 Rows.laid_math_bits_deBruijn64tab) (putVar 4 (lit3 Rows.laid_internal_strconv_uint64pow10)
      (putVar 6 (lit3 Rows.laid_unicode_utf8_acceptRanges) (putVar 5 (lit3 Rows.laid_unicode_utf8_first)
      (putVar 2 #[.iface 230 (.pointer (some ⟨low, 0, none⟩))] (putVar 1 #[.iface 230 (.pointer (some ⟨low + 1, 0, none⟩))] w0.heap)))))) }
theorem laid_met (os : Os) (args : Array Value) : laidMet Tryz.prog Rows.weightFieldRow.laid ((laidWorld os).forCall (fun _ _ => 0) ⟨#[], args, []⟩).memory :=
  laidMet_of_run3 8 (by kernel_rfl) (by kernel_rfl) (by kernel_rfl)
end Go.Proofs.YtjfclkbdkafkcaaGreatDoor
