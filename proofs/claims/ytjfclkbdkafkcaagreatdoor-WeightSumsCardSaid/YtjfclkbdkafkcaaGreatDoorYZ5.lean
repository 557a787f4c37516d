/-
  Part 5 of the proof: LawC.
-/
import Derived.Test.YtjfclkbdkafkcaaGreatDoorYZ4
set_option linter.unusedVariables false
set_option linter.unusedSimpArgs false
namespace Go.Proofs.CW

/-- Are the numbers of all elements so short? -/
def shortL (k : Nat) (l : List PS) : Prop := ∀ p ∈ l, p.1.size ≤ k ∧ p.2.size ≤ k
/-- WeightWhole: all that the law calls. -/
structure WholeL (l : List PS) : Prop where
  mk_ ::
  ex : (∃ e, shareR l = ([], e) ∧ (e = 2 ∨ e = 7)) ∨ ∃ s : List PS, shareR l = (s, 0) ∧ s.length = l.length ∧ sumR s = (p1, 0) ∧ ∀ (x y : Nat) (hx : x < l.length) (hy : y < l.length) (hx' : x < s.length) (hy' : y < s.length), ∃ a, mulR s[x] l[y] = (a, 0) ∧ mulR s[y] l[x] = (a, 0)
theorem Q.all {m : Nat} {rs : List Rat} (h : ∀ k, Q m (rs.take k).sum) : Q m rs.sum := by
  have := h rs.length
  rwa [List.take_length] at this
/-- WeightBayes: all that the law calls. -/
structure BayesL (prior one two both : List PS) : Prop where
  mk_ ::
  ex : (∃ e1 e2 : List PS × PS × Int, updR prior one = e1 ∧ updR prior both = e2 ∧ e1.2.2 = 7 ∧ e2.2.2 = 7) ∨
    ∃ a x c z b y d w i v xy wv, updR prior one = (a, x, 0) ∧ ((updR prior both = ([], (⟨#[]⟩, ⟨#[]⟩), 7) ∧ updR a two = ([], (⟨#[]⟩, ⟨#[]⟩), 7)) ∨
      (updR prior both = (c, z, 0) ∧ updR a two = (b, y, 0) ∧ updR prior two = (d, w, 0) ∧ updR d one = (i, v, 0) ∧ mulR x y = (xy, 0) ∧ mulR w v = (wv, 0) ∧ xy = z ∧ wv = z ∧ b = c ∧ i = c))
end Go.Proofs.CW
