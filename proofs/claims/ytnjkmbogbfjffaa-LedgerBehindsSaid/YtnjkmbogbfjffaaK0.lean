/- Part of the proof by the machine Mx: K0. -/
import Derived.Test.YtnjkmbogbfjffaaMxFour
import Derived.Test.YtnjkmbogbfjffaaStr
import Derived.Test.YtnjkmbogbfjffaaG0
import Derived.Test.YtnjkmbogbfjffaaH0
import Derived.Test.YtnjkmbogbfjffaaJ0
set_option linter.unusedSimpArgs false
set_option linter.unusedVariables false
set_option linter.constructorNameAsVariable false
set_option linter.unnecessarySimpa false
namespace Go.Proofs.Ytnjkmbogbfjffaa
open Go Go.Mx Go.Proofs
theorem logF_ok {base bt : Int} {l : List S37} (h : logF base bt l = 0) : 0 ≤ base ∧ base ≤ 1048576 ∧ (l.length : Int) ≤ 200 ∧ base + (l.length : Int) ≤ 1048576 := by
  unfold logF at h
  cases hc : (!inB base 0 1048576 || !inB bt 0 1048576 || !((base == 0) == (bt == 0)) || decide (200 < (l.length : Int)) || decide (1048576 < base + (l.length : Int))) with
  | true => rw [hc] at h; simp at h
  | false =>
    simp only [Bool.or_eq_false_iff, Bool.not_eq_false', inB, Bool.and_eq_true, decide_eq_true_eq, decide_eq_false_iff_not] at hc
    omega
def termF (base bt : Int) (l : List S37) (place : Int) : Int :=
  bif decide (place < base) then -1 else bif decide (base + (l.length : Int) < place) then -2 else bif place == base then bt
  else match l[(place - base - 1).toNat]? with | some x => x.a0 | none => 0
def lastT (bt : Int) (l : List S37) : Int := match l.getLast? with | none => bt | some y => y.a0
theorem termF_last (base bt : Int) (l : List S37) : termF base bt l (base + (l.length : Int)) = lastT bt l := by
  unfold termF lastT
  have h1 : decide (base + (l.length : Int) < base) = false := decide_eq_false (by omega)
  have h2 : decide (base + (l.length : Int) < base + (l.length : Int)) = false := decide_eq_false (by omega)
  rw [h1, h2, cond_false, cond_false]
  rcases split_last l with rfl | ⟨q, y, rfl⟩
  · simp
  · have h3 : (base + ((q ++ [y]).length : Int) == base) = false := by rw [beq_eq_false_iff_ne]; simp only [List.length_append, List.length_cons, List.length_nil]; omega
    rw [h3, cond_false]
    have h4 : (base + ((q ++ [y]).length : Int) - base - 1).toNat = q.length := by simp; omega
    rw [h4]
    simp
end Go.Proofs.Ytnjkmbogbfjffaa
