/- Part of the proof by the machine Mx: H0. -/
import Derived.Test.YtnjkmbogbfjffaaMxFour
import Derived.Test.YtnjkmbogbfjffaaStr
import Derived.Test.YtnjkmbogbfjffaaG0
set_option linter.unusedSimpArgs false
set_option linter.unusedVariables false
set_option linter.constructorNameAsVariable false
set_option linter.unnecessarySimpa false
namespace Go.Proofs.Ytnjkmbogbfjffaa
open Go Go.Mx Go.Proofs
theorem outU (a b c : Int) : (decide (a < b) || decide (c < a)) = !(decide (b ≤ a) && decide (a ≤ c)) := out_in a b c
theorem outN (a b : Int) : (decide (a < b) || decide (3 ≤ a)) = !(decide (b ≤ a) && decide (a ≤ 2)) := by
  rw [Bool.eq_iff_iff]; simp only [Bool.or_eq_true, decide_eq_true_eq, Bool.not_eq_true', Bool.and_eq_false_iff, decide_eq_false_iff_not]; omega
theorem outU' (x : Bool) (a b c : Int) : ((x || decide (a < b)) || decide (c < a)) = (x || !(decide (b ≤ a) && decide (a ≤ c))) := by
  rw [Bool.or_assoc, outU]
end Go.Proofs.Ytnjkmbogbfjffaa
