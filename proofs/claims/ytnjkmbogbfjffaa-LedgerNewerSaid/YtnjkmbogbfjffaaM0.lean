/- Part of the proof by the machine Mx: M0. -/
import Derived.Test.YtnjkmbogbfjffaaMxFour
import Derived.Test.YtnjkmbogbfjffaaStr
import Derived.Test.YtnjkmbogbfjffaaG0
import Derived.Test.YtnjkmbogbfjffaaH0
import Derived.Test.YtnjkmbogbfjffaaJ0
import Derived.Test.YtnjkmbogbfjffaaK0
set_option linter.unusedSimpArgs false
set_option linter.unusedVariables false
set_option linter.constructorNameAsVariable false
set_option linter.unnecessarySimpa false
namespace Go.Proofs.Ytnjkmbogbfjffaa
open Go Go.Mx Go.Proofs
def newB (base bt : Int) (l : List S37) (place ot : Int) : Bool := decide (lastT bt l < ot) || (ot == lastT bt l && decide (base + (l.length : Int) ≤ place))
theorem newB_eq (t ot : Int) (z : Bool) : (bif ot == t then z else decide (t < ot)) = (decide (t < ot) || (ot == t && z)) := by
  by_cases h : ot = t
  · subst h
    have h2 : decide (ot < ot) = false := decide_eq_false (by omega)
    simp [h2]
  · have h1 : (ot == t) = false := by simpa using h
    simp [h1]
end Go.Proofs.Ytnjkmbogbfjffaa
