/- Part of the proof by the machine Mx: Q0. -/
import Derived.Test.YtnjkmbogbfjffaaMxFour
import Derived.Test.YtnjkmbogbfjffaaStr
import Derived.Test.YtnjkmbogbfjffaaG0
import Derived.Test.YtnjkmbogbfjffaaH0
import Derived.Test.YtnjkmbogbfjffaaJ0
import Derived.Test.YtnjkmbogbfjffaaK0
set_option linter.unusedSimpArgs false
set_option linter.unusedVariables false
set_option linter.constructorNameAsVariable false
set_option linter.unnecessarySimpa false
namespace Go.Proofs.Ytnjkmbogbfjffaa
open Go Go.Mx Go.Proofs
theorem sub_drop (l : List S37) (c : Nat) : subList (l.map S37.row) c l.length = (l.drop c).map S37.row := by
  unfold subList
  rw [List.take_of_length_le (by simp), List.map_drop]
theorem fits_drop {X : Type} {d : List X} {b : Nat} (h : fitsB d.length b = true) (c : Nat) : fitsB (d.drop c).length b = true := by
  have h1 := fitsB_iff.1 h
  refine fitsB_iff.2 ?_
  have h2 : (d.drop c).length ≤ d.length := by simp
  have h3 : ((d.drop c).length : Int) * b ≤ (d.length : Int) * b := Int.mul_le_mul_of_nonneg_right (by omega) (by omega)
  omega
end Go.Proofs.Ytnjkmbogbfjffaa
