/- Part of the proof by the machine Mx: L0. -/
import Derived.Test.YtiicnbdolakdgaaMxFour
import Derived.Test.YtiicnbdolakdgaaStr
import Derived.Test.YtiicnbdolakdgaaG0
import Derived.Test.YtiicnbdolakdgaaH0
set_option linter.unusedSimpArgs false
set_option linter.unusedVariables false
set_option linter.constructorNameAsVariable false
set_option linter.unnecessarySimpa false
namespace Go.Proofs.Ytiicnbdolakdgaa
open Go Go.Mx Go.Proofs
def mayB (len n : Int) : Bool := decide (len ≤ 400000) && inB n 0 len
theorem allBytes_rowB : ∀ (d : List Int), (∀ n ∈ d, (IntKind.u8).min ≤ n ∧ n ≤ (IntKind.u8).max) → allBytes (d.map rowB) = true
  | [], _ => rfl
  | n :: d, h => by
    have h1 := h n List.mem_cons_self
    have ih := allBytes_rowB d (fun m hm => h m (List.mem_cons_of_mem _ hm))
    have e1 : (IntKind.u8).min = 0 := rfl
    have e2 : (IntKind.u8).max = 255 := rfl
    rw [e1, e2] at h1
    have h3 : decide (0 ≤ n ∧ n < 256) = true := decide_eq_true (by omega)
    simp only [List.map_cons, rowB, allBytes, h3, Bool.true_and]
    exact ih
def crashL (n len keep : Int) : Int := bif decide (keep < len - n) then n + keep else len
theorem sub_map (d : List Int) (c : Nat) : subList (d.map rowB) 0 c = (d.take c).map rowB := by simp [subList]
end Go.Proofs.Ytiicnbdolakdgaa
