/- Part of the proof by the machine Mx: N0. -/
import Derived.Test.YtnjkmbogbfjffaaMxFour
import Derived.Test.YtnjkmbogbfjffaaStr
import Derived.Test.YtnjkmbogbfjffaaG0
import Derived.Test.YtnjkmbogbfjffaaH0
import Derived.Test.YtnjkmbogbfjffaaJ0
import Derived.Test.YtnjkmbogbfjffaaK0
set_option linter.unusedSimpArgs false
set_option linter.unusedVariables false
set_option linter.constructorNameAsVariable false
set_option linter.unnecessarySimpa false
namespace Go.Proofs.Ytnjkmbogbfjffaa
open Go Go.Mx Go.Proofs
theorem items_term (bt : Int) : ∀ (l : List S37) (p : Option S37), refItems bt p l = true → ∀ x ∈ l, 1 ≤ x.a0
  | [], p, _ => fun x hx => by cases hx
  | y :: l, p, h => by
    simp only [refItems, Bool.and_eq_true] at h
    intro x hx
    rcases List.mem_cons.1 hx with rfl | hx
    · have h1 := h.1
      cases hi : (itemX x == 0) with
      | false => rw [hi] at h1; simp at h1
      | true =>
        have h0 : itemX x = 0 := by simpa using hi
        unfold itemX itemF at h0
        cases hq : numB x.a0 with
        | true => simp only [numB, Bool.and_eq_true, decide_eq_true_eq] at hq; exact hq.1
        | false => rw [hq] at h0; simp at h0
    · exact items_term bt l (some y) h.2.2 x hx
theorem termF_pos {base bt : Int} {l : List S37} (h : logF base bt l = 0) {place : Int} (c1 : decide (place < base) = false) (c2 : decide (base + (l.length : Int) < place) = false) : 0 ≤ termF base bt l place := by
  have hb : 0 ≤ bt ∧ refItems bt none l = true := by
    unfold logF at h
    cases hc : (!inB base 0 1048576 || !inB bt 0 1048576 || !((base == 0) == (bt == 0)) || decide (200 < (l.length : Int)) || decide (1048576 < base + (l.length : Int))) with
    | true => rw [hc] at h; simp at h
    | false =>
      rw [hc, cond_false] at h
      simp only [Bool.or_eq_false_iff, Bool.not_eq_false', inB, Bool.and_eq_true, decide_eq_true_eq] at hc
      refine ⟨hc.1.1.1.2.1, ?_⟩
      cases hr : refItems bt none l with
      | true => rfl
      | false => rw [hr] at h; simp at h
  unfold termF
  rw [c1, c2, cond_false, cond_false]
  cases c3 : (place == base) with
  | true => exact hb.1
  | false =>
    rw [cond_false]
    split
    · rename_i x hx
      have := items_term bt l none hb.2 x (List.mem_of_getElem? hx)
      omega
    · exact Int.le_refl _
def tvF (base bt : Int) (l : List S37) (place : Int) : Int := bif decide (place < base) then 0 else bif decide (base + (l.length : Int) < place) then 0 else termF base bt l place
def teF (base : Int) (l : List S37) (place : Int) : Int := bif decide (place < base) then 11 else bif decide (base + (l.length : Int) < place) then 5 else 0
end Go.Proofs.Ytnjkmbogbfjffaa
