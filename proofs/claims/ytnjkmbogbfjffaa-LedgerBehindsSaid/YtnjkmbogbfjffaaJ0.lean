/- Part of the proof by the machine Mx: J0. -/
import Derived.Test.YtnjkmbogbfjffaaMxFour
import Derived.Test.YtnjkmbogbfjffaaStr
import Derived.Test.YtnjkmbogbfjffaaG0
import Derived.Test.YtnjkmbogbfjffaaH0
set_option linter.unusedSimpArgs false
set_option linter.unusedVariables false
set_option linter.constructorNameAsVariable false
set_option linter.unnecessarySimpa false
namespace Go.Proofs.Ytnjkmbogbfjffaa
open Go Go.Mx Go.Proofs
def itemX (x : S37) : Int := itemF x.a0 x.a1 x.a2 x.a3 x.a4 x.a5 x.a6 x.a7 x.a8 x.a9
def codeItems : Int → Int → List S37 → Bool
  | _, _, [] => true
  | t, s, x :: r => !(!(itemX x == 0) || decide (x.a0 < t) || decide (x.a1 < s)) && codeItems x.a0 x.a1 r
def refItems (bt : Int) : Option S37 → List S37 → Bool
  | _, [] => true
  | p, x :: r => !(!(itemX x == 0) || decide (x.a0 < bt)) && (!(match p with | none => false | some y => decide (x.a0 < y.a0) || decide (x.a1 < y.a1)) && refItems bt (some x) r)
def logF (base bt : Int) (l : List S37) : Int :=
  bif !inB base 0 1048576 || !inB bt 0 1048576 || !((base == 0) == (bt == 0)) || decide (200 < (l.length : Int)) || decide (1048576 < base + (l.length : Int)) then 13
  else bif refItems bt none l then 0 else 13
theorem item_time (x : S37) (h : itemX x = 0) : 0 ≤ x.a1 := by
  unfold itemX itemF at h
  cases hq : inB x.a1 0 1073741824 with
  | true => simp only [inB, Bool.and_eq_true, decide_eq_true_eq] at hq; exact hq.1
  | false => rw [hq] at h; simp at h
theorem items_eq (bt : Int) : ∀ (l : List S37) (t s : Int) (p : Option S37), (match p with | none => t = bt ∧ s = 0 | some y => t = y.a0 ∧ s = y.a1 ∧ bt ≤ y.a0) → codeItems t s l = refItems bt p l
  | [], t, s, p, _ => by simp only [codeItems, refItems]
  | x :: r, t, s, p, h => by
    simp only [codeItems, refItems]
    cases hi : (itemX x == 0) with
    | false => simp
    | true =>
      have h0 : itemX x = 0 := by simpa using hi
      have ht := item_time x h0
      by_cases hb : x.a0 < bt
      · have e1 : decide (x.a0 < bt) = true := decide_eq_true hb
        have e2 : decide (x.a0 < t) = true := by
          cases p with
          | none => simp only at h; rw [h.1]; exact e1
          | some y => simp only at h; exact decide_eq_true (by omega)
        simp [e1, e2]
      · have e1 : decide (x.a0 < bt) = false := decide_eq_false hb
        have ih := items_eq bt r x.a0 x.a1 (some x) ⟨rfl, rfl, by omega⟩
        rw [ih, e1]
        cases p with
        | none =>
          simp only at h
          have e2 : decide (x.a0 < t) = false := decide_eq_false (by omega)
          have e3 : decide (x.a1 < s) = false := decide_eq_false (by omega)
          simp [e2, e3]
        | some y =>
          simp only at h
          rw [h.1, h.2.1]
          cases h1 : decide (x.a0 < y.a0) <;> cases h2 : decide (x.a1 < y.a1) <;> simp [h1, h2]
def lastTS : Int → Int → List S37 → Int × Int
  | t, s, [] => (t, s)
  | _, _, x :: r => lastTS x.a0 x.a1 r
def cellsD (x : S37) : List D := [.v (.i .i64 x.a0), .v (.i .i64 x.a1), .v (.b x.a2), .v (.i .i64 x.a3), .v (.i .i64 x.a4), .v (.i .i64 x.a5), .v (.s x.a6), .v (.s x.a7), .v (.s x.a8), .v (.i .i64 x.a9)]
def failS : Int → Int → List S37 → Store
  | _, _, [] => []
  | t, s, x :: r => bif !(itemX x == 0) || decide (x.a0 < t) || decide (x.a1 < s) then [cellsD x] else failS x.a0 x.a1 r
theorem logcond (base bt n : Int) (z : Bool) (hn : 0 ≤ n) : (decide (base < 0) || decide (bt < 0) || decide (1048576 < bt) || z || decide (200 < n) || decide (1048576 - n < base)) = (!inB base 0 1048576 || !inB bt 0 1048576 || z || decide (200 < n) || decide (1048576 < base + n)) := by
  cases z <;> rw [Bool.eq_iff_iff] <;> simp only [inB, Bool.or_eq_true, Bool.or_true, Bool.true_or, Bool.or_false, Bool.not_eq_true', Bool.and_eq_false_iff, decide_eq_true_eq, decide_eq_false_iff_not] <;> omega
theorem split_last {X : Type} (l : List X) : l = [] ∨ ∃ q y, l = q ++ [y] := by
  rcases List.eq_nil_or_concat l with h | ⟨q, y, h⟩
  · exact .inl h
  · exact .inr ⟨q, y, by simpa using h⟩
end Go.Proofs.Ytnjkmbogbfjffaa
