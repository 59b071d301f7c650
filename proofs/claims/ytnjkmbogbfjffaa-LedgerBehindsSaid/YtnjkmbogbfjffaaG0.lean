/- Part of the proof by the machine Mx: G0. -/
import Derived.Test.YtnjkmbogbfjffaaMxFour
import Derived.Test.YtnjkmbogbfjffaaStr
set_option linter.unusedSimpArgs false
set_option linter.unusedVariables false
set_option linter.constructorNameAsVariable false
set_option linter.unnecessarySimpa false
namespace Go.Proofs.Ytnjkmbogbfjffaa
open Go Go.Mx Go.Proofs
def emp (s : ByteArray) : Bool := s.toList == []
theorem emp_l (s : ByteArray) : (s.toList == []) = emp s := rfl
theorem empty_l : ByteArray.empty.toList = [] := by unfold ByteArray.toList ByteArray.toList.loop; rfl
theorem emptymk_l : (ByteArray.mk #[]).toList = [] := by unfold ByteArray.toList ByteArray.toList.loop; rfl
def fieldB (s : ByteArray) : Bool := decide (1 ≤ (s.size : Int)) && decide ((s.size : Int) ≤ 12)
def textB (s : ByteArray) : Bool := decide ((s.size : Int) ≤ 20)
def countB (a : Int) : Bool := decide (-1099511627776 ≤ a) && decide (a ≤ 1099511627776)
def inB (a b c : Int) : Bool := decide (b ≤ a) && decide (a ≤ c)
theorem out_in (a b c : Int) : (decide (a < b) || decide (c < a)) = !inB a b c := by
  rw [Bool.eq_iff_iff]; simp only [inB, Bool.or_eq_true, decide_eq_true_eq, Bool.not_eq_true', Bool.and_eq_false_iff, decide_eq_false_iff_not]; omega
theorem out_in' (x : Bool) (a b c : Int) : ((x || decide (a < b)) || decide (c < a)) = (x || !inB a b c) := by
  rw [Bool.or_assoc, out_in]
def numB (a : Int) : Bool := decide (1 ≤ a) && decide (a ≤ 1048576)
def cmdF (k : Int) (key field text : ByteArray) (n : Int) : Int :=
  bif !inB k 1 22 then 3
  else bif (!(k == 1 || k == 4 || k == 7 || k == 8 || inB k 11 16) && !emp text) || (!inB k 4 6 && !emp field) || (!(k == 3 || k == 14 || k == 20) && !(n == 0)) || (k == 22 && !emp key) then 8
  else bif (!(k == 22) && !fieldB key) || (inB k 4 6 && !fieldB field) || !textB text then 1
  else bif !countB n then 2 else 0
def cmd0 (k : Int) (key field text : ByteArray) (n : Int) : Bool := k == 0 && (emp key && (emp field && (emp text && n == 0)))
def callF (cl seq k : Int) (key field text : ByteArray) (n : Int) : Int :=
  bif cl == 0 then (bif !(seq == 0) || !cmd0 k key field text n then 8 else 0)
  else bif !numB cl || !numB seq then 2 else cmdF k key field text n
def call0 (cl seq k : Int) (key field text : ByteArray) (n : Int) : Bool := cl == 0 && (seq == 0 && cmd0 k key field text n)
def itemF (term time : Int) (nop : Bool) (cl seq k : Int) (key field text : ByteArray) (n : Int) : Int :=
  bif !numB term || !inB time 0 1073741824 then 2
  else bif nop then (bif !call0 cl seq k key field text n then 8 else 0) else callF cl seq k key field text n
def withNodeB (k : Int) : Bool := !inB k 6 8 && !(k == 12)
def withPickB (k : Int) : Bool := inB k 5 9
def actF (kind node pick cl seq k : Int) (key field text : ByteArray) (n : Int) : Int :=
  bif !inB kind 1 12 then 3
  else bif (withNodeB kind && !inB node 0 2) || (withPickB kind && !inB pick 0 400000) then 2
  else bif (!withNodeB kind && !(node == 0)) || (!withPickB kind && !(pick == 0)) || (!(kind == 1) && !call0 cl seq k key field text n) then 8
  else bif kind == 1 then callF cl seq k key field text n else 0
end Go.Proofs.Ytnjkmbogbfjffaa
