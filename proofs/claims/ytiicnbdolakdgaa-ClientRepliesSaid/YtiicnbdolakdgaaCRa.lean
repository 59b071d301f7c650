/- Part of the proof by the machine Mx (plain data in place of memory): CRa. -/
import Derived.Test.YtiicnbdolakdgaaMxZj
import Derived.Test.YtiicnbdolakdgaaTyTab
set_option linter.unusedVariables false
set_option linter.unusedSimpArgs false
set_option linter.constructorNameAsVariable false
namespace Go.Proofs.Ytiicnbdolakdgaa
open Go Go.Mx Go.Proofs
def rowS (s : ByteArray) : List V := [.s s]
theorem rowS_inj {a b : List ByteArray} : a.map rowS = b.map rowS ↔ a = b := by
  constructor
  · intro h
    have : ∀ (a b : List ByteArray), a.map rowS = b.map rowS → a = b := by
      intro a
      induction a with
      | nil => intro b h; cases b with
        | nil => rfl
        | cons _ _ => cases h
      | cons x a ih => intro b h; cases b with
        | nil => cases h
        | cons y b =>
          simp only [List.map_cons, List.cons.injEq, rowS, V.s.injEq, and_true] at h
          rw [h.1, ih b h.2]
    exact this a b h
  · intro h; rw [h]
def fi (p : ByteArray → Bool) : List ByteArray → Nat → Option Nat
  | [], _ => none
  | x :: r, k => bif p x then some k else fi p r (k + 1)
theorem fi_any (p : ByteArray → Bool) : ∀ (l : List ByteArray) (k : Nat), (fi p l k).isSome = l.any p
  | [], k => rfl
  | x :: r, k => by
    simp only [fi, List.any_cons]
    cases p x with
    | true => rfl
    | false => simp [fi_any p r (k + 1)]
theorem wrap_id {n : Int} (h1 : -9223372036854775808 ≤ n) (h2 : n ≤ 9223372036854775807) : IntKind.i64.wrap n = n := by
  simp [IntKind.wrap, IntKind.min, IntKind.max, IntKind.bits, IntKind.signed]; omega
def n53 : Note where
  keep := fun i => match i with
    | 0 => [0, 1, 2]
    | 1 => [6]
    | _ => []
  ro := fun _ => false
  mv := fun _ => false
  give := fun _ => false
  free := fun _ => []
theorem n53k0 : n53.keep 0 = [0, 1, 2] := rfl
theorem n53k1 : n53.keep 1 = [6] := rfl
theorem n53ro (t : Nat) : n53.ro t = (false) := rfl
theorem n53mv (t : Nat) : n53.mv t = (false) := rfl
theorem n53gv (t : Nat) : n53.give t = (false) := rfl
noncomputable def b53 : Code := bodyOf Try.f53
theorem r53 (C : Oracle) (L : Loops) (a b c : Int) :
    evFn TT C L n53 Try.f53.results.toList (bodyOf Try.f53) [.v (.i .i64 a), .v (.i .i64 b), .v (.i .i64 c)] [] = some (.v (.b (decide (b ≤ a) && decide (a ≤ c))), []) := by
  simp only [Try.f53, n53k0, n53k1, n53ro, n53mv, n53gv, evFn_finish, bodyOf, Option.getD_some, evCode_seq, evCode_region, evCode_cond, evCode_skip, evCode_ret, evCode_exit, evCode_loop, evCode_block_seq, evCode_block_region, evCode_block_cond, evCode_block_block, evCode_block_skip, enter, List.toList_toArray, evRegion, Bool.false_and, cond_false, evOps, stepOp, guardB, yieldedD, isWork, cond_true, workOk, workOp, Mx.force, opnd, Mx.look, Nat.reduceBEq, solid, Mx.fit, fitCs, fitC, List.isEmpty_cons, List.isEmpty_nil, Bool.false_or, Bool.or_false, Bool.true_or, Bool.or_true, Bool.and_true, Bool.true_and, Bool.and_false, Bool.not_true, Bool.not_false, Bool.not_not, Bool.or_not_self, Bool.not_or_self, Bool.and_self, Bool.or_self, toVs, cellsOf, toV, setReg, Mx.spend, hasOwn, ownFree, List.all_cons, List.all_nil, ownFreeC, Mx.put, ofConst, ofCell, after_some, Mx.prune, List.map_cons, List.map_nil, killB, killBs, andThen_normal, andThen_ret, andThen_exit, andThen_bif, after_bif, branch_b, unblock_normal, unblock_ret, unblock_exit, unblock_bif, pureOp, gx, putDst, offReg, callFails, isFuncCall, Option.isNone_none, Option.isNone_some, Option.isSome_none, Option.isSome_some, fieldOff, loadAt, partD, List.length_cons, List.length_nil, List.map, List.drop_succ_cons, List.drop_zero, List.take_succ_cons, List.take_zero, List.take_nil, List.drop_nil, List.getElem?_cons_zero, List.getElem?_cons_succ, List.getElem?_nil, Nat.reduceAdd, Nat.reduceMul, Nat.zero_add, Nat.add_zero, binD, binV, eqCells, eqC, lenD, sliceOf, ite_true, if_true, eq_self, reduceIte, reduceCtorEq, finish_ret, finish_normal, finish_bif, giveBack, resAll, resOne, outD, outOk, stayC, cellOk, valOk, lowC, lowP, List.take_zero, List.length_nil, forceAll, bound, asNat, elemIs, isStrK, sameInt, sliceD, kill, spendLoc, spendOk, setOwn, dropAl, dropAls, inReg, inObj, isCell, gone, List.contains_cons, List.contains_nil, List.elem_cons, List.elem_nil, lend, lendA, tracked, trackedA, noSl, noSlC, noSlV, bare, bareC, List.any_cons, List.any_nil, frz, frzC, frzReg, isGive, argE, argsE, isOwn, noOwn, fill, setCells, setVs, takeParts, rowsOf, inOrder, ownAt, List.set_cons_zero, List.set_cons_succ, List.nil_append, List.cons_append, List.append_nil, Nat.reduceBNe, Nat.reduceSub, Nat.reduceLT, Nat.reduceLeDiff, decide_true, decide_false, List.length_append, List.append_assoc, List.concat_eq_append, List.getElem?_append_right, List.singleton_append, Int.cast_ofNat_Int, again_normal, again_ret, again_exit, again_bif, beq_self_eq_true, findLoop, List.map_append, List.length_map, Bool.cond_true_left, Bool.cond_false_right, Bool.cond_false_left, Bool.cond_true_right, ge_iff_le, gt_iff_lt, ty3, ty4]
def n54 : Note where
  keep := fun i => match i with
    | 0 => [0]
    | 1 => [2]
    | _ => []
  ro := fun _ => false
  mv := fun _ => false
  give := fun _ => false
  free := fun _ => []
theorem n54k0 : n54.keep 0 = [0] := rfl
theorem n54k1 : n54.keep 1 = [2] := rfl
theorem n54ro (t : Nat) : n54.ro t = (false) := rfl
theorem n54mv (t : Nat) : n54.mv t = (false) := rfl
theorem n54gv (t : Nat) : n54.give t = (false) := rfl
noncomputable def b54 : Code := bodyOf Try.f54
theorem r54 (C : Oracle) (L : Loops) (s : ByteArray) :
    evFn TT C L n54 Try.f54.results.toList (bodyOf Try.f54) [.v (.s s)] [] = some (.v (.b (decide ((s.size : Int) ≤ 20))), []) := by
  simp only [Try.f54, n54k0, n54k1, n54ro, n54mv, n54gv, evFn_finish, bodyOf, Option.getD_some, evCode_seq, evCode_region, evCode_cond, evCode_skip, evCode_ret, evCode_exit, evCode_loop, evCode_block_seq, evCode_block_region, evCode_block_cond, evCode_block_block, evCode_block_skip, enter, List.toList_toArray, evRegion, Bool.false_and, cond_false, evOps, stepOp, guardB, yieldedD, isWork, cond_true, workOk, workOp, Mx.force, opnd, Mx.look, Nat.reduceBEq, solid, Mx.fit, fitCs, fitC, List.isEmpty_cons, List.isEmpty_nil, Bool.false_or, Bool.or_false, Bool.true_or, Bool.or_true, Bool.and_true, Bool.true_and, Bool.and_false, Bool.not_true, Bool.not_false, Bool.not_not, Bool.or_not_self, Bool.not_or_self, Bool.and_self, Bool.or_self, toVs, cellsOf, toV, setReg, Mx.spend, hasOwn, ownFree, List.all_cons, List.all_nil, ownFreeC, Mx.put, ofConst, ofCell, after_some, Mx.prune, List.map_cons, List.map_nil, killB, killBs, andThen_normal, andThen_ret, andThen_exit, andThen_bif, after_bif, branch_b, unblock_normal, unblock_ret, unblock_exit, unblock_bif, pureOp, gx, putDst, offReg, callFails, isFuncCall, Option.isNone_none, Option.isNone_some, Option.isSome_none, Option.isSome_some, fieldOff, loadAt, partD, List.length_cons, List.length_nil, List.map, List.drop_succ_cons, List.drop_zero, List.take_succ_cons, List.take_zero, List.take_nil, List.drop_nil, List.getElem?_cons_zero, List.getElem?_cons_succ, List.getElem?_nil, Nat.reduceAdd, Nat.reduceMul, Nat.zero_add, Nat.add_zero, binD, binV, eqCells, eqC, lenD, sliceOf, ite_true, if_true, eq_self, reduceIte, reduceCtorEq, finish_ret, finish_normal, finish_bif, giveBack, resAll, resOne, outD, outOk, stayC, cellOk, valOk, lowC, lowP, List.take_zero, List.length_nil, forceAll, bound, asNat, elemIs, isStrK, sameInt, sliceD, kill, spendLoc, spendOk, setOwn, dropAl, dropAls, inReg, inObj, isCell, gone, List.contains_cons, List.contains_nil, List.elem_cons, List.elem_nil, lend, lendA, tracked, trackedA, noSl, noSlC, noSlV, bare, bareC, List.any_cons, List.any_nil, frz, frzC, frzReg, isGive, argE, argsE, isOwn, noOwn, fill, setCells, setVs, takeParts, rowsOf, inOrder, ownAt, List.set_cons_zero, List.set_cons_succ, List.nil_append, List.cons_append, List.append_nil, Nat.reduceBNe, Nat.reduceSub, Nat.reduceLT, Nat.reduceLeDiff, decide_true, decide_false, List.length_append, List.append_assoc, List.concat_eq_append, List.getElem?_append_right, List.singleton_append, Int.cast_ofNat_Int, again_normal, again_ret, again_exit, again_bif, beq_self_eq_true, findLoop, List.map_append, List.length_map, Bool.cond_true_left, Bool.cond_false_right, Bool.cond_false_left, Bool.cond_true_right, ge_iff_le, gt_iff_lt, ty3, ty4, ty9]
def n55 : Note where
  keep := fun i => match i with
    | 0 => [0]
    | 1 => [2]
    | _ => []
  ro := fun _ => false
  mv := fun _ => false
  give := fun _ => false
  free := fun _ => []
theorem n55k0 : n55.keep 0 = [0] := rfl
theorem n55k1 : n55.keep 1 = [2] := rfl
theorem n55ro (t : Nat) : n55.ro t = (false) := rfl
theorem n55mv (t : Nat) : n55.mv t = (false) := rfl
theorem n55gv (t : Nat) : n55.give t = (false) := rfl
noncomputable def b55 : Code := bodyOf Try.f55
theorem r55 (C : Oracle) (L : Loops) (a : Int) (h53 : ∀ a b c, C 53 [.v (.i .i64 a), .v (.i .i64 b), .v (.i .i64 c)] [] = some (.v (.b (decide (b ≤ a) && decide (a ≤ c))), [])) :
    evFn TT C L n55 Try.f55.results.toList (bodyOf Try.f55) [.v (.i .i64 a)] [] = some (.v (.b (decide (-1099511627776 ≤ a) && decide (a ≤ 1099511627776))), []) := by
  simp only [Try.f55, n55k0, n55k1, n55ro, n55mv, n55gv, evFn_finish, bodyOf, Option.getD_some, evCode_seq, evCode_region, evCode_cond, evCode_skip, evCode_ret, evCode_exit, evCode_loop, evCode_block_seq, evCode_block_region, evCode_block_cond, evCode_block_block, evCode_block_skip, enter, List.toList_toArray, evRegion, Bool.false_and, cond_false, evOps, stepOp, guardB, yieldedD, isWork, cond_true, workOk, workOp, Mx.force, opnd, Mx.look, Nat.reduceBEq, solid, Mx.fit, fitCs, fitC, List.isEmpty_cons, List.isEmpty_nil, Bool.false_or, Bool.or_false, Bool.true_or, Bool.or_true, Bool.and_true, Bool.true_and, Bool.and_false, Bool.not_true, Bool.not_false, Bool.not_not, Bool.or_not_self, Bool.not_or_self, Bool.and_self, Bool.or_self, toVs, cellsOf, toV, setReg, Mx.spend, hasOwn, ownFree, List.all_cons, List.all_nil, ownFreeC, Mx.put, ofConst, ofCell, after_some, Mx.prune, List.map_cons, List.map_nil, killB, killBs, andThen_normal, andThen_ret, andThen_exit, andThen_bif, after_bif, branch_b, unblock_normal, unblock_ret, unblock_exit, unblock_bif, pureOp, gx, putDst, offReg, callFails, isFuncCall, Option.isNone_none, Option.isNone_some, Option.isSome_none, Option.isSome_some, fieldOff, loadAt, partD, List.length_cons, List.length_nil, List.map, List.drop_succ_cons, List.drop_zero, List.take_succ_cons, List.take_zero, List.take_nil, List.drop_nil, List.getElem?_cons_zero, List.getElem?_cons_succ, List.getElem?_nil, Nat.reduceAdd, Nat.reduceMul, Nat.zero_add, Nat.add_zero, binD, binV, eqCells, eqC, lenD, sliceOf, ite_true, if_true, eq_self, reduceIte, reduceCtorEq, finish_ret, finish_normal, finish_bif, giveBack, resAll, resOne, outD, outOk, stayC, cellOk, valOk, lowC, lowP, List.take_zero, List.length_nil, forceAll, bound, asNat, elemIs, isStrK, sameInt, sliceD, kill, spendLoc, spendOk, setOwn, dropAl, dropAls, inReg, inObj, isCell, gone, List.contains_cons, List.contains_nil, List.elem_cons, List.elem_nil, lend, lendA, tracked, trackedA, noSl, noSlC, noSlV, bare, bareC, List.any_cons, List.any_nil, frz, frzC, frzReg, isGive, argE, argsE, isOwn, noOwn, fill, setCells, setVs, takeParts, rowsOf, inOrder, ownAt, List.set_cons_zero, List.set_cons_succ, List.nil_append, List.cons_append, List.append_nil, Nat.reduceBNe, Nat.reduceSub, Nat.reduceLT, Nat.reduceLeDiff, decide_true, decide_false, List.length_append, List.append_assoc, List.concat_eq_append, List.getElem?_append_right, List.singleton_append, Int.cast_ofNat_Int, again_normal, again_ret, again_exit, again_bif, beq_self_eq_true, findLoop, List.map_append, List.length_map, Bool.cond_true_left, Bool.cond_false_right, Bool.cond_false_left, Bool.cond_true_right, ge_iff_le, gt_iff_lt, ty3, ty4, h53]
def n52 : Note where
  keep := fun i => match i with
    | 0 => [0]
    | 1 => [2]
    | _ => []
  ro := fun _ => false
  mv := fun _ => false
  give := fun _ => false
  free := fun _ => []
theorem n52k0 : n52.keep 0 = [0] := rfl
theorem n52k1 : n52.keep 1 = [2] := rfl
theorem n52ro (t : Nat) : n52.ro t = (false) := rfl
theorem n52mv (t : Nat) : n52.mv t = (false) := rfl
theorem n52gv (t : Nat) : n52.give t = (false) := rfl
noncomputable def b52 : Code := bodyOf Try.f52
theorem r52 (C : Oracle) (L : Loops) (s : ByteArray) :
    evFn TT C L n52 Try.f52.results.toList (bodyOf Try.f52) [.v (.s s)] [] = some (.v (.b (decide (20 < (s.size : Int)))), []) := by
  simp only [Try.f52, n52k0, n52k1, n52ro, n52mv, n52gv, evFn_finish, bodyOf, Option.getD_some, evCode_seq, evCode_region, evCode_cond, evCode_skip, evCode_ret, evCode_exit, evCode_loop, evCode_block_seq, evCode_block_region, evCode_block_cond, evCode_block_block, evCode_block_skip, enter, List.toList_toArray, evRegion, Bool.false_and, cond_false, evOps, stepOp, guardB, yieldedD, isWork, cond_true, workOk, workOp, Mx.force, opnd, Mx.look, Nat.reduceBEq, solid, Mx.fit, fitCs, fitC, List.isEmpty_cons, List.isEmpty_nil, Bool.false_or, Bool.or_false, Bool.true_or, Bool.or_true, Bool.and_true, Bool.true_and, Bool.and_false, Bool.not_true, Bool.not_false, Bool.not_not, Bool.or_not_self, Bool.not_or_self, Bool.and_self, Bool.or_self, toVs, cellsOf, toV, setReg, Mx.spend, hasOwn, ownFree, List.all_cons, List.all_nil, ownFreeC, Mx.put, ofConst, ofCell, after_some, Mx.prune, List.map_cons, List.map_nil, killB, killBs, andThen_normal, andThen_ret, andThen_exit, andThen_bif, after_bif, branch_b, unblock_normal, unblock_ret, unblock_exit, unblock_bif, pureOp, gx, putDst, offReg, callFails, isFuncCall, Option.isNone_none, Option.isNone_some, Option.isSome_none, Option.isSome_some, fieldOff, loadAt, partD, List.length_cons, List.length_nil, List.map, List.drop_succ_cons, List.drop_zero, List.take_succ_cons, List.take_zero, List.take_nil, List.drop_nil, List.getElem?_cons_zero, List.getElem?_cons_succ, List.getElem?_nil, Nat.reduceAdd, Nat.reduceMul, Nat.zero_add, Nat.add_zero, binD, binV, eqCells, eqC, lenD, sliceOf, ite_true, if_true, eq_self, reduceIte, reduceCtorEq, finish_ret, finish_normal, finish_bif, giveBack, resAll, resOne, outD, outOk, stayC, cellOk, valOk, lowC, lowP, List.take_zero, List.length_nil, forceAll, bound, asNat, elemIs, isStrK, sameInt, sliceD, kill, spendLoc, spendOk, setOwn, dropAl, dropAls, inReg, inObj, isCell, gone, List.contains_cons, List.contains_nil, List.elem_cons, List.elem_nil, lend, lendA, tracked, trackedA, noSl, noSlC, noSlV, bare, bareC, List.any_cons, List.any_nil, frz, frzC, frzReg, isGive, argE, argsE, isOwn, noOwn, fill, setCells, setVs, takeParts, rowsOf, inOrder, ownAt, List.set_cons_zero, List.set_cons_succ, List.nil_append, List.cons_append, List.append_nil, Nat.reduceBNe, Nat.reduceSub, Nat.reduceLT, Nat.reduceLeDiff, decide_true, decide_false, List.length_append, List.append_assoc, List.concat_eq_append, List.getElem?_append_right, List.singleton_append, Int.cast_ofNat_Int, again_normal, again_ret, again_exit, again_bif, beq_self_eq_true, findLoop, List.map_append, List.length_map, Bool.cond_true_left, Bool.cond_false_right, Bool.cond_false_left, Bool.cond_true_right, ge_iff_le, gt_iff_lt, ty3, ty4, ty9]
def n72 : Note where
  keep := fun i => match i with
    | 0 => [0, 1]
    | 1 => [0, 1, 7, 8]
    | 2 => [0, 1, 7, 8, 9]
    | 3 => [0, 1, 5, 7, 8]
    | 4 => [0, 1, 5, 7, 8, 16]
    | 5 => [4]
    | 6 => [0, 1, 7, 8]
    | 7 => [4]
    | _ => []
  ro := fun _ => false
  mv := fun _ => false
  give := fun _ => false
  free := fun _ => []
theorem n72k0 : n72.keep 0 = [0, 1] := rfl
theorem n72k1 : n72.keep 1 = [0, 1, 7, 8] := rfl
theorem n72k2 : n72.keep 2 = [0, 1, 7, 8, 9] := rfl
theorem n72k3 : n72.keep 3 = [0, 1, 5, 7, 8] := rfl
theorem n72k4 : n72.keep 4 = [0, 1, 5, 7, 8, 16] := rfl
theorem n72k5 : n72.keep 5 = [4] := rfl
theorem n72k6 : n72.keep 6 = [0, 1, 7, 8] := rfl
theorem n72k7 : n72.keep 7 = [4] := rfl
theorem n72ro (t : Nat) : n72.ro t = (false) := rfl
theorem n72mv (t : Nat) : n72.mv t = (false) := rfl
theorem n72gv (t : Nat) : n72.give t = (false) := rfl
noncomputable def b72 : Code := bodyOf Try.f72
noncomputable def c72_0 : Code := (findLoop 0 (bodyOf Try.f72)).getD .skip
theorem fl72_0 : findLoop 0 b72 = some c72_0 := rfl

theorem l72 (C : Oracle) (p : ByteArray → Bool) (h52 : ∀ s, C 52 [.v (.s s)] [] = some (.v (.b (p s)), [])) : ∀ (suf pre : List ByteArray) (n : Nat), suf.length < n → ((pre ++ suf).length : Int) ≤ 140737488355328 →
    evL TT C n72 b72 n 0 ⟨[(0, .v (.sl 1 ((pre ++ suf).map rowS))), (1, .clo 52 []), (7, .v (.i .i64 (pre ++ suf).length)), (8, .v (.i .i64 pre.length))], []⟩ =
      match fi p suf pre.length with
      | some j => some (.ret, ⟨[(4, .v (.i .i64 j))], []⟩)
      | none => some (.normal, ⟨[(0, .v (.sl 1 ((pre ++ suf).map rowS))), (1, .clo 52 []), (7, .v (.i .i64 (pre ++ suf).length)), (8, .v (.i .i64 (pre ++ suf).length)), (9, .v (.b false))], []⟩)
  | [], pre, n, hn, hb => by
    obtain ⟨m, rfl⟩ : ∃ m, n = m + 1 := ⟨n - 1, by simp at hn; omega⟩
    rw [evL_step TT n72 fl72_0]
    have h1 : decide ((pre.length : Int) < (pre.length : Int)) = false := decide_eq_false (by omega)
    simp only [fi, h1, Try.f72, n72k0, n72k1, n72k2, n72k3, n72k4, n72k5, n72k6, n72k7, n72ro, n72mv, n72gv, c72_0, evFn_finish, bodyOf, Option.getD_some, evCode_seq, evCode_region, evCode_cond, evCode_skip, evCode_ret, evCode_exit, evCode_loop, evCode_block_seq, evCode_block_region, evCode_block_cond, evCode_block_block, evCode_block_skip, enter, List.toList_toArray, evRegion, Bool.false_and, cond_false, evOps, stepOp, guardB, yieldedD, isWork, cond_true, workOk, workOp, Mx.force, opnd, Mx.look, Nat.reduceBEq, solid, Mx.fit, fitCs, fitC, List.isEmpty_cons, List.isEmpty_nil, Bool.false_or, Bool.or_false, Bool.true_or, Bool.or_true, Bool.and_true, Bool.true_and, Bool.and_false, Bool.not_true, Bool.not_false, Bool.not_not, Bool.or_not_self, Bool.not_or_self, Bool.and_self, Bool.or_self, toVs, cellsOf, toV, setReg, Mx.spend, hasOwn, ownFree, List.all_cons, List.all_nil, ownFreeC, Mx.put, ofConst, ofCell, after_some, Mx.prune, List.map_cons, List.map_nil, killB, killBs, andThen_normal, andThen_ret, andThen_exit, andThen_bif, after_bif, branch_b, unblock_normal, unblock_ret, unblock_exit, unblock_bif, pureOp, gx, putDst, offReg, callFails, isFuncCall, Option.isNone_none, Option.isNone_some, Option.isSome_none, Option.isSome_some, fieldOff, loadAt, partD, List.length_cons, List.length_nil, List.map, List.drop_succ_cons, List.drop_zero, List.take_succ_cons, List.take_zero, List.take_nil, List.drop_nil, List.getElem?_cons_zero, List.getElem?_cons_succ, List.getElem?_nil, Nat.reduceAdd, Nat.reduceMul, Nat.zero_add, Nat.add_zero, binD, binV, eqCells, eqC, lenD, sliceOf, ite_true, if_true, eq_self, reduceIte, reduceCtorEq, finish_ret, finish_normal, finish_bif, giveBack, resAll, resOne, outD, outOk, stayC, cellOk, valOk, lowC, lowP, List.take_zero, List.length_nil, forceAll, bound, asNat, elemIs, isStrK, sameInt, sliceD, kill, spendLoc, spendOk, setOwn, dropAl, dropAls, inReg, inObj, isCell, gone, List.contains_cons, List.contains_nil, List.elem_cons, List.elem_nil, lend, lendA, tracked, trackedA, noSl, noSlC, noSlV, bare, bareC, List.any_cons, List.any_nil, frz, frzC, frzReg, isGive, argE, argsE, isOwn, noOwn, fill, setCells, setVs, takeParts, rowsOf, inOrder, ownAt, List.set_cons_zero, List.set_cons_succ, List.nil_append, List.cons_append, List.append_nil, Nat.reduceBNe, Nat.reduceSub, Nat.reduceLT, Nat.reduceLeDiff, decide_true, decide_false, List.concat_eq_append, List.getElem?_append_right, List.singleton_append, Int.cast_ofNat_Int, again_normal, again_ret, again_exit, again_bif, beq_self_eq_true, findLoop, Bool.cond_true_left, Bool.cond_false_right, Bool.cond_false_left, Bool.cond_true_right, ge_iff_le, gt_iff_lt, ty3, ty4, ty9, ty51, ty91]
  | x :: suf, pre, n, hn, hb => by
    obtain ⟨m, rfl⟩ : ∃ m, n = m + 1 := ⟨n - 1, by simp at hn; omega⟩
    rw [evL_step TT n72 fl72_0]
    have h1 : decide ((pre.length : Int) < ((pre ++ x :: suf).length : Int)) = true := decide_eq_true (by simp; omega)
    have h2 : decide (0 ≤ (pre.length : Int)) = true := decide_eq_true (by omega)
    have h3 : ((pre ++ x :: suf).map rowS)[(pre.length : Int).toNat]? = some [.s x] := by simp [rowS]
    have h4 : IntKind.i64.wrap ((pre.length : Int) + 1) = ((pre ++ [x]).length : Int) := by
      rw [wrap_id] <;> simp at hb ⊢ <;> omega
    simp only [fi, h1, h2, h3, h4, h52, Try.f72, n72k0, n72k1, n72k2, n72k3, n72k4, n72k5, n72k6, n72k7, n72ro, n72mv, n72gv, c72_0, evFn_finish, bodyOf, Option.getD_some, evCode_seq, evCode_region, evCode_cond, evCode_skip, evCode_ret, evCode_exit, evCode_loop, evCode_block_seq, evCode_block_region, evCode_block_cond, evCode_block_block, evCode_block_skip, enter, List.toList_toArray, evRegion, Bool.false_and, cond_false, evOps, stepOp, guardB, yieldedD, isWork, cond_true, workOk, workOp, Mx.force, opnd, Mx.look, Nat.reduceBEq, solid, Mx.fit, fitCs, fitC, List.isEmpty_cons, List.isEmpty_nil, Bool.false_or, Bool.or_false, Bool.true_or, Bool.or_true, Bool.and_true, Bool.true_and, Bool.and_false, Bool.not_true, Bool.not_false, Bool.not_not, Bool.or_not_self, Bool.not_or_self, Bool.and_self, Bool.or_self, toVs, cellsOf, toV, setReg, Mx.spend, hasOwn, ownFree, List.all_cons, List.all_nil, ownFreeC, Mx.put, ofConst, ofCell, after_some, Mx.prune, List.map_cons, List.map_nil, killB, killBs, andThen_normal, andThen_ret, andThen_exit, andThen_bif, after_bif, branch_b, unblock_normal, unblock_ret, unblock_exit, unblock_bif, pureOp, gx, putDst, offReg, callFails, isFuncCall, Option.isNone_none, Option.isNone_some, Option.isSome_none, Option.isSome_some, fieldOff, loadAt, partD, List.length_cons, List.length_nil, List.map, List.drop_succ_cons, List.drop_zero, List.take_succ_cons, List.take_zero, List.take_nil, List.drop_nil, List.getElem?_cons_zero, List.getElem?_cons_succ, List.getElem?_nil, Nat.reduceAdd, Nat.reduceMul, Nat.zero_add, Nat.add_zero, binD, binV, eqCells, eqC, lenD, sliceOf, ite_true, if_true, eq_self, reduceIte, reduceCtorEq, finish_ret, finish_normal, finish_bif, giveBack, resAll, resOne, outD, outOk, stayC, cellOk, valOk, lowC, lowP, List.take_zero, List.length_nil, forceAll, bound, asNat, elemIs, isStrK, sameInt, sliceD, kill, spendLoc, spendOk, setOwn, dropAl, dropAls, inReg, inObj, isCell, gone, List.contains_cons, List.contains_nil, List.elem_cons, List.elem_nil, lend, lendA, tracked, trackedA, noSl, noSlC, noSlV, bare, bareC, List.any_cons, List.any_nil, frz, frzC, frzReg, isGive, argE, argsE, isOwn, noOwn, fill, setCells, setVs, takeParts, rowsOf, inOrder, ownAt, List.set_cons_zero, List.set_cons_succ, List.nil_append, List.cons_append, List.append_nil, Nat.reduceBNe, Nat.reduceSub, Nat.reduceLT, Nat.reduceLeDiff, decide_true, decide_false, List.concat_eq_append, List.getElem?_append_right, List.singleton_append, Int.cast_ofNat_Int, again_normal, again_ret, again_exit, again_bif, beq_self_eq_true, findLoop, Bool.cond_true_left, Bool.cond_false_right, Bool.cond_false_left, Bool.cond_true_right, ge_iff_le, gt_iff_lt, ty3, ty4, ty9, ty51, ty91]
    cases hp : p x with
    | true => rfl
    | false =>
      have ih := l72 C p h52 suf (pre ++ [x]) m (by simp at hn; omega) (by simpa using hb)
      simp only [List.append_assoc, List.cons_append, List.nil_append] at ih
      rw [cond_false, ih]
      simp
theorem r72 (C : Oracle)  (p : ByteArray → Bool) (h52 : ∀ s, C 52 [.v (.s s)] [] = some (.v (.b (p s)), [])) (xs : List ByteArray) (n : Nat) (hn : xs.length < n) (hb : (xs.length : Int) ≤ 140737488355328) :
    evFn TT C (evL TT C n72 b72 n) n72 Try.f72.results.toList (bodyOf Try.f72) [.v (.sl 1 (xs.map rowS)), .clo 52 []] [] = some (.v (.i .i64 (match fi p xs 0 with | some j => (j : Int) | none => -1)), []) := by
  have hl := l72 C p h52 xs [] n hn (by simpa using hb)
  simp only [List.nil_append, List.length_nil, Int.cast_ofNat_Int] at hl
  simp only [Try.f72, n72k0, n72k1, n72k2, n72k3, n72k4, n72k5, n72k6, n72k7, n72ro, n72mv, n72gv, c72_0, evFn_finish, bodyOf, Option.getD_some, evCode_seq, evCode_region, evCode_cond, evCode_skip, evCode_ret, evCode_exit, evCode_loop, evCode_block_seq, evCode_block_region, evCode_block_cond, evCode_block_block, evCode_block_skip, enter, List.toList_toArray, evRegion, Bool.false_and, cond_false, evOps, stepOp, guardB, yieldedD, isWork, cond_true, workOk, workOp, Mx.force, opnd, Mx.look, Nat.reduceBEq, solid, Mx.fit, fitCs, fitC, List.isEmpty_cons, List.isEmpty_nil, Bool.false_or, Bool.or_false, Bool.true_or, Bool.or_true, Bool.and_true, Bool.true_and, Bool.and_false, Bool.not_true, Bool.not_false, Bool.not_not, Bool.or_not_self, Bool.not_or_self, Bool.and_self, Bool.or_self, toVs, cellsOf, toV, setReg, Mx.spend, hasOwn, ownFree, List.all_cons, List.all_nil, ownFreeC, Mx.put, ofConst, ofCell, after_some, Mx.prune, List.map_cons, List.map_nil, killB, killBs, andThen_normal, andThen_ret, andThen_exit, andThen_bif, after_bif, branch_b, unblock_normal, unblock_ret, unblock_exit, unblock_bif, pureOp, gx, putDst, offReg, callFails, isFuncCall, Option.isNone_none, Option.isNone_some, Option.isSome_none, Option.isSome_some, fieldOff, loadAt, partD, List.length_cons, List.length_nil, List.map, List.drop_succ_cons, List.drop_zero, List.take_succ_cons, List.take_zero, List.take_nil, List.drop_nil, List.getElem?_cons_zero, List.getElem?_cons_succ, List.getElem?_nil, Nat.reduceAdd, Nat.reduceMul, Nat.zero_add, Nat.add_zero, binD, binV, eqCells, eqC, lenD, sliceOf, ite_true, if_true, eq_self, reduceIte, reduceCtorEq, finish_ret, finish_normal, finish_bif, giveBack, resAll, resOne, outD, outOk, stayC, cellOk, valOk, lowC, lowP, List.take_zero, List.length_nil, forceAll, bound, asNat, elemIs, isStrK, sameInt, sliceD, kill, spendLoc, spendOk, setOwn, dropAl, dropAls, inReg, inObj, isCell, gone, List.contains_cons, List.contains_nil, List.elem_cons, List.elem_nil, lend, lendA, tracked, trackedA, noSl, noSlC, noSlV, bare, bareC, List.any_cons, List.any_nil, frz, frzC, frzReg, isGive, argE, argsE, isOwn, noOwn, fill, setCells, setVs, takeParts, rowsOf, inOrder, ownAt, List.set_cons_zero, List.set_cons_succ, List.nil_append, List.cons_append, List.append_nil, Nat.reduceBNe, Nat.reduceSub, Nat.reduceLT, Nat.reduceLeDiff, decide_true, decide_false, List.concat_eq_append, List.getElem?_append_right, List.singleton_append, Int.cast_ofNat_Int, again_normal, again_ret, again_exit, again_bif, beq_self_eq_true, findLoop, List.length_map, Bool.cond_true_left, Bool.cond_false_right, Bool.cond_false_left, Bool.cond_true_right, ge_iff_le, gt_iff_lt, ty3, ty4, ty9, ty51, ty91, hl]
  cases fi p xs 0 with
  | some j => simp only [Try.f72, n72k0, n72k1, n72k2, n72k3, n72k4, n72k5, n72k6, n72k7, n72ro, n72mv, n72gv, c72_0, evFn_finish, bodyOf, Option.getD_some, evCode_seq, evCode_region, evCode_cond, evCode_skip, evCode_ret, evCode_exit, evCode_loop, evCode_block_seq, evCode_block_region, evCode_block_cond, evCode_block_block, evCode_block_skip, enter, List.toList_toArray, evRegion, Bool.false_and, cond_false, evOps, stepOp, guardB, yieldedD, isWork, cond_true, workOk, workOp, Mx.force, opnd, Mx.look, Nat.reduceBEq, solid, Mx.fit, fitCs, fitC, List.isEmpty_cons, List.isEmpty_nil, Bool.false_or, Bool.or_false, Bool.true_or, Bool.or_true, Bool.and_true, Bool.true_and, Bool.and_false, Bool.not_true, Bool.not_false, Bool.not_not, Bool.or_not_self, Bool.not_or_self, Bool.and_self, Bool.or_self, toVs, cellsOf, toV, setReg, Mx.spend, hasOwn, ownFree, List.all_cons, List.all_nil, ownFreeC, Mx.put, ofConst, ofCell, after_some, Mx.prune, List.map_cons, List.map_nil, killB, killBs, andThen_normal, andThen_ret, andThen_exit, andThen_bif, after_bif, branch_b, unblock_normal, unblock_ret, unblock_exit, unblock_bif, pureOp, gx, putDst, offReg, callFails, isFuncCall, Option.isNone_none, Option.isNone_some, Option.isSome_none, Option.isSome_some, fieldOff, loadAt, partD, List.length_cons, List.length_nil, List.map, List.drop_succ_cons, List.drop_zero, List.take_succ_cons, List.take_zero, List.take_nil, List.drop_nil, List.getElem?_cons_zero, List.getElem?_cons_succ, List.getElem?_nil, Nat.reduceAdd, Nat.reduceMul, Nat.zero_add, Nat.add_zero, binD, binV, eqCells, eqC, lenD, sliceOf, ite_true, if_true, eq_self, reduceIte, reduceCtorEq, finish_ret, finish_normal, finish_bif, giveBack, resAll, resOne, outD, outOk, stayC, cellOk, valOk, lowC, lowP, List.take_zero, List.length_nil, forceAll, bound, asNat, elemIs, isStrK, sameInt, sliceD, kill, spendLoc, spendOk, setOwn, dropAl, dropAls, inReg, inObj, isCell, gone, List.contains_cons, List.contains_nil, List.elem_cons, List.elem_nil, lend, lendA, tracked, trackedA, noSl, noSlC, noSlV, bare, bareC, List.any_cons, List.any_nil, frz, frzC, frzReg, isGive, argE, argsE, isOwn, noOwn, fill, setCells, setVs, takeParts, rowsOf, inOrder, ownAt, List.set_cons_zero, List.set_cons_succ, List.nil_append, List.cons_append, List.append_nil, Nat.reduceBNe, Nat.reduceSub, Nat.reduceLT, Nat.reduceLeDiff, decide_true, decide_false, List.concat_eq_append, List.getElem?_append_right, List.singleton_append, Int.cast_ofNat_Int, again_normal, again_ret, again_exit, again_bif, beq_self_eq_true, findLoop, Bool.cond_true_left, Bool.cond_false_right, Bool.cond_false_left, Bool.cond_true_right, ge_iff_le, gt_iff_lt, ty3, ty4, ty9, ty51, ty91]
  | none => simp only [Try.f72, n72k0, n72k1, n72k2, n72k3, n72k4, n72k5, n72k6, n72k7, n72ro, n72mv, n72gv, c72_0, evFn_finish, bodyOf, Option.getD_some, evCode_seq, evCode_region, evCode_cond, evCode_skip, evCode_ret, evCode_exit, evCode_loop, evCode_block_seq, evCode_block_region, evCode_block_cond, evCode_block_block, evCode_block_skip, enter, List.toList_toArray, evRegion, Bool.false_and, cond_false, evOps, stepOp, guardB, yieldedD, isWork, cond_true, workOk, workOp, Mx.force, opnd, Mx.look, Nat.reduceBEq, solid, Mx.fit, fitCs, fitC, List.isEmpty_cons, List.isEmpty_nil, Bool.false_or, Bool.or_false, Bool.true_or, Bool.or_true, Bool.and_true, Bool.true_and, Bool.and_false, Bool.not_true, Bool.not_false, Bool.not_not, Bool.or_not_self, Bool.not_or_self, Bool.and_self, Bool.or_self, toVs, cellsOf, toV, setReg, Mx.spend, hasOwn, ownFree, List.all_cons, List.all_nil, ownFreeC, Mx.put, ofConst, ofCell, after_some, Mx.prune, List.map_cons, List.map_nil, killB, killBs, andThen_normal, andThen_ret, andThen_exit, andThen_bif, after_bif, branch_b, unblock_normal, unblock_ret, unblock_exit, unblock_bif, pureOp, gx, putDst, offReg, callFails, isFuncCall, Option.isNone_none, Option.isNone_some, Option.isSome_none, Option.isSome_some, fieldOff, loadAt, partD, List.length_cons, List.length_nil, List.map, List.drop_succ_cons, List.drop_zero, List.take_succ_cons, List.take_zero, List.take_nil, List.drop_nil, List.getElem?_cons_zero, List.getElem?_cons_succ, List.getElem?_nil, Nat.reduceAdd, Nat.reduceMul, Nat.zero_add, Nat.add_zero, binD, binV, eqCells, eqC, lenD, sliceOf, ite_true, if_true, eq_self, reduceIte, reduceCtorEq, finish_ret, finish_normal, finish_bif, giveBack, resAll, resOne, outD, outOk, stayC, cellOk, valOk, lowC, lowP, List.take_zero, List.length_nil, forceAll, bound, asNat, elemIs, isStrK, sameInt, sliceD, kill, spendLoc, spendOk, setOwn, dropAl, dropAls, inReg, inObj, isCell, gone, List.contains_cons, List.contains_nil, List.elem_cons, List.elem_nil, lend, lendA, tracked, trackedA, noSl, noSlC, noSlV, bare, bareC, List.any_cons, List.any_nil, frz, frzC, frzReg, isGive, argE, argsE, isOwn, noOwn, fill, setCells, setVs, takeParts, rowsOf, inOrder, ownAt, List.set_cons_zero, List.set_cons_succ, List.nil_append, List.cons_append, List.append_nil, Nat.reduceBNe, Nat.reduceSub, Nat.reduceLT, Nat.reduceLeDiff, decide_true, decide_false, List.concat_eq_append, List.getElem?_append_right, List.singleton_append, Int.cast_ofNat_Int, again_normal, again_ret, again_exit, again_bif, beq_self_eq_true, findLoop, Bool.cond_true_left, Bool.cond_false_right, Bool.cond_false_left, Bool.cond_true_right, ge_iff_le, gt_iff_lt, ty3, ty4, ty9, ty51, ty91]
def n51 : Note where
  keep := fun i => match i with
    | 0 => [0, 1]
    | 1 => [4]
    | _ => []
  ro := fun _ => false
  mv := fun _ => false
  give := fun _ => false
  free := fun _ => []
theorem n51k0 : n51.keep 0 = [0, 1] := rfl
theorem n51k1 : n51.keep 1 = [4] := rfl
theorem n51ro (t : Nat) : n51.ro t = (false) := rfl
theorem n51mv (t : Nat) : n51.mv t = (false) := rfl
theorem n51gv (t : Nat) : n51.give t = (false) := rfl
noncomputable def b51 : Code := bodyOf Try.f51
theorem r51 (C : Oracle) (L : Loops) (p : ByteArray → Bool) (xs : List ByteArray) (h72 : C 72 [.v (.sl 1 (xs.map rowS)), .clo 52 []] [] = some (.v (.i .i64 (match fi p xs 0 with | some j => (j : Int) | none => -1)), [])) :
    evFn TT C L n51 Try.f51.results.toList (bodyOf Try.f51) [.v (.sl 1 (xs.map rowS)), .clo 52 []] [] = some (.v (.b (xs.any p)), []) := by
  simp only [Try.f51, n51k0, n51k1, n51ro, n51mv, n51gv, evFn_finish, bodyOf, Option.getD_some, evCode_seq, evCode_region, evCode_cond, evCode_skip, evCode_ret, evCode_exit, evCode_loop, evCode_block_seq, evCode_block_region, evCode_block_cond, evCode_block_block, evCode_block_skip, enter, List.toList_toArray, evRegion, Bool.false_and, cond_false, evOps, stepOp, guardB, yieldedD, isWork, cond_true, workOk, workOp, Mx.force, opnd, Mx.look, Nat.reduceBEq, solid, Mx.fit, fitCs, fitC, List.isEmpty_cons, List.isEmpty_nil, Bool.false_or, Bool.or_false, Bool.true_or, Bool.or_true, Bool.and_true, Bool.true_and, Bool.and_false, Bool.not_true, Bool.not_false, Bool.not_not, Bool.or_not_self, Bool.not_or_self, Bool.and_self, Bool.or_self, toVs, cellsOf, toV, setReg, Mx.spend, hasOwn, ownFree, List.all_cons, List.all_nil, ownFreeC, Mx.put, ofConst, ofCell, after_some, Mx.prune, List.map_cons, List.map_nil, killB, killBs, andThen_normal, andThen_ret, andThen_exit, andThen_bif, after_bif, branch_b, unblock_normal, unblock_ret, unblock_exit, unblock_bif, pureOp, gx, putDst, offReg, callFails, isFuncCall, Option.isNone_none, Option.isNone_some, Option.isSome_none, Option.isSome_some, fieldOff, loadAt, partD, List.length_cons, List.length_nil, List.map, List.drop_succ_cons, List.drop_zero, List.take_succ_cons, List.take_zero, List.take_nil, List.drop_nil, List.getElem?_cons_zero, List.getElem?_cons_succ, List.getElem?_nil, Nat.reduceAdd, Nat.reduceMul, Nat.zero_add, Nat.add_zero, binD, binV, eqCells, eqC, lenD, sliceOf, ite_true, if_true, eq_self, reduceIte, reduceCtorEq, finish_ret, finish_normal, finish_bif, giveBack, resAll, resOne, outD, outOk, stayC, cellOk, valOk, lowC, lowP, List.take_zero, List.length_nil, forceAll, bound, asNat, elemIs, isStrK, sameInt, sliceD, kill, spendLoc, spendOk, setOwn, dropAl, dropAls, inReg, inObj, isCell, gone, List.contains_cons, List.contains_nil, List.elem_cons, List.elem_nil, lend, lendA, tracked, trackedA, noSl, noSlC, noSlV, bare, bareC, List.any_cons, List.any_nil, frz, frzC, frzReg, isGive, argE, argsE, isOwn, noOwn, fill, setCells, setVs, takeParts, rowsOf, inOrder, ownAt, List.set_cons_zero, List.set_cons_succ, List.nil_append, List.cons_append, List.append_nil, Nat.reduceBNe, Nat.reduceSub, Nat.reduceLT, Nat.reduceLeDiff, decide_true, decide_false, List.concat_eq_append, List.getElem?_append_right, List.singleton_append, Int.cast_ofNat_Int, again_normal, again_ret, again_exit, again_bif, beq_self_eq_true, findLoop, Bool.cond_true_left, Bool.cond_false_right, Bool.cond_false_left, Bool.cond_true_right, ge_iff_le, gt_iff_lt, ty3, ty4, ty9, ty51, ty91, h72]
  rw [← fi_any p xs 0]
  cases fi p xs 0 with
  | some j => have : decide (0 ≤ (j : Int)) = true := decide_eq_true (by omega)
              simp only [this, Option.isSome_some]
  | none => simp
def replyF (c n : Int) (t : ByteArray) (l : List ByteArray) : Int :=
  bif !(decide (0 ≤ c) && decide (c ≤ 13)) then 3 else bif (decide (20 < (t.size : Int)) || decide (20 < (l.length : Int))) || l.any (fun s => decide (20 < (s.size : Int))) then 1
  else bif !(decide (-1099511627776 ≤ n) && decide (n ≤ 1099511627776)) then 2 else 0
def n25 : Note where
  keep := fun i => match i with
    | 0 => [1]
    | 1 => [1, 10]
    | 2 => [2]
    | 3 => [1, 20]
    | 4 => [2]
    | 5 => [1, 23]
    | 6 => [2]
    | 7 => [31]
    | 8 => [2]
    | 9 => [2]
    | _ => []
  ro := fun t => t == 1
  mv := fun _ => false
  give := fun _ => false
  free := fun _ => []
theorem n25k0 : n25.keep 0 = [1] := rfl
theorem n25k1 : n25.keep 1 = [1, 10] := rfl
theorem n25k2 : n25.keep 2 = [2] := rfl
theorem n25k3 : n25.keep 3 = [1, 20] := rfl
theorem n25k4 : n25.keep 4 = [2] := rfl
theorem n25k5 : n25.keep 5 = [1, 23] := rfl
theorem n25k6 : n25.keep 6 = [2] := rfl
theorem n25k7 : n25.keep 7 = [31] := rfl
theorem n25k8 : n25.keep 8 = [2] := rfl
theorem n25k9 : n25.keep 9 = [2] := rfl
theorem n25ro (t : Nat) : n25.ro t = (t == 1) := rfl
theorem n25mv (t : Nat) : n25.mv t = (false) := rfl
theorem n25gv (t : Nat) : n25.give t = (false) := rfl
noncomputable def b25 : Code := bodyOf Try.f25
theorem r25 (C : Oracle) (L : Loops) (c n : Int) (t : ByteArray) (l : List ByteArray) (h51 : C 51 [.v (.sl 1 (l.map rowS)), .clo 52 []] [] = some (.v (.b (l.any (fun s => decide (20 < (s.size : Int))))), [])) :
    evFn TT C L n25 Try.f25.results.toList (bodyOf Try.f25) [.agg [.v (.i .i64 c), .v (.s t), .v (.i .i64 n), .v (.sl 1 (l.map rowS))]] [] = some (.v (.i .i64 (replyF c n t l)), []) := by
  simp only [Try.f25, n25k0, n25k1, n25k2, n25k3, n25k4, n25k5, n25k6, n25k7, n25k8, n25k9, n25ro, n25mv, n25gv, evFn_finish, bodyOf, Option.getD_some, evCode_seq, evCode_region, evCode_cond, evCode_skip, evCode_ret, evCode_exit, evCode_loop, evCode_block_seq, evCode_block_region, evCode_block_cond, evCode_block_block, evCode_block_skip, enter, List.toList_toArray, evRegion, Bool.false_and, cond_false, evOps, stepOp, guardB, yieldedD, isWork, cond_true, workOk, workOp, Mx.force, opnd, Mx.look, Nat.reduceBEq, solid, Mx.fit, fitCs, fitC, List.isEmpty_cons, List.isEmpty_nil, Bool.false_or, Bool.or_false, Bool.true_or, Bool.or_true, Bool.and_true, Bool.true_and, Bool.and_false, Bool.not_true, Bool.not_false, Bool.not_not, Bool.or_not_self, Bool.not_or_self, Bool.and_self, Bool.or_self, toVs, cellsOf, toV, setReg, Mx.spend, hasOwn, ownFree, List.all_cons, List.all_nil, ownFreeC, Mx.put, ofConst, ofCell, after_some, Mx.prune, List.map_cons, List.map_nil, killB, killBs, andThen_normal, andThen_ret, andThen_exit, andThen_bif, after_bif, branch_b, unblock_normal, unblock_ret, unblock_exit, unblock_bif, pureOp, gx, putDst, offReg, callFails, isFuncCall, Option.isNone_none, Option.isNone_some, Option.isSome_none, Option.isSome_some, fieldOff, loadAt, partD, List.length_cons, List.length_nil, List.map, List.drop_succ_cons, List.drop_zero, List.take_succ_cons, List.take_zero, List.take_nil, List.drop_nil, List.getElem?_cons_zero, List.getElem?_cons_succ, List.getElem?_nil, Nat.reduceAdd, Nat.reduceMul, Nat.zero_add, Nat.add_zero, binD, binV, eqCells, eqC, lenD, sliceOf, ite_true, if_true, eq_self, reduceIte, reduceCtorEq, finish_ret, finish_normal, finish_bif, giveBack, resAll, resOne, outD, outOk, stayC, cellOk, valOk, lowC, lowP, List.take_zero, List.length_nil, forceAll, bound, asNat, elemIs, isStrK, sameInt, sliceD, kill, spendLoc, spendOk, setOwn, dropAl, dropAls, inReg, inObj, isCell, gone, List.contains_cons, List.contains_nil, List.elem_cons, List.elem_nil, lend, lendA, tracked, trackedA, noSl, noSlC, noSlV, bare, bareC, List.any_cons, List.any_nil, frz, frzC, frzReg, isGive, argE, argsE, isOwn, noOwn, fill, setCells, setVs, takeParts, rowsOf, inOrder, ownAt, List.set_cons_zero, List.set_cons_succ, List.nil_append, List.cons_append, List.append_nil, Nat.reduceBNe, Nat.reduceSub, Nat.reduceLT, Nat.reduceLeDiff, decide_true, decide_false, List.concat_eq_append, List.getElem?_append_right, List.singleton_append, Int.cast_ofNat_Int, again_normal, again_ret, again_exit, again_bif, beq_self_eq_true, findLoop, List.length_map, Bool.cond_true_left, Bool.cond_false_right, Bool.cond_false_left, Bool.cond_true_right, ge_iff_le, gt_iff_lt, ty3, ty4, ty9, ty22, ty51, ty53, ty91, h51]
  simp only [replyF, Bool.cond_eq_ite]
  generalize l.any (fun s => decide (20 < (s.size : Int))) = q
  cases q <;> simp only [Bool.or_false, Bool.or_true, Bool.false_eq_true, if_true, if_false, reduceIte, Bool.not_eq_true', Bool.or_eq_true, Bool.and_eq_true, Bool.and_eq_false_iff, Bool.not_eq_eq_eq_not, Bool.not_true, decide_eq_true_eq, decide_eq_false_iff_not]
  all_goals (repeat' split)
  all_goals first | rfl | omega
def n26 : Note where
  keep := fun i => match i with
    | 0 => [1, 2]
    | 1 => [1, 2]
    | 2 => [2]
    | _ => []
  ro := fun _ => false
  mv := fun t => t == 7
  give := fun _ => false
  free := fun _ => []
theorem n26k0 : n26.keep 0 = [1, 2] := rfl
theorem n26k1 : n26.keep 1 = [1, 2] := rfl
theorem n26k2 : n26.keep 2 = [2] := rfl
theorem n26ro (t : Nat) : n26.ro t = (false) := rfl
theorem n26mv (t : Nat) : n26.mv t = (t == 7) := rfl
theorem n26gv (t : Nat) : n26.give t = (false) := rfl
noncomputable def b26 : Code := bodyOf Try.f26
theorem r26 (C : Oracle) (L : Loops) (c n : Int) (t : ByteArray) (l : List ByteArray) (hb : decide ((l.length : Int) * 16 ≤ 140737488355328) = true) :
    evFn TT C L n26 Try.f26.results.toList (bodyOf Try.f26) [.agg [.v (.i .i64 c), .v (.s t), .v (.i .i64 n), .v (.sl 1 (l.map rowS))]] [] = some (.agg [.v (.i .i64 c), .v (.s t), .v (.i .i64 n), .own 1 (l.map rowS)], []) := by
  simp only [Try.f26, n26k0, n26k1, n26k2, n26ro, n26mv, n26gv, evFn_finish, bodyOf, Option.getD_some, evCode_seq, evCode_region, evCode_cond, evCode_skip, evCode_ret, evCode_exit, evCode_loop, evCode_block_seq, evCode_block_region, evCode_block_cond, evCode_block_block, evCode_block_skip, enter, List.toList_toArray, evRegion, Bool.false_and, cond_false, evOps, stepOp, guardB, yieldedD, isWork, cond_true, workOk, workOp, Mx.force, opnd, Mx.look, Nat.reduceBEq, solid, Mx.fit, fitCs, fitC, List.isEmpty_cons, List.isEmpty_nil, Bool.false_or, Bool.or_false, Bool.true_or, Bool.or_true, Bool.and_true, Bool.true_and, Bool.and_false, Bool.not_true, Bool.not_false, Bool.not_not, Bool.or_not_self, Bool.not_or_self, Bool.and_self, Bool.or_self, toVs, cellsOf, toV, setReg, Mx.spend, hasOwn, ownFree, List.all_cons, List.all_nil, ownFreeC, Mx.put, ofConst, ofCell, after_some, Mx.prune, List.map_cons, List.map_nil, killB, killBs, andThen_normal, andThen_ret, andThen_exit, andThen_bif, after_bif, branch_b, unblock_normal, unblock_ret, unblock_exit, unblock_bif, pureOp, gx, putDst, offReg, callFails, isFuncCall, Option.isNone_none, Option.isNone_some, Option.isSome_none, Option.isSome_some, fieldOff, loadAt, partD, List.length_cons, List.length_nil, List.map, List.drop_succ_cons, List.drop_zero, List.take_succ_cons, List.take_zero, List.take_nil, List.drop_nil, List.getElem?_cons_zero, List.getElem?_cons_succ, List.getElem?_nil, Nat.reduceAdd, Nat.reduceMul, Nat.zero_add, Nat.add_zero, binD, binV, eqCells, eqC, lenD, sliceOf, ite_true, if_true, eq_self, reduceIte, reduceCtorEq, finish_ret, finish_normal, finish_bif, giveBack, resAll, resOne, outD, outOk, stayC, cellOk, valOk, lowC, lowP, List.take_zero, List.length_nil, forceAll, bound, asNat, elemIs, isStrK, sameInt, sliceD, kill, spendLoc, spendOk, setOwn, dropAl, dropAls, inReg, inObj, isCell, gone, List.contains_cons, List.contains_nil, List.elem_cons, List.elem_nil, lend, lendA, tracked, trackedA, noSl, noSlC, noSlV, bare, bareC, List.any_cons, List.any_nil, frz, frzC, frzReg, isGive, argE, argsE, isOwn, noOwn, fill, setCells, setVs, takeParts, rowsOf, inOrder, ownAt, List.set_cons_zero, List.set_cons_succ, List.nil_append, List.cons_append, List.append_nil, Nat.reduceBNe, Nat.reduceSub, Nat.reduceLT, Nat.reduceLeDiff, decide_true, decide_false, List.concat_eq_append, List.getElem?_append_right, List.singleton_append, Int.cast_ofNat_Int, again_normal, again_ret, again_exit, again_bif, beq_self_eq_true, findLoop, List.length_map, Bool.cond_true_left, Bool.cond_false_right, Bool.cond_false_left, Bool.cond_true_right, ge_iff_le, gt_iff_lt, ty3, ty9, ty22, ty51, ty53, hb]
def n27 : Note where
  keep := fun i => match i with
    | 0 => [1]
    | 1 => [1, 7]
    | 2 => [2]
    | 3 => [1, 17]
    | 4 => [2]
    | 5 => [1, 3]
    | 6 => [1, 3, 22]
    | 7 => [1, 3]
    | 8 => [1, 3, 31]
    | 9 => [2]
    | 10 => [35]
    | 11 => [2]
    | 12 => [2]
    | _ => []
  ro := fun t => t == 1
  mv := fun _ => false
  give := fun _ => false
  free := fun _ => []
theorem n27k0 : n27.keep 0 = [1] := rfl
theorem n27k1 : n27.keep 1 = [1, 7] := rfl
theorem n27k2 : n27.keep 2 = [2] := rfl
theorem n27k3 : n27.keep 3 = [1, 17] := rfl
theorem n27k4 : n27.keep 4 = [2] := rfl
theorem n27k5 : n27.keep 5 = [1, 3] := rfl
theorem n27k6 : n27.keep 6 = [1, 3, 22] := rfl
theorem n27k7 : n27.keep 7 = [1, 3] := rfl
theorem n27k8 : n27.keep 8 = [1, 3, 31] := rfl
theorem n27k9 : n27.keep 9 = [2] := rfl
theorem n27k10 : n27.keep 10 = [35] := rfl
theorem n27k11 : n27.keep 11 = [2] := rfl
theorem n27k12 : n27.keep 12 = [2] := rfl
theorem n27ro (t : Nat) : n27.ro t = (t == 1) := rfl
theorem n27mv (t : Nat) : n27.mv t = (false) := rfl
theorem n27gv (t : Nat) : n27.give t = (false) := rfl
noncomputable def b27 : Code := bodyOf Try.f27
noncomputable def c27_0 : Code := (findLoop 0 (bodyOf Try.f27)).getD .skip
theorem fl27_0 : findLoop 0 b27 = some c27_0 := rfl

theorem l27 (C : Oracle) (c n : Int) (t : ByteArray) (h54 : ∀ s, C 54 [.v (.s s)] [] = some (.v (.b (decide ((s.size : Int) ≤ 20))), [])) : ∀ (suf pre : List ByteArray) (k : Nat), suf.length < k → ((pre ++ suf).length : Int) ≤ 140737488355328 →
    evL TT C n27 b27 k 0 ⟨[(1, .rp [.i .i64 c, .s t, .i .i64 n, .sl 1 ((pre ++ suf).map rowS)]), (3, .v (.i .i64 pre.length))], []⟩ =
      bif suf.any (fun s => decide (20 < (s.size : Int))) then some (.ret, ⟨[(2, .v (.i .i64 1))], []⟩)
      else some (.normal, ⟨[(1, .rp [.i .i64 c, .s t, .i .i64 n, .sl 1 ((pre ++ suf).map rowS)]), (3, .v (.i .i64 (pre ++ suf).length)), (22, .v (.b false))], []⟩)
  | [], pre, k, hn, hb => by
    obtain ⟨m, rfl⟩ : ∃ m, k = m + 1 := ⟨k - 1, by simp at hn; omega⟩
    rw [evL_step TT n27 fl27_0]
    have h1 : decide ((pre.length : Int) < (pre.length : Int)) = false := decide_eq_false (by omega)
    simp only [List.length_map, h1, Try.f27, n27k0, n27k1, n27k2, n27k3, n27k4, n27k5, n27k6, n27k7, n27k8, n27k9, n27k10, n27k11, n27k12, n27ro, n27mv, n27gv, c27_0, evFn_finish, bodyOf, Option.getD_some, evCode_seq, evCode_region, evCode_cond, evCode_skip, evCode_ret, evCode_exit, evCode_loop, evCode_block_seq, evCode_block_region, evCode_block_cond, evCode_block_block, evCode_block_skip, enter, List.toList_toArray, evRegion, Bool.false_and, cond_false, evOps, stepOp, guardB, yieldedD, isWork, cond_true, workOk, workOp, Mx.force, opnd, Mx.look, Nat.reduceBEq, solid, Mx.fit, fitCs, fitC, List.isEmpty_cons, List.isEmpty_nil, Bool.false_or, Bool.or_false, Bool.true_or, Bool.or_true, Bool.and_true, Bool.true_and, Bool.and_false, Bool.not_true, Bool.not_false, Bool.not_not, Bool.or_not_self, Bool.not_or_self, Bool.and_self, Bool.or_self, toVs, cellsOf, toV, setReg, Mx.spend, hasOwn, ownFree, List.all_cons, List.all_nil, ownFreeC, Mx.put, ofConst, ofCell, after_some, Mx.prune, List.map_cons, List.map_nil, killB, killBs, andThen_normal, andThen_ret, andThen_exit, andThen_bif, after_bif, branch_b, unblock_normal, unblock_ret, unblock_exit, unblock_bif, pureOp, gx, putDst, offReg, callFails, isFuncCall, Option.isNone_none, Option.isNone_some, Option.isSome_none, Option.isSome_some, fieldOff, loadAt, partD, List.length_cons, List.length_nil, List.map, List.drop_succ_cons, List.drop_zero, List.take_succ_cons, List.take_zero, List.take_nil, List.drop_nil, List.getElem?_cons_zero, List.getElem?_cons_succ, List.getElem?_nil, Nat.reduceAdd, Nat.reduceMul, Nat.zero_add, Nat.add_zero, binD, binV, eqCells, eqC, lenD, sliceOf, ite_true, if_true, eq_self, reduceIte, reduceCtorEq, finish_ret, finish_normal, finish_bif, giveBack, resAll, resOne, outD, outOk, stayC, cellOk, valOk, lowC, lowP, List.take_zero, List.length_nil, forceAll, bound, asNat, elemIs, isStrK, sameInt, sliceD, kill, spendLoc, spendOk, setOwn, dropAl, dropAls, inReg, inObj, isCell, gone, List.contains_cons, List.contains_nil, List.elem_cons, List.elem_nil, lend, lendA, tracked, trackedA, noSl, noSlC, noSlV, bare, bareC, List.any_cons, List.any_nil, frz, frzC, frzReg, isGive, argE, argsE, isOwn, noOwn, fill, setCells, setVs, takeParts, rowsOf, inOrder, ownAt, List.set_cons_zero, List.set_cons_succ, List.nil_append, List.cons_append, List.append_nil, Nat.reduceBNe, Nat.reduceSub, Nat.reduceLT, Nat.reduceLeDiff, decide_true, decide_false, List.concat_eq_append, List.getElem?_append_right, List.singleton_append, Int.cast_ofNat_Int, again_normal, again_ret, again_exit, again_bif, beq_self_eq_true, findLoop, Bool.cond_true_left, Bool.cond_false_right, Bool.cond_false_left, Bool.cond_true_right, ge_iff_le, gt_iff_lt, ty3, ty4, ty9, ty22, ty51, ty53]
  | x :: suf, pre, k, hn, hb => by
    obtain ⟨m, rfl⟩ : ∃ m, k = m + 1 := ⟨k - 1, by simp at hn; omega⟩
    rw [evL_step TT n27 fl27_0]
    have h1 : decide ((pre.length : Int) < ((pre ++ x :: suf).length : Int)) = true := decide_eq_true (by simp; omega)
    have h2 : decide (0 ≤ (pre.length : Int)) = true := decide_eq_true (by omega)
    have h3 : ((pre ++ x :: suf).map rowS)[(pre.length : Int).toNat]? = some [.s x] := by simp [rowS]
    have h4 : IntKind.i64.wrap ((pre.length : Int) + 1) = ((pre ++ [x]).length : Int) := by
      rw [wrap_id] <;> simp at hb ⊢ <;> omega
    have h5 : (!decide ((x.size : Int) ≤ 20)) = decide (20 < (x.size : Int)) := by
      by_cases h : (x.size : Int) ≤ 20 <;> simp [h] <;> omega
    simp only [List.length_map, h1, h2, h3, h4, h54, h5, List.any_cons, Try.f27, n27k0, n27k1, n27k2, n27k3, n27k4, n27k5, n27k6, n27k7, n27k8, n27k9, n27k10, n27k11, n27k12, n27ro, n27mv, n27gv, c27_0, evFn_finish, bodyOf, Option.getD_some, evCode_seq, evCode_region, evCode_cond, evCode_skip, evCode_ret, evCode_exit, evCode_loop, evCode_block_seq, evCode_block_region, evCode_block_cond, evCode_block_block, evCode_block_skip, enter, List.toList_toArray, evRegion, Bool.false_and, cond_false, evOps, stepOp, guardB, yieldedD, isWork, cond_true, workOk, workOp, Mx.force, opnd, Mx.look, Nat.reduceBEq, solid, Mx.fit, fitCs, fitC, List.isEmpty_cons, List.isEmpty_nil, Bool.false_or, Bool.or_false, Bool.true_or, Bool.or_true, Bool.and_true, Bool.true_and, Bool.and_false, Bool.not_true, Bool.not_false, Bool.not_not, Bool.or_not_self, Bool.not_or_self, Bool.and_self, Bool.or_self, toVs, cellsOf, toV, setReg, Mx.spend, hasOwn, ownFree, List.all_cons, List.all_nil, ownFreeC, Mx.put, ofConst, ofCell, after_some, Mx.prune, List.map_cons, List.map_nil, killB, killBs, andThen_normal, andThen_ret, andThen_exit, andThen_bif, after_bif, branch_b, unblock_normal, unblock_ret, unblock_exit, unblock_bif, pureOp, gx, putDst, offReg, callFails, isFuncCall, Option.isNone_none, Option.isNone_some, Option.isSome_none, Option.isSome_some, fieldOff, loadAt, partD, List.length_cons, List.length_nil, List.map, List.drop_succ_cons, List.drop_zero, List.take_succ_cons, List.take_zero, List.take_nil, List.drop_nil, List.getElem?_cons_zero, List.getElem?_cons_succ, List.getElem?_nil, Nat.reduceAdd, Nat.reduceMul, Nat.zero_add, Nat.add_zero, binD, binV, eqCells, eqC, lenD, sliceOf, ite_true, if_true, eq_self, reduceIte, reduceCtorEq, finish_ret, finish_normal, finish_bif, giveBack, resAll, resOne, outD, outOk, stayC, cellOk, valOk, lowC, lowP, List.take_zero, List.length_nil, forceAll, bound, asNat, elemIs, isStrK, sameInt, sliceD, kill, spendLoc, spendOk, setOwn, dropAl, dropAls, inReg, inObj, isCell, gone, List.contains_cons, List.contains_nil, List.elem_cons, List.elem_nil, lend, lendA, tracked, trackedA, noSl, noSlC, noSlV, bare, bareC, List.any_cons, List.any_nil, frz, frzC, frzReg, isGive, argE, argsE, isOwn, noOwn, fill, setCells, setVs, takeParts, rowsOf, inOrder, ownAt, List.set_cons_zero, List.set_cons_succ, List.nil_append, List.cons_append, List.append_nil, Nat.reduceBNe, Nat.reduceSub, Nat.reduceLT, Nat.reduceLeDiff, decide_true, decide_false, List.concat_eq_append, List.getElem?_append_right, List.singleton_append, Int.cast_ofNat_Int, again_normal, again_ret, again_exit, again_bif, beq_self_eq_true, findLoop, Bool.cond_true_left, Bool.cond_false_right, Bool.cond_false_left, Bool.cond_true_right, ge_iff_le, gt_iff_lt, ty3, ty4, ty9, ty22, ty51, ty53]
    cases hp : decide (20 < (x.size : Int)) with
    | true => rfl
    | false =>
      have ih := l27 C c n t h54 suf (pre ++ [x]) m (by simp at hn; omega) (by simpa using hb)
      simp only [List.append_assoc, List.cons_append, List.nil_append] at ih
      rw [cond_false, ih, Bool.false_or]
theorem r27 (C : Oracle)  (c n : Int) (t : ByteArray) (l : List ByteArray) (h53 : ∀ a b c, C 53 [.v (.i .i64 a), .v (.i .i64 b), .v (.i .i64 c)] [] = some (.v (.b (decide (b ≤ a) && decide (a ≤ c))), [])) (h54 : ∀ s, C 54 [.v (.s s)] [] = some (.v (.b (decide ((s.size : Int) ≤ 20))), [])) (h55 : ∀ a, C 55 [.v (.i .i64 a)] [] = some (.v (.b (decide (-1099511627776 ≤ a) && decide (a ≤ 1099511627776))), [])) (k : Nat) (hk : l.length < k) (hb : (l.length : Int) ≤ 140737488355328) :
    evFn TT C (evL TT C n27 b27 k) n27 Try.f27.results.toList (bodyOf Try.f27) [.agg [.v (.i .i64 c), .v (.s t), .v (.i .i64 n), .v (.sl 1 (l.map rowS))]] [] = some (.v (.i .i64 (replyF c n t l)), []) := by
  have hl := l27 C c n t h54 l [] k hk (by simpa using hb)
  simp only [List.nil_append, List.length_nil, Int.cast_ofNat_Int] at hl
  simp only [Try.f27, n27k0, n27k1, n27k2, n27k3, n27k4, n27k5, n27k6, n27k7, n27k8, n27k9, n27k10, n27k11, n27k12, n27ro, n27mv, n27gv, c27_0, evFn_finish, bodyOf, Option.getD_some, evCode_seq, evCode_region, evCode_cond, evCode_skip, evCode_ret, evCode_exit, evCode_loop, evCode_block_seq, evCode_block_region, evCode_block_cond, evCode_block_block, evCode_block_skip, enter, List.toList_toArray, evRegion, Bool.false_and, cond_false, evOps, stepOp, guardB, yieldedD, isWork, cond_true, workOk, workOp, Mx.force, opnd, Mx.look, Nat.reduceBEq, solid, Mx.fit, fitCs, fitC, List.isEmpty_cons, List.isEmpty_nil, Bool.false_or, Bool.or_false, Bool.true_or, Bool.or_true, Bool.and_true, Bool.true_and, Bool.and_false, Bool.not_true, Bool.not_false, Bool.not_not, Bool.or_not_self, Bool.not_or_self, Bool.and_self, Bool.or_self, toVs, cellsOf, toV, setReg, Mx.spend, hasOwn, ownFree, List.all_cons, List.all_nil, ownFreeC, Mx.put, ofConst, ofCell, after_some, Mx.prune, List.map_cons, List.map_nil, killB, killBs, andThen_normal, andThen_ret, andThen_exit, andThen_bif, after_bif, branch_b, unblock_normal, unblock_ret, unblock_exit, unblock_bif, pureOp, gx, putDst, offReg, callFails, isFuncCall, Option.isNone_none, Option.isNone_some, Option.isSome_none, Option.isSome_some, fieldOff, loadAt, partD, List.length_cons, List.length_nil, List.map, List.drop_succ_cons, List.drop_zero, List.take_succ_cons, List.take_zero, List.take_nil, List.drop_nil, List.getElem?_cons_zero, List.getElem?_cons_succ, List.getElem?_nil, Nat.reduceAdd, Nat.reduceMul, Nat.zero_add, Nat.add_zero, binD, binV, eqCells, eqC, lenD, sliceOf, ite_true, if_true, eq_self, reduceIte, reduceCtorEq, finish_ret, finish_normal, finish_bif, giveBack, resAll, resOne, outD, outOk, stayC, cellOk, valOk, lowC, lowP, List.take_zero, List.length_nil, forceAll, bound, asNat, elemIs, isStrK, sameInt, sliceD, kill, spendLoc, spendOk, setOwn, dropAl, dropAls, inReg, inObj, isCell, gone, List.contains_cons, List.contains_nil, List.elem_cons, List.elem_nil, lend, lendA, tracked, trackedA, noSl, noSlC, noSlV, bare, bareC, List.any_cons, List.any_nil, frz, frzC, frzReg, isGive, argE, argsE, isOwn, noOwn, fill, setCells, setVs, takeParts, rowsOf, inOrder, ownAt, List.set_cons_zero, List.set_cons_succ, List.nil_append, List.cons_append, List.append_nil, Nat.reduceBNe, Nat.reduceSub, Nat.reduceLT, Nat.reduceLeDiff, decide_true, decide_false, List.concat_eq_append, List.getElem?_append_right, List.singleton_append, Int.cast_ofNat_Int, again_normal, again_ret, again_exit, again_bif, beq_self_eq_true, findLoop, List.length_map, Bool.cond_true_left, Bool.cond_false_right, Bool.cond_false_left, Bool.cond_true_right, ge_iff_le, gt_iff_lt, ty3, ty4, ty9, ty22, ty51, ty53, h53, h54, h55, hl]
  simp only [replyF, Bool.cond_eq_ite]
  generalize l.any (fun s => decide (20 < (s.size : Int))) = q
  cases q <;> simp only [Bool.or_false, Bool.or_true, Bool.false_eq_true, if_true, if_false, reduceIte, Bool.not_eq_true', Bool.or_eq_true, Bool.and_eq_true, Bool.and_eq_false_iff, Bool.not_eq_eq_eq_not, Bool.not_true, decide_eq_true_eq, decide_eq_false_iff_not]
  all_goals (repeat' split)
  all_goals first | rfl | omega
def n7 : Note where
  keep := fun i => match i with
    | 0 => [1]
    | 1 => [1, 3]
    | 2 => [3, 4]
    | 3 => [2]
    | _ => []
  ro := fun t => t == 1
  mv := fun _ => false
  give := fun _ => false
  free := fun _ => []
theorem n7k0 : n7.keep 0 = [1] := rfl
theorem n7k1 : n7.keep 1 = [1, 3] := rfl
theorem n7k2 : n7.keep 2 = [3, 4] := rfl
theorem n7k3 : n7.keep 3 = [2] := rfl
theorem n7ro (t : Nat) : n7.ro t = (t == 1) := rfl
theorem n7mv (t : Nat) : n7.mv t = (false) := rfl
theorem n7gv (t : Nat) : n7.give t = (false) := rfl
noncomputable def b7 : Code := bodyOf Try.f7
theorem r7 (C : Oracle) (L : Loops) (c n : Int) (t : ByteArray) (l : List ByteArray) (h26 : C 26 [.agg [.v (.i .i64 c), .v (.s t), .v (.i .i64 n), .v (.sl 1 (l.map rowS))]] [] = some (.agg [.v (.i .i64 c), .v (.s t), .v (.i .i64 n), .own 1 (l.map rowS)], [])) (h25 : C 25 [.agg [.v (.i .i64 c), .v (.s t), .v (.i .i64 n), .v (.sl 1 (l.map rowS))]] [] = some (.v (.i .i64 (replyF c n t l)), [])) (h27 : C 27 [.agg [.v (.i .i64 c), .v (.s t), .v (.i .i64 n), .v (.sl 1 (l.map rowS))]] [] = some (.v (.i .i64 (replyF c n t l)), [])) :
    evFn TT C L n7 Try.f7.results.toList (bodyOf Try.f7) [.agg [.v (.i .i64 c), .v (.s t), .v (.i .i64 n), .v (.sl 1 (l.map rowS))]] [] = some (.v (.b true), []) := by
  simp only [Try.f7, n7k0, n7k1, n7k2, n7k3, n7ro, n7mv, n7gv, evFn_finish, bodyOf, Option.getD_some, evCode_seq, evCode_region, evCode_cond, evCode_skip, evCode_ret, evCode_exit, evCode_loop, evCode_block_seq, evCode_block_region, evCode_block_cond, evCode_block_block, evCode_block_skip, enter, List.toList_toArray, evRegion, Bool.false_and, cond_false, evOps, stepOp, guardB, yieldedD, isWork, cond_true, workOk, workOp, Mx.force, opnd, Mx.look, Nat.reduceBEq, solid, Mx.fit, fitCs, fitC, List.isEmpty_cons, List.isEmpty_nil, Bool.false_or, Bool.or_false, Bool.true_or, Bool.or_true, Bool.and_true, Bool.true_and, Bool.and_false, Bool.not_true, Bool.not_false, Bool.not_not, Bool.or_not_self, Bool.not_or_self, Bool.and_self, Bool.or_self, toVs, cellsOf, toV, setReg, Mx.spend, hasOwn, ownFree, List.all_cons, List.all_nil, ownFreeC, Mx.put, ofConst, ofCell, after_some, Mx.prune, List.map_cons, List.map_nil, killB, killBs, andThen_normal, andThen_ret, andThen_exit, andThen_bif, after_bif, branch_b, unblock_normal, unblock_ret, unblock_exit, unblock_bif, pureOp, gx, putDst, offReg, callFails, isFuncCall, Option.isNone_none, Option.isNone_some, Option.isSome_none, Option.isSome_some, fieldOff, loadAt, partD, List.length_cons, List.length_nil, List.map, List.drop_succ_cons, List.drop_zero, List.take_succ_cons, List.take_zero, List.take_nil, List.drop_nil, List.getElem?_cons_zero, List.getElem?_cons_succ, List.getElem?_nil, Nat.reduceAdd, Nat.reduceMul, Nat.zero_add, Nat.add_zero, binD, binV, eqCells, eqC, lenD, sliceOf, ite_true, if_true, eq_self, reduceIte, reduceCtorEq, finish_ret, finish_normal, finish_bif, giveBack, resAll, resOne, outD, outOk, stayC, cellOk, valOk, lowC, lowP, List.take_zero, List.length_nil, forceAll, bound, asNat, elemIs, isStrK, sameInt, sliceD, kill, spendLoc, spendOk, setOwn, dropAl, dropAls, inReg, inObj, isCell, gone, List.contains_cons, List.contains_nil, List.elem_cons, List.elem_nil, lend, lendA, tracked, trackedA, noSl, noSlC, noSlV, bare, bareC, List.any_cons, List.any_nil, frz, frzC, frzReg, isGive, argE, argsE, isOwn, noOwn, fill, setCells, setVs, takeParts, rowsOf, inOrder, ownAt, List.set_cons_zero, List.set_cons_succ, List.nil_append, List.cons_append, List.append_nil, Nat.reduceBNe, Nat.reduceSub, Nat.reduceLT, Nat.reduceLeDiff, decide_true, decide_false, List.concat_eq_append, List.getElem?_append_right, List.singleton_append, Int.cast_ofNat_Int, again_normal, again_ret, again_exit, again_bif, beq_self_eq_true, findLoop, Bool.cond_true_left, Bool.cond_false_right, Bool.cond_false_left, Bool.cond_true_right, ge_iff_le, gt_iff_lt, ty3, ty4, ty9, ty22, ty51, ty53, h25, h26, h27, beq_self_eq_true]
end Go.Proofs.Ytiicnbdolakdgaa
