/- Part of the proof by the machine Mx: Q1. -/
import Derived.Test.YtnjkmbogbfjffaaMxFour
import Derived.Test.YtnjkmbogbfjffaaStr
import Derived.Test.YtnjkmbogbfjffaaG0
import Derived.Test.YtnjkmbogbfjffaaH0
import Derived.Test.YtnjkmbogbfjffaaJ0
import Derived.Test.YtnjkmbogbfjffaaK0
set_option linter.unusedSimpArgs false
set_option linter.unusedVariables false
set_option linter.constructorNameAsVariable false
set_option linter.unnecessarySimpa false
namespace Go.Proofs.Ytnjkmbogbfjffaa
open Go Go.Mx Go.Proofs
/-! ### rostrumlaw.sameItems -/
def n27 : Note where
  keep := fun i => match i with
    | 0 => [0, 1]
    | 1 => [0, 1, 10]
    | 2 => [4]
    | 3 => [0, 1, 5]
    | 4 => [0, 1, 5, 14]
    | 5 => [0, 1, 5]
    | 6 => [0, 1, 5, 25]
    | 7 => [4]
    | 8 => [4]
    | _ => []
  ro := fun _ => false
  mv := fun _ => false
  give := fun _ => false
  free := fun i => match i with | 6 => [(0, 1), (0, 4), (1, 4), (2, 4), (3, 4), (0, 5), (1, 5), (2, 5), (3, 5), (4, 5), (0, 6), (1, 6), (2, 6), (3, 6), (0, 7), (1, 7), (2, 7), (3, 7)] | _ => []
theorem n27k0 : n27.keep 0 = [0, 1] := rfl
theorem n27k1 : n27.keep 1 = [0, 1, 10] := rfl
theorem n27k2 : n27.keep 2 = [4] := rfl
theorem n27k3 : n27.keep 3 = [0, 1, 5] := rfl
theorem n27k4 : n27.keep 4 = [0, 1, 5, 14] := rfl
theorem n27k5 : n27.keep 5 = [0, 1, 5] := rfl
theorem n27k6 : n27.keep 6 = [0, 1, 5, 25] := rfl
theorem n27k7 : n27.keep 7 = [4] := rfl
theorem n27k8 : n27.keep 8 = [4] := rfl
theorem n27ro (t : Nat) : n27.ro t = (false) := rfl
theorem n27mv (t : Nat) : n27.mv t = (false) := rfl
theorem n27gv (t : Nat) : n27.give t = (false) := rfl
theorem n27f6 : n27.free 6 = [(0, 1), (0, 4), (1, 4), (2, 4), (3, 4), (0, 5), (1, 5), (2, 5), (3, 5), (4, 5), (0, 6), (1, 6), (2, 6), (3, 6), (0, 7), (1, 7), (2, 7), (3, 7)] := rfl
noncomputable def b27 : Code := bodyOf Try.f27
noncomputable def c27_0 : Code := (findLoop 0 (bodyOf Try.f27)).getD .skip
theorem fl27_0 : findLoop 0 b27 = some c27_0 := rfl

set_option maxHeartbeats 4000000 in
theorem l27 (C : Oracle) : ∀ (suf pre : List S37) (n : Nat), suf.length < n → ((pre ++ suf).length : Int) ≤ 140737488355328 →
    evL TT C n27 b27 n 0 ⟨[(0, .v (.sl 10 ((pre ++ suf).map S37.row))), (1, .v (.sl 10 ((pre ++ suf).map S37.row))), (5, .v (.i .i64 pre.length))], []⟩ =
      some (.normal, ⟨[(0, .v (.sl 10 ((pre ++ suf).map S37.row))), (1, .v (.sl 10 ((pre ++ suf).map S37.row))), (5, .v (.i .i64 (pre ++ suf).length)), (14, .v (.b false))], []⟩)
  | [], pre, n, hn, hb => by
    obtain ⟨m, rfl⟩ : ∃ m, n = m + 1 := ⟨n - 1, by simp at hn; omega⟩
    rw [evL_step TT n27 fl27_0]
    have h1 : decide ((pre.length : Int) < (pre.length : Int)) = false := decide_eq_false (by omega)
    simp (maxSteps := 4000000) only [List.length_map, h1, Try.f27, n27k0, n27k1, n27k2, n27k3, n27k4, n27k5, n27k6, n27k7, n27k8, n27f6, n27ro, n27mv, n27gv, c27_0, evFn_finish, bodyOf, Option.getD_some, ↓evCode_seq, ↓evCode_region, ↓evCode_condC, ↓evCode_skip, ↓evCode_ret, ↓evCode_exit, ↓evCode_loop, ↓evCode_block_seq, ↓evCode_block_region, ↓evCode_block_cond, ↓evCode_block_block, ↓evCode_block_skip, ↓cond_true, ↓cond_false, enter, List.toList_toArray, ↓evRegion_f, ↓evRegion_t, Bool.false_and, cond_false, evOps, ↓stepOp_m, guardB, yieldedD, isWork, cond_true, workOk, workOp, Mx.force, opnd, Mx.look, Nat.reduceBEq, solid, Mx.fit, fitCs, fitC, List.isEmpty_cons, List.isEmpty_nil, Bool.false_or, Bool.or_false, Bool.true_or, Bool.or_true, Bool.and_true, Bool.true_and, Bool.and_false, Bool.not_true, Bool.not_false, Bool.not_not, Bool.or_not_self, Bool.not_or_self, Bool.and_self, Bool.or_self, toVs, cellsOf, toV, setReg_m, spend_m, hasOwn, ownFree, List.all_cons, List.all_nil, ownFreeC, Mx.put, ofConst, ofCell, after_some, Mx.prune, List.map_cons, List.map_nil, killB, killBs, andThen_normal, andThen_ret, andThen_exit, andThen_bif, after_bif, branchC_b, unblock_normal, unblock_ret, unblock_exit, unblock_bif, pureOp, gx_m, putDst, offReg_m, callFails, isFuncCall, Option.isNone_none, Option.isNone_some, Option.isSome_none, Option.isSome_some, fieldOff, loadAt, partD, List.length_cons, List.length_nil, List.map, List.drop_succ_cons, List.drop_zero, List.take_succ_cons, List.take_zero, List.take_nil, List.drop_nil, List.getElem?_cons_zero, List.getElem?_cons_succ, List.getElem?_nil, Nat.reduceAdd, Nat.reduceMul, Nat.zero_add, Nat.add_zero, binD, binV, eqCells, eqC, lenD, sliceOf, ite_true, if_true, eq_self, reduceIte, reduceCtorEq, finish_ret, finish_normal, finish_bif, giveBack, resAll, resOne, outD, outOk, stayC, cellOk, valOk, lowC, lowP, List.take_zero, List.length_nil, forceAll, bound, asNat, elemIs, isStrK, sameInt, sliceD, kill, spendLoc, spendOk, setOwn, dropAl, dropAls, inReg, inObj, isCell, gone, List.contains_cons, List.contains_nil, List.elem_cons, List.elem_nil, lend, lendA, tracked, trackedA, noSl, noSlC, noSlV, bare, bareC, List.any_cons, List.any_nil, frz, frzC, frzReg_m, isGive, argE, argsE, isOwn, noOwn, fill, setCells, setVs, takeParts, rowsOf, inOrder, ownAt, List.set_cons_zero, List.set_cons_succ, List.nil_append, List.cons_append, List.append_nil, Nat.reduceBNe, Nat.reduceSub, Nat.reduceLT, Nat.reduceLeDiff, decide_true, decide_false, List.concat_eq_append, List.getElem?_append_right, List.singleton_append, Int.cast_ofNat_Int, again_norm, againN_some, trunc_m, lowA, lowLoc, again_ret, again_exit, again_bif, beq_self_eq_true, findLoop, Bool.cond_true_left, Bool.cond_false_right, Bool.cond_false_left, Bool.cond_true_right, ge_iff_le, gt_iff_lt, evOpsK, ↓kindOp_m, kindW, plainWork, ownsDst, calmOp, calm, calmC, calmP, immB, noLoc, noLocC, readsAt, plainK, freeOk, pairOk, rwOk, List.getD_cons_zero, List.getD_cons_succ, Op.operands, Bool.not_eq_true, Option.map_some, Option.map_none, Int.reduceBEq, Int.reduceLT, Int.reduceLE, Int.reduceNeg, Bool.decide_eq_true, Int.reduceBNe, pickOk_n, pickOk_p, pickOk_tn, pickOk_tp, pickOk_f, pickOk_x, pickOk_h, pickOk_g, outTup, cond_nest_t, cond_nest_f, cond_same, ty3, ty4, ty9, ty22, ty34, ty36, ty38, List.length_map]
  | x :: suf, pre, n, hn, hb => by
    obtain ⟨m, rfl⟩ : ∃ m, n = m + 1 := ⟨n - 1, by simp at hn; omega⟩
    rw [evL_step TT n27 fl27_0]
    have h1 : decide ((pre.length : Int) < ((pre ++ x :: suf).length : Int)) = true := decide_eq_true (by simp; omega)
    have h2 : decide (0 ≤ (pre.length : Int)) = true := decide_eq_true (by omega)
    have h3 : ((pre ++ x :: suf).map S37.row)[(pre.length : Int).toNat]? = some [.i .i64 x.a0, .i .i64 x.a1, .b x.a2, .i .i64 x.a3, .i .i64 x.a4, .i .i64 x.a5, .s x.a6, .s x.a7, .s x.a8, .i .i64 x.a9] := by simp [S37.row]
    have h4 : IntKind.i64.wrap ((pre.length : Int) + 1) = ((pre ++ [x]).length : Int) := by
      rw [wrap_id] <;> simp at hb ⊢ <;> omega
    have ih := l27 C suf (pre ++ [x]) m (by simp at hn; omega) (by simpa using hb)
    simp only [List.append_assoc, List.cons_append, List.nil_append] at ih
    simp (maxSteps := 4000000) only [List.length_map, h1, h2, h3, h4, Try.f27, n27k0, n27k1, n27k2, n27k3, n27k4, n27k5, n27k6, n27k7, n27k8, n27f6, n27ro, n27mv, n27gv, c27_0, evFn_finish, bodyOf, Option.getD_some, ↓evCode_seq, ↓evCode_region, ↓evCode_condC, ↓evCode_skip, ↓evCode_ret, ↓evCode_exit, ↓evCode_loop, ↓evCode_block_seq, ↓evCode_block_region, ↓evCode_block_cond, ↓evCode_block_block, ↓evCode_block_skip, ↓cond_true, ↓cond_false, enter, List.toList_toArray, ↓evRegion_f, ↓evRegion_t, Bool.false_and, cond_false, evOps, ↓stepOp_m, guardB, yieldedD, isWork, cond_true, workOk, workOp, Mx.force, opnd, Mx.look, Nat.reduceBEq, solid, Mx.fit, fitCs, fitC, List.isEmpty_cons, List.isEmpty_nil, Bool.false_or, Bool.or_false, Bool.true_or, Bool.or_true, Bool.and_true, Bool.true_and, Bool.and_false, Bool.not_true, Bool.not_false, Bool.not_not, Bool.or_not_self, Bool.not_or_self, Bool.and_self, Bool.or_self, toVs, cellsOf, toV, setReg_m, spend_m, hasOwn, ownFree, List.all_cons, List.all_nil, ownFreeC, Mx.put, ofConst, ofCell, after_some, Mx.prune, List.map_cons, List.map_nil, killB, killBs, andThen_normal, andThen_ret, andThen_exit, andThen_bif, after_bif, branchC_b, unblock_normal, unblock_ret, unblock_exit, unblock_bif, pureOp, gx_m, putDst, offReg_m, callFails, isFuncCall, Option.isNone_none, Option.isNone_some, Option.isSome_none, Option.isSome_some, fieldOff, loadAt, partD, List.length_cons, List.length_nil, List.map, List.drop_succ_cons, List.drop_zero, List.take_succ_cons, List.take_zero, List.take_nil, List.drop_nil, List.getElem?_cons_zero, List.getElem?_cons_succ, List.getElem?_nil, Nat.reduceAdd, Nat.reduceMul, Nat.zero_add, Nat.add_zero, binD, binV, eqCells, eqC, lenD, sliceOf, ite_true, if_true, eq_self, reduceIte, reduceCtorEq, finish_ret, finish_normal, finish_bif, giveBack, resAll, resOne, outD, outOk, stayC, cellOk, valOk, lowC, lowP, List.take_zero, List.length_nil, forceAll, bound, asNat, elemIs, isStrK, sameInt, sliceD, kill, spendLoc, spendOk, setOwn, dropAl, dropAls, inReg, inObj, isCell, gone, List.contains_cons, List.contains_nil, List.elem_cons, List.elem_nil, lend, lendA, tracked, trackedA, noSl, noSlC, noSlV, bare, bareC, List.any_cons, List.any_nil, frz, frzC, frzReg_m, isGive, argE, argsE, isOwn, noOwn, fill, setCells, setVs, takeParts, rowsOf, inOrder, ownAt, List.set_cons_zero, List.set_cons_succ, List.nil_append, List.cons_append, List.append_nil, Nat.reduceBNe, Nat.reduceSub, Nat.reduceLT, Nat.reduceLeDiff, decide_true, decide_false, List.concat_eq_append, List.getElem?_append_right, List.singleton_append, Int.cast_ofNat_Int, again_norm, againN_some, trunc_m, lowA, lowLoc, again_ret, again_exit, again_bif, beq_self_eq_true, findLoop, Bool.cond_true_left, Bool.cond_false_right, Bool.cond_false_left, Bool.cond_true_right, ge_iff_le, gt_iff_lt, evOpsK, ↓kindOp_m, kindW, plainWork, ownsDst, calmOp, calm, calmC, calmP, immB, noLoc, noLocC, readsAt, plainK, freeOk, pairOk, rwOk, List.getD_cons_zero, List.getD_cons_succ, Op.operands, Bool.not_eq_true, Option.map_some, Option.map_none, Int.reduceBEq, Int.reduceLT, Int.reduceLE, Int.reduceNeg, Bool.decide_eq_true, Int.reduceBNe, pickOk_n, pickOk_p, pickOk_tn, pickOk_tp, pickOk_f, pickOk_x, pickOk_h, pickOk_g, outTup, cond_nest_t, cond_nest_f, cond_same, ty3, ty4, ty9, ty22, ty34, ty36, ty38, List.length_map]
    rw [ih]
set_option maxHeartbeats 4000000 in
theorem r27 (C : Oracle)  (l : List S37) (hl : (l.length : Int) ≤ 140737488355328) :
    evFn TT C (evL TT C n27 b27 (l.length + 1)) n27 Try.f27.results.toList (bodyOf Try.f27) [.v (.sl 10 (l.map S37.row)), .v (.sl 10 (l.map S37.row))] [] = some (.v (.b true), []) := by
  have hl' := l27 C l [] (l.length + 1) (by omega) (by simpa using hl)
  simp only [List.nil_append, List.length_nil, Int.cast_ofNat_Int] at hl'
  simp (maxSteps := 4000000) only [Try.f27, n27k0, n27k1, n27k2, n27k3, n27k4, n27k5, n27k6, n27k7, n27k8, n27f6, n27ro, n27mv, n27gv, c27_0, evFn_finish, bodyOf, Option.getD_some, ↓evCode_seq, ↓evCode_region, ↓evCode_condC, ↓evCode_skip, ↓evCode_ret, ↓evCode_exit, ↓evCode_loop, ↓evCode_block_seq, ↓evCode_block_region, ↓evCode_block_cond, ↓evCode_block_block, ↓evCode_block_skip, ↓cond_true, ↓cond_false, enter, List.toList_toArray, ↓evRegion_f, ↓evRegion_t, Bool.false_and, cond_false, evOps, ↓stepOp_m, guardB, yieldedD, isWork, cond_true, workOk, workOp, Mx.force, opnd, Mx.look, Nat.reduceBEq, solid, Mx.fit, fitCs, fitC, List.isEmpty_cons, List.isEmpty_nil, Bool.false_or, Bool.or_false, Bool.true_or, Bool.or_true, Bool.and_true, Bool.true_and, Bool.and_false, Bool.not_true, Bool.not_false, Bool.not_not, Bool.or_not_self, Bool.not_or_self, Bool.and_self, Bool.or_self, toVs, cellsOf, toV, setReg_m, spend_m, hasOwn, ownFree, List.all_cons, List.all_nil, ownFreeC, Mx.put, ofConst, ofCell, after_some, Mx.prune, List.map_cons, List.map_nil, killB, killBs, andThen_normal, andThen_ret, andThen_exit, andThen_bif, after_bif, branchC_b, unblock_normal, unblock_ret, unblock_exit, unblock_bif, pureOp, gx_m, putDst, offReg_m, callFails, isFuncCall, Option.isNone_none, Option.isNone_some, Option.isSome_none, Option.isSome_some, fieldOff, loadAt, partD, List.length_cons, List.length_nil, List.map, List.drop_succ_cons, List.drop_zero, List.take_succ_cons, List.take_zero, List.take_nil, List.drop_nil, List.getElem?_cons_zero, List.getElem?_cons_succ, List.getElem?_nil, Nat.reduceAdd, Nat.reduceMul, Nat.zero_add, Nat.add_zero, binD, binV, eqCells, eqC, lenD, sliceOf, ite_true, if_true, eq_self, reduceIte, reduceCtorEq, finish_ret, finish_normal, finish_bif, giveBack, resAll, resOne, outD, outOk, stayC, cellOk, valOk, lowC, lowP, List.take_zero, List.length_nil, forceAll, bound, asNat, elemIs, isStrK, sameInt, sliceD, kill, spendLoc, spendOk, setOwn, dropAl, dropAls, inReg, inObj, isCell, gone, List.contains_cons, List.contains_nil, List.elem_cons, List.elem_nil, lend, lendA, tracked, trackedA, noSl, noSlC, noSlV, bare, bareC, List.any_cons, List.any_nil, frz, frzC, frzReg_m, isGive, argE, argsE, isOwn, noOwn, fill, setCells, setVs, takeParts, rowsOf, inOrder, ownAt, List.set_cons_zero, List.set_cons_succ, List.nil_append, List.cons_append, List.append_nil, Nat.reduceBNe, Nat.reduceSub, Nat.reduceLT, Nat.reduceLeDiff, decide_true, decide_false, List.concat_eq_append, List.getElem?_append_right, List.singleton_append, Int.cast_ofNat_Int, again_norm, againN_some, trunc_m, lowA, lowLoc, again_ret, again_exit, again_bif, beq_self_eq_true, findLoop, List.length_map, Bool.cond_true_left, Bool.cond_false_right, Bool.cond_false_left, Bool.cond_true_right, ge_iff_le, gt_iff_lt, evOpsK, ↓kindOp_m, kindW, plainWork, ownsDst, calmOp, calm, calmC, calmP, immB, noLoc, noLocC, readsAt, plainK, freeOk, pairOk, rwOk, List.getD_cons_zero, List.getD_cons_succ, Op.operands, Bool.not_eq_true, Option.map_some, Option.map_none, Int.reduceBEq, Int.reduceLT, Int.reduceLE, Int.reduceNeg, Bool.decide_eq_true, Int.reduceBNe, pickOk_n, pickOk_p, pickOk_tn, pickOk_tp, pickOk_f, pickOk_x, pickOk_h, pickOk_g, outTup, cond_nest_t, cond_nest_f, cond_same, ty3, ty4, ty9, ty22, ty34, ty36, ty38, hl', bne, beq_self_eq_true, List.length_map]
/-! ### rostrumlaw.sameLog -/
def n24 : Note where
  keep := fun i => match i with
    | 0 => [2, 3]
    | 1 => [4]
    | _ => []
  ro := fun t => t == 2 || t == 3
  mv := fun _ => false
  give := fun _ => false
  free := fun _ => []
theorem n24k0 : n24.keep 0 = [2, 3] := rfl
theorem n24k1 : n24.keep 1 = [4] := rfl
theorem n24ro (t : Nat) : n24.ro t = (t == 2 || t == 3) := rfl
theorem n24mv (t : Nat) : n24.mv t = (false) := rfl
theorem n24gv (t : Nat) : n24.give t = (false) := rfl
noncomputable def b24 : Code := bodyOf Try.f24
theorem r24 (C : Oracle) (L : Loops) (base bt : Int) (l : List S37) (hSI : C 27 [.v (.sl 10 (l.map S37.row)), .v (.sl 10 (l.map S37.row))] [] = some (.v (.b true), [])) :
    evFn TT C L n24 Try.f24.results.toList (bodyOf Try.f24) [.agg [.v (.i .i64 base), .v (.i .i64 bt), .v (.sl 10 (l.map S37.row))], .agg [.v (.i .i64 base), .v (.i .i64 bt), .v (.sl 10 (l.map S37.row))]] [] = some (.v (.b true), []) := by
  simp (maxSteps := 4000000) only [Try.f24, n24k0, n24k1, n24ro, n24mv, n24gv, evFn_finish, bodyOf, Option.getD_some, ↓evCode_seq, ↓evCode_region, ↓evCode_condC, ↓evCode_skip, ↓evCode_ret, ↓evCode_exit, ↓evCode_loop, ↓evCode_block_seq, ↓evCode_block_region, ↓evCode_block_cond, ↓evCode_block_block, ↓evCode_block_skip, ↓cond_true, ↓cond_false, enter, List.toList_toArray, ↓evRegion_f, ↓evRegion_t, Bool.false_and, cond_false, evOps, ↓stepOp_m, guardB, yieldedD, isWork, cond_true, workOk, workOp, Mx.force, opnd, Mx.look, Nat.reduceBEq, solid, Mx.fit, fitCs, fitC, List.isEmpty_cons, List.isEmpty_nil, Bool.false_or, Bool.or_false, Bool.true_or, Bool.or_true, Bool.and_true, Bool.true_and, Bool.and_false, Bool.not_true, Bool.not_false, Bool.not_not, Bool.or_not_self, Bool.not_or_self, Bool.and_self, Bool.or_self, toVs, cellsOf, toV, setReg_m, spend_m, hasOwn, ownFree, List.all_cons, List.all_nil, ownFreeC, Mx.put, ofConst, ofCell, after_some, Mx.prune, List.map_cons, List.map_nil, killB, killBs, andThen_normal, andThen_ret, andThen_exit, andThen_bif, after_bif, branchC_b, unblock_normal, unblock_ret, unblock_exit, unblock_bif, pureOp, gx_m, putDst, offReg_m, callFails, isFuncCall, Option.isNone_none, Option.isNone_some, Option.isSome_none, Option.isSome_some, fieldOff, loadAt, partD, List.length_cons, List.length_nil, List.map, List.drop_succ_cons, List.drop_zero, List.take_succ_cons, List.take_zero, List.take_nil, List.drop_nil, List.getElem?_cons_zero, List.getElem?_cons_succ, List.getElem?_nil, Nat.reduceAdd, Nat.reduceMul, Nat.zero_add, Nat.add_zero, binD, binV, eqCells, eqC, lenD, sliceOf, ite_true, if_true, eq_self, reduceIte, reduceCtorEq, finish_ret, finish_normal, finish_bif, giveBack, resAll, resOne, outD, outOk, stayC, cellOk, valOk, lowC, lowP, List.take_zero, List.length_nil, forceAll, bound, asNat, elemIs, isStrK, sameInt, sliceD, kill, spendLoc, spendOk, setOwn, dropAl, dropAls, inReg, inObj, isCell, gone, List.contains_cons, List.contains_nil, List.elem_cons, List.elem_nil, lend, lendA, tracked, trackedA, noSl, noSlC, noSlV, bare, bareC, List.any_cons, List.any_nil, frz, frzC, frzReg_m, isGive, argE, argsE, isOwn, noOwn, fill, setCells, setVs, takeParts, rowsOf, inOrder, ownAt, List.set_cons_zero, List.set_cons_succ, List.nil_append, List.cons_append, List.append_nil, Nat.reduceBNe, Nat.reduceSub, Nat.reduceLT, Nat.reduceLeDiff, decide_true, decide_false, List.concat_eq_append, List.getElem?_append_right, List.singleton_append, Int.cast_ofNat_Int, again_norm, againN_some, trunc_m, lowA, lowLoc, again_ret, again_exit, again_bif, beq_self_eq_true, findLoop, Bool.cond_true_left, Bool.cond_false_right, Bool.cond_false_left, Bool.cond_true_right, ge_iff_le, gt_iff_lt, evOpsK, ↓kindOp_m, kindW, plainWork, ownsDst, calmOp, calm, calmC, calmP, immB, noLoc, noLocC, readsAt, plainK, freeOk, pairOk, rwOk, List.getD_cons_zero, List.getD_cons_succ, Op.operands, Bool.not_eq_true, Option.map_some, Option.map_none, Int.reduceBEq, Int.reduceLT, Int.reduceLE, Int.reduceNeg, Bool.decide_eq_true, Int.reduceBNe, pickOk_n, pickOk_p, pickOk_tn, pickOk_tp, pickOk_f, pickOk_x, pickOk_h, pickOk_g, outTup, cond_nest_t, cond_nest_f, cond_same, ty3, ty4, ty9, ty22, ty24, ty34, ty36, ty38, hSI, beq_self_eq_true]
end Go.Proofs.Ytnjkmbogbfjffaa
