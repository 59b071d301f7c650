/- Part of the proof by the machine Mx: G1. -/
import Derived.Test.YtnjkmbogbfjffaaMxFour
import Derived.Test.YtnjkmbogbfjffaaStr
import Derived.Test.YtnjkmbogbfjffaaG0
set_option linter.unusedSimpArgs false
set_option linter.unusedVariables false
set_option linter.constructorNameAsVariable false
set_option linter.unnecessarySimpa false
namespace Go.Proofs.Ytnjkmbogbfjffaa
open Go Go.Mx Go.Proofs
/-! ### rostrumref.In -/
def n55 : Note where
  keep := fun i => match i with
    | 0 => [0, 1, 2]
    | 1 => [6]
    | _ => []
  ro := fun _ => false
  mv := fun _ => false
  give := fun _ => false
  free := fun _ => []
theorem n55k0 : n55.keep 0 = [0, 1, 2] := rfl
theorem n55k1 : n55.keep 1 = [6] := rfl
theorem n55ro (t : Nat) : n55.ro t = (false) := rfl
theorem n55mv (t : Nat) : n55.mv t = (false) := rfl
theorem n55gv (t : Nat) : n55.give t = (false) := rfl
noncomputable def b55 : Code := bodyOf Try.f55
theorem r55 (C : Oracle) (L : Loops) (a b c : Int) :
    evFn TT C L n55 Try.f55.results.toList (bodyOf Try.f55) [.v (.i .i64 a), .v (.i .i64 b), .v (.i .i64 c)] [] = some (.v (.b (inB a b c)), []) := by
  simp (maxSteps := 4000000) only [Try.f55, n55k0, n55k1, n55ro, n55mv, n55gv, evFn_finish, bodyOf, Option.getD_some, ↓evCode_seq, ↓evCode_region, ↓evCode_condC, ↓evCode_skip, ↓evCode_ret, ↓evCode_exit, ↓evCode_loop, ↓evCode_block_seq, ↓evCode_block_region, ↓evCode_block_cond, ↓evCode_block_block, ↓evCode_block_skip, ↓cond_true, ↓cond_false, enter, List.toList_toArray, ↓evRegion_f, ↓evRegion_t, Bool.false_and, cond_false, evOps, ↓stepOp_m, guardB, yieldedD, isWork, cond_true, workOk, workOp, Mx.force, opnd, Mx.look, Nat.reduceBEq, solid, Mx.fit, fitCs, fitC, List.isEmpty_cons, List.isEmpty_nil, Bool.false_or, Bool.or_false, Bool.true_or, Bool.or_true, Bool.and_true, Bool.true_and, Bool.and_false, Bool.not_true, Bool.not_false, Bool.not_not, Bool.or_not_self, Bool.not_or_self, Bool.and_self, Bool.or_self, toVs, cellsOf, toV, setReg_m, spend_m, hasOwn, ownFree, List.all_cons, List.all_nil, ownFreeC, Mx.put, ofConst, ofCell, after_some, Mx.prune, List.map_cons, List.map_nil, killB, killBs, andThen_normal, andThen_ret, andThen_exit, andThen_bif, after_bif, branchC_b, unblock_normal, unblock_ret, unblock_exit, unblock_bif, pureOp, gx_m, putDst, offReg_m, callFails, isFuncCall, Option.isNone_none, Option.isNone_some, Option.isSome_none, Option.isSome_some, fieldOff, loadAt, partD, List.length_cons, List.length_nil, List.map, List.drop_succ_cons, List.drop_zero, List.take_succ_cons, List.take_zero, List.take_nil, List.drop_nil, List.getElem?_cons_zero, List.getElem?_cons_succ, List.getElem?_nil, Nat.reduceAdd, Nat.reduceMul, Nat.zero_add, Nat.add_zero, binD, binV, eqCells, eqC, lenD, sliceOf, ite_true, if_true, eq_self, reduceIte, reduceCtorEq, finish_ret, finish_normal, finish_bif, giveBack, resAll, resOne, outD, outOk, stayC, cellOk, valOk, lowC, lowP, List.take_zero, List.length_nil, forceAll, bound, asNat, elemIs, isStrK, sameInt, sliceD, kill, spendLoc, spendOk, setOwn, dropAl, dropAls, inReg, inObj, isCell, gone, List.contains_cons, List.contains_nil, List.elem_cons, List.elem_nil, lend, lendA, tracked, trackedA, noSl, noSlC, noSlV, bare, bareC, List.any_cons, List.any_nil, frz, frzC, frzReg_m, isGive, argE, argsE, isOwn, noOwn, fill, setCells, setVs, takeParts, rowsOf, inOrder, ownAt, List.set_cons_zero, List.set_cons_succ, List.nil_append, List.cons_append, List.append_nil, Nat.reduceBNe, Nat.reduceSub, Nat.reduceLT, Nat.reduceLeDiff, decide_true, decide_false, List.length_append, List.append_assoc, List.concat_eq_append, List.getElem?_append_right, List.singleton_append, Int.cast_ofNat_Int, again_norm, againN_some, trunc_m, lowA, lowLoc, again_ret, again_exit, again_bif, beq_self_eq_true, findLoop, List.map_append, List.length_map, Bool.cond_true_left, Bool.cond_false_right, Bool.cond_false_left, Bool.cond_true_right, ge_iff_le, gt_iff_lt, evOpsK, ↓kindOp_m, kindW, plainWork, ownsDst, calmOp, calm, calmC, calmP, immB, noLoc, noLocC, readsAt, plainK, freeOk, pairOk, rwOk, List.getD_cons_zero, List.getD_cons_succ, Op.operands, Bool.not_eq_true, Option.map_some, Option.map_none, Int.reduceBEq, Int.reduceLT, Int.reduceLE, Int.reduceNeg, Bool.decide_eq_true, Int.reduceBNe, pickOk_n, pickOk_p, pickOk_tn, pickOk_tp, pickOk_f, pickOk_x, pickOk_h, pickOk_g, outTup, cond_nest_t, cond_nest_f, cond_same, ty3, ty4]
  simp only [inB]
/-! ### rostrumref.textMay -/
def n80 : Note where
  keep := fun i => match i with
    | 0 => [0]
    | 1 => [2]
    | _ => []
  ro := fun _ => false
  mv := fun _ => false
  give := fun _ => false
  free := fun _ => []
theorem n80k0 : n80.keep 0 = [0] := rfl
theorem n80k1 : n80.keep 1 = [2] := rfl
theorem n80ro (t : Nat) : n80.ro t = (false) := rfl
theorem n80mv (t : Nat) : n80.mv t = (false) := rfl
theorem n80gv (t : Nat) : n80.give t = (false) := rfl
noncomputable def b80 : Code := bodyOf Try.f80
theorem r80 (C : Oracle) (L : Loops) (s : ByteArray)  :
    evFn TT C L n80 Try.f80.results.toList (bodyOf Try.f80) [.v (.s s)] [] = some (.v (.b (textB s)), []) := by
  simp (maxSteps := 4000000) only [Try.f80, n80k0, n80k1, n80ro, n80mv, n80gv, evFn_finish, bodyOf, Option.getD_some, ↓evCode_seq, ↓evCode_region, ↓evCode_condC, ↓evCode_skip, ↓evCode_ret, ↓evCode_exit, ↓evCode_loop, ↓evCode_block_seq, ↓evCode_block_region, ↓evCode_block_cond, ↓evCode_block_block, ↓evCode_block_skip, ↓cond_true, ↓cond_false, enter, List.toList_toArray, ↓evRegion_f, ↓evRegion_t, Bool.false_and, cond_false, evOps, ↓stepOp_m, guardB, yieldedD, isWork, cond_true, workOk, workOp, Mx.force, opnd, Mx.look, Nat.reduceBEq, solid, Mx.fit, fitCs, fitC, List.isEmpty_cons, List.isEmpty_nil, Bool.false_or, Bool.or_false, Bool.true_or, Bool.or_true, Bool.and_true, Bool.true_and, Bool.and_false, Bool.not_true, Bool.not_false, Bool.not_not, Bool.or_not_self, Bool.not_or_self, Bool.and_self, Bool.or_self, toVs, cellsOf, toV, setReg_m, spend_m, hasOwn, ownFree, List.all_cons, List.all_nil, ownFreeC, Mx.put, ofConst, ofCell, after_some, Mx.prune, List.map_cons, List.map_nil, killB, killBs, andThen_normal, andThen_ret, andThen_exit, andThen_bif, after_bif, branchC_b, unblock_normal, unblock_ret, unblock_exit, unblock_bif, pureOp, gx_m, putDst, offReg_m, callFails, isFuncCall, Option.isNone_none, Option.isNone_some, Option.isSome_none, Option.isSome_some, fieldOff, loadAt, partD, List.length_cons, List.length_nil, List.map, List.drop_succ_cons, List.drop_zero, List.take_succ_cons, List.take_zero, List.take_nil, List.drop_nil, List.getElem?_cons_zero, List.getElem?_cons_succ, List.getElem?_nil, Nat.reduceAdd, Nat.reduceMul, Nat.zero_add, Nat.add_zero, binD, binV, eqCells, eqC, lenD, sliceOf, ite_true, if_true, eq_self, reduceIte, reduceCtorEq, finish_ret, finish_normal, finish_bif, giveBack, resAll, resOne, outD, outOk, stayC, cellOk, valOk, lowC, lowP, List.take_zero, List.length_nil, forceAll, bound, asNat, elemIs, isStrK, sameInt, sliceD, kill, spendLoc, spendOk, setOwn, dropAl, dropAls, inReg, inObj, isCell, gone, List.contains_cons, List.contains_nil, List.elem_cons, List.elem_nil, lend, lendA, tracked, trackedA, noSl, noSlC, noSlV, bare, bareC, List.any_cons, List.any_nil, frz, frzC, frzReg_m, isGive, argE, argsE, isOwn, noOwn, fill, setCells, setVs, takeParts, rowsOf, inOrder, ownAt, List.set_cons_zero, List.set_cons_succ, List.nil_append, List.cons_append, List.append_nil, Nat.reduceBNe, Nat.reduceSub, Nat.reduceLT, Nat.reduceLeDiff, decide_true, decide_false, List.length_append, List.append_assoc, List.concat_eq_append, List.getElem?_append_right, List.singleton_append, Int.cast_ofNat_Int, again_norm, againN_some, trunc_m, lowA, lowLoc, again_ret, again_exit, again_bif, beq_self_eq_true, findLoop, List.map_append, List.length_map, Bool.cond_true_left, Bool.cond_false_right, Bool.cond_false_left, Bool.cond_true_right, ge_iff_le, gt_iff_lt, evOpsK, ↓kindOp_m, kindW, plainWork, ownsDst, calmOp, calm, calmC, calmP, immB, noLoc, noLocC, readsAt, plainK, freeOk, pairOk, rwOk, List.getD_cons_zero, List.getD_cons_succ, Op.operands, Bool.not_eq_true, Option.map_some, Option.map_none, Int.reduceBEq, Int.reduceLT, Int.reduceLE, Int.reduceNeg, Bool.decide_eq_true, Int.reduceBNe, pickOk_n, pickOk_p, pickOk_tn, pickOk_tp, pickOk_f, pickOk_x, pickOk_h, pickOk_g, outTup, cond_nest_t, cond_nest_f, cond_same, ty3, ty4, ty9]
  simp only [textB, inB]
/-! ### value.text -/
def n62 : Note where
  keep := fun i => match i with
    | 0 => [0]
    | 1 => [2]
    | _ => []
  ro := fun _ => false
  mv := fun _ => false
  give := fun _ => false
  free := fun _ => []
theorem n62k0 : n62.keep 0 = [0] := rfl
theorem n62k1 : n62.keep 1 = [2] := rfl
theorem n62ro (t : Nat) : n62.ro t = (false) := rfl
theorem n62mv (t : Nat) : n62.mv t = (false) := rfl
theorem n62gv (t : Nat) : n62.give t = (false) := rfl
noncomputable def b62 : Code := bodyOf Try.f62
theorem r62 (C : Oracle) (L : Loops) (s : ByteArray)  :
    evFn TT C L n62 Try.f62.results.toList (bodyOf Try.f62) [.v (.s s)] [] = some (.v (.b (textB s)), []) := by
  simp (maxSteps := 4000000) only [Try.f62, n62k0, n62k1, n62ro, n62mv, n62gv, evFn_finish, bodyOf, Option.getD_some, ↓evCode_seq, ↓evCode_region, ↓evCode_condC, ↓evCode_skip, ↓evCode_ret, ↓evCode_exit, ↓evCode_loop, ↓evCode_block_seq, ↓evCode_block_region, ↓evCode_block_cond, ↓evCode_block_block, ↓evCode_block_skip, ↓cond_true, ↓cond_false, enter, List.toList_toArray, ↓evRegion_f, ↓evRegion_t, Bool.false_and, cond_false, evOps, ↓stepOp_m, guardB, yieldedD, isWork, cond_true, workOk, workOp, Mx.force, opnd, Mx.look, Nat.reduceBEq, solid, Mx.fit, fitCs, fitC, List.isEmpty_cons, List.isEmpty_nil, Bool.false_or, Bool.or_false, Bool.true_or, Bool.or_true, Bool.and_true, Bool.true_and, Bool.and_false, Bool.not_true, Bool.not_false, Bool.not_not, Bool.or_not_self, Bool.not_or_self, Bool.and_self, Bool.or_self, toVs, cellsOf, toV, setReg_m, spend_m, hasOwn, ownFree, List.all_cons, List.all_nil, ownFreeC, Mx.put, ofConst, ofCell, after_some, Mx.prune, List.map_cons, List.map_nil, killB, killBs, andThen_normal, andThen_ret, andThen_exit, andThen_bif, after_bif, branchC_b, unblock_normal, unblock_ret, unblock_exit, unblock_bif, pureOp, gx_m, putDst, offReg_m, callFails, isFuncCall, Option.isNone_none, Option.isNone_some, Option.isSome_none, Option.isSome_some, fieldOff, loadAt, partD, List.length_cons, List.length_nil, List.map, List.drop_succ_cons, List.drop_zero, List.take_succ_cons, List.take_zero, List.take_nil, List.drop_nil, List.getElem?_cons_zero, List.getElem?_cons_succ, List.getElem?_nil, Nat.reduceAdd, Nat.reduceMul, Nat.zero_add, Nat.add_zero, binD, binV, eqCells, eqC, lenD, sliceOf, ite_true, if_true, eq_self, reduceIte, reduceCtorEq, finish_ret, finish_normal, finish_bif, giveBack, resAll, resOne, outD, outOk, stayC, cellOk, valOk, lowC, lowP, List.take_zero, List.length_nil, forceAll, bound, asNat, elemIs, isStrK, sameInt, sliceD, kill, spendLoc, spendOk, setOwn, dropAl, dropAls, inReg, inObj, isCell, gone, List.contains_cons, List.contains_nil, List.elem_cons, List.elem_nil, lend, lendA, tracked, trackedA, noSl, noSlC, noSlV, bare, bareC, List.any_cons, List.any_nil, frz, frzC, frzReg_m, isGive, argE, argsE, isOwn, noOwn, fill, setCells, setVs, takeParts, rowsOf, inOrder, ownAt, List.set_cons_zero, List.set_cons_succ, List.nil_append, List.cons_append, List.append_nil, Nat.reduceBNe, Nat.reduceSub, Nat.reduceLT, Nat.reduceLeDiff, decide_true, decide_false, List.length_append, List.append_assoc, List.concat_eq_append, List.getElem?_append_right, List.singleton_append, Int.cast_ofNat_Int, again_norm, againN_some, trunc_m, lowA, lowLoc, again_ret, again_exit, again_bif, beq_self_eq_true, findLoop, List.map_append, List.length_map, Bool.cond_true_left, Bool.cond_false_right, Bool.cond_false_left, Bool.cond_true_right, ge_iff_le, gt_iff_lt, evOpsK, ↓kindOp_m, kindW, plainWork, ownsDst, calmOp, calm, calmC, calmP, immB, noLoc, noLocC, readsAt, plainK, freeOk, pairOk, rwOk, List.getD_cons_zero, List.getD_cons_succ, Op.operands, Bool.not_eq_true, Option.map_some, Option.map_none, Int.reduceBEq, Int.reduceLT, Int.reduceLE, Int.reduceNeg, Bool.decide_eq_true, Int.reduceBNe, pickOk_n, pickOk_p, pickOk_tn, pickOk_tp, pickOk_f, pickOk_x, pickOk_h, pickOk_g, outTup, cond_nest_t, cond_nest_f, cond_same, ty3, ty4, ty9]
  simp only [textB, inB]
/-! ### value.field -/
def n67 : Note where
  keep := fun i => match i with
    | 0 => [0]
    | 1 => [2]
    | _ => []
  ro := fun _ => false
  mv := fun _ => false
  give := fun _ => false
  free := fun _ => []
theorem n67k0 : n67.keep 0 = [0] := rfl
theorem n67k1 : n67.keep 1 = [2] := rfl
theorem n67ro (t : Nat) : n67.ro t = (false) := rfl
theorem n67mv (t : Nat) : n67.mv t = (false) := rfl
theorem n67gv (t : Nat) : n67.give t = (false) := rfl
noncomputable def b67 : Code := bodyOf Try.f67
theorem r67 (C : Oracle) (L : Loops) (s : ByteArray)  :
    evFn TT C L n67 Try.f67.results.toList (bodyOf Try.f67) [.v (.s s)] [] = some (.v (.b (fieldB s)), []) := by
  simp (maxSteps := 4000000) only [Try.f67, n67k0, n67k1, n67ro, n67mv, n67gv, evFn_finish, bodyOf, Option.getD_some, ↓evCode_seq, ↓evCode_region, ↓evCode_condC, ↓evCode_skip, ↓evCode_ret, ↓evCode_exit, ↓evCode_loop, ↓evCode_block_seq, ↓evCode_block_region, ↓evCode_block_cond, ↓evCode_block_block, ↓evCode_block_skip, ↓cond_true, ↓cond_false, enter, List.toList_toArray, ↓evRegion_f, ↓evRegion_t, Bool.false_and, cond_false, evOps, ↓stepOp_m, guardB, yieldedD, isWork, cond_true, workOk, workOp, Mx.force, opnd, Mx.look, Nat.reduceBEq, solid, Mx.fit, fitCs, fitC, List.isEmpty_cons, List.isEmpty_nil, Bool.false_or, Bool.or_false, Bool.true_or, Bool.or_true, Bool.and_true, Bool.true_and, Bool.and_false, Bool.not_true, Bool.not_false, Bool.not_not, Bool.or_not_self, Bool.not_or_self, Bool.and_self, Bool.or_self, toVs, cellsOf, toV, setReg_m, spend_m, hasOwn, ownFree, List.all_cons, List.all_nil, ownFreeC, Mx.put, ofConst, ofCell, after_some, Mx.prune, List.map_cons, List.map_nil, killB, killBs, andThen_normal, andThen_ret, andThen_exit, andThen_bif, after_bif, branchC_b, unblock_normal, unblock_ret, unblock_exit, unblock_bif, pureOp, gx_m, putDst, offReg_m, callFails, isFuncCall, Option.isNone_none, Option.isNone_some, Option.isSome_none, Option.isSome_some, fieldOff, loadAt, partD, List.length_cons, List.length_nil, List.map, List.drop_succ_cons, List.drop_zero, List.take_succ_cons, List.take_zero, List.take_nil, List.drop_nil, List.getElem?_cons_zero, List.getElem?_cons_succ, List.getElem?_nil, Nat.reduceAdd, Nat.reduceMul, Nat.zero_add, Nat.add_zero, binD, binV, eqCells, eqC, lenD, sliceOf, ite_true, if_true, eq_self, reduceIte, reduceCtorEq, finish_ret, finish_normal, finish_bif, giveBack, resAll, resOne, outD, outOk, stayC, cellOk, valOk, lowC, lowP, List.take_zero, List.length_nil, forceAll, bound, asNat, elemIs, isStrK, sameInt, sliceD, kill, spendLoc, spendOk, setOwn, dropAl, dropAls, inReg, inObj, isCell, gone, List.contains_cons, List.contains_nil, List.elem_cons, List.elem_nil, lend, lendA, tracked, trackedA, noSl, noSlC, noSlV, bare, bareC, List.any_cons, List.any_nil, frz, frzC, frzReg_m, isGive, argE, argsE, isOwn, noOwn, fill, setCells, setVs, takeParts, rowsOf, inOrder, ownAt, List.set_cons_zero, List.set_cons_succ, List.nil_append, List.cons_append, List.append_nil, Nat.reduceBNe, Nat.reduceSub, Nat.reduceLT, Nat.reduceLeDiff, decide_true, decide_false, List.length_append, List.append_assoc, List.concat_eq_append, List.getElem?_append_right, List.singleton_append, Int.cast_ofNat_Int, again_norm, againN_some, trunc_m, lowA, lowLoc, again_ret, again_exit, again_bif, beq_self_eq_true, findLoop, List.map_append, List.length_map, Bool.cond_true_left, Bool.cond_false_right, Bool.cond_false_left, Bool.cond_true_right, ge_iff_le, gt_iff_lt, evOpsK, ↓kindOp_m, kindW, plainWork, ownsDst, calmOp, calm, calmC, calmP, immB, noLoc, noLocC, readsAt, plainK, freeOk, pairOk, rwOk, List.getD_cons_zero, List.getD_cons_succ, Op.operands, Bool.not_eq_true, Option.map_some, Option.map_none, Int.reduceBEq, Int.reduceLT, Int.reduceLE, Int.reduceNeg, Bool.decide_eq_true, Int.reduceBNe, pickOk_n, pickOk_p, pickOk_tn, pickOk_tp, pickOk_f, pickOk_x, pickOk_h, pickOk_g, outTup, cond_nest_t, cond_nest_f, cond_same, ty3, ty4, ty9]
  simp only [fieldB, inB]
/-! ### rostrumref.fieldMay -/
def n81 : Note where
  keep := fun i => match i with
    | 0 => [0]
    | 1 => [2]
    | _ => []
  ro := fun _ => false
  mv := fun _ => false
  give := fun _ => false
  free := fun _ => []
theorem n81k0 : n81.keep 0 = [0] := rfl
theorem n81k1 : n81.keep 1 = [2] := rfl
theorem n81ro (t : Nat) : n81.ro t = (false) := rfl
theorem n81mv (t : Nat) : n81.mv t = (false) := rfl
theorem n81gv (t : Nat) : n81.give t = (false) := rfl
noncomputable def b81 : Code := bodyOf Try.f81
theorem r81 (C : Oracle) (L : Loops) (s : ByteArray) (hIn : ∀ a b c, C 55 [.v (.i .i64 a), .v (.i .i64 b), .v (.i .i64 c)] [] = some (.v (.b (inB a b c)), [])) :
    evFn TT C L n81 Try.f81.results.toList (bodyOf Try.f81) [.v (.s s)] [] = some (.v (.b (fieldB s)), []) := by
  simp (maxSteps := 4000000) only [Try.f81, n81k0, n81k1, n81ro, n81mv, n81gv, evFn_finish, bodyOf, Option.getD_some, ↓evCode_seq, ↓evCode_region, ↓evCode_condC, ↓evCode_skip, ↓evCode_ret, ↓evCode_exit, ↓evCode_loop, ↓evCode_block_seq, ↓evCode_block_region, ↓evCode_block_cond, ↓evCode_block_block, ↓evCode_block_skip, ↓cond_true, ↓cond_false, enter, List.toList_toArray, ↓evRegion_f, ↓evRegion_t, Bool.false_and, cond_false, evOps, ↓stepOp_m, guardB, yieldedD, isWork, cond_true, workOk, workOp, Mx.force, opnd, Mx.look, Nat.reduceBEq, solid, Mx.fit, fitCs, fitC, List.isEmpty_cons, List.isEmpty_nil, Bool.false_or, Bool.or_false, Bool.true_or, Bool.or_true, Bool.and_true, Bool.true_and, Bool.and_false, Bool.not_true, Bool.not_false, Bool.not_not, Bool.or_not_self, Bool.not_or_self, Bool.and_self, Bool.or_self, toVs, cellsOf, toV, setReg_m, spend_m, hasOwn, ownFree, List.all_cons, List.all_nil, ownFreeC, Mx.put, ofConst, ofCell, after_some, Mx.prune, List.map_cons, List.map_nil, killB, killBs, andThen_normal, andThen_ret, andThen_exit, andThen_bif, after_bif, branchC_b, unblock_normal, unblock_ret, unblock_exit, unblock_bif, pureOp, gx_m, putDst, offReg_m, callFails, isFuncCall, Option.isNone_none, Option.isNone_some, Option.isSome_none, Option.isSome_some, fieldOff, loadAt, partD, List.length_cons, List.length_nil, List.map, List.drop_succ_cons, List.drop_zero, List.take_succ_cons, List.take_zero, List.take_nil, List.drop_nil, List.getElem?_cons_zero, List.getElem?_cons_succ, List.getElem?_nil, Nat.reduceAdd, Nat.reduceMul, Nat.zero_add, Nat.add_zero, binD, binV, eqCells, eqC, lenD, sliceOf, ite_true, if_true, eq_self, reduceIte, reduceCtorEq, finish_ret, finish_normal, finish_bif, giveBack, resAll, resOne, outD, outOk, stayC, cellOk, valOk, lowC, lowP, List.take_zero, List.length_nil, forceAll, bound, asNat, elemIs, isStrK, sameInt, sliceD, kill, spendLoc, spendOk, setOwn, dropAl, dropAls, inReg, inObj, isCell, gone, List.contains_cons, List.contains_nil, List.elem_cons, List.elem_nil, lend, lendA, tracked, trackedA, noSl, noSlC, noSlV, bare, bareC, List.any_cons, List.any_nil, frz, frzC, frzReg_m, isGive, argE, argsE, isOwn, noOwn, fill, setCells, setVs, takeParts, rowsOf, inOrder, ownAt, List.set_cons_zero, List.set_cons_succ, List.nil_append, List.cons_append, List.append_nil, Nat.reduceBNe, Nat.reduceSub, Nat.reduceLT, Nat.reduceLeDiff, decide_true, decide_false, List.length_append, List.append_assoc, List.concat_eq_append, List.getElem?_append_right, List.singleton_append, Int.cast_ofNat_Int, again_norm, againN_some, trunc_m, lowA, lowLoc, again_ret, again_exit, again_bif, beq_self_eq_true, findLoop, List.map_append, List.length_map, Bool.cond_true_left, Bool.cond_false_right, Bool.cond_false_left, Bool.cond_true_right, ge_iff_le, gt_iff_lt, evOpsK, ↓kindOp_m, kindW, plainWork, ownsDst, calmOp, calm, calmC, calmP, immB, noLoc, noLocC, readsAt, plainK, freeOk, pairOk, rwOk, List.getD_cons_zero, List.getD_cons_succ, Op.operands, Bool.not_eq_true, Option.map_some, Option.map_none, Int.reduceBEq, Int.reduceLT, Int.reduceLE, Int.reduceNeg, Bool.decide_eq_true, Int.reduceBNe, pickOk_n, pickOk_p, pickOk_tn, pickOk_tp, pickOk_f, pickOk_x, pickOk_h, pickOk_g, outTup, cond_nest_t, cond_nest_f, cond_same, ty3, ty4, ty9, hIn]
  simp only [fieldB, inB]
/-! ### rostrumref.countMay -/
def n82 : Note where
  keep := fun i => match i with
    | 0 => [0]
    | 1 => [2]
    | _ => []
  ro := fun _ => false
  mv := fun _ => false
  give := fun _ => false
  free := fun _ => []
theorem n82k0 : n82.keep 0 = [0] := rfl
theorem n82k1 : n82.keep 1 = [2] := rfl
theorem n82ro (t : Nat) : n82.ro t = (false) := rfl
theorem n82mv (t : Nat) : n82.mv t = (false) := rfl
theorem n82gv (t : Nat) : n82.give t = (false) := rfl
noncomputable def b82 : Code := bodyOf Try.f82
theorem r82 (C : Oracle) (L : Loops) (a : Int) (hIn : ∀ a b c, C 55 [.v (.i .i64 a), .v (.i .i64 b), .v (.i .i64 c)] [] = some (.v (.b (inB a b c)), [])) :
    evFn TT C L n82 Try.f82.results.toList (bodyOf Try.f82) [.v (.i .i64 a)] [] = some (.v (.b (countB a)), []) := by
  simp (maxSteps := 4000000) only [Try.f82, n82k0, n82k1, n82ro, n82mv, n82gv, evFn_finish, bodyOf, Option.getD_some, ↓evCode_seq, ↓evCode_region, ↓evCode_condC, ↓evCode_skip, ↓evCode_ret, ↓evCode_exit, ↓evCode_loop, ↓evCode_block_seq, ↓evCode_block_region, ↓evCode_block_cond, ↓evCode_block_block, ↓evCode_block_skip, ↓cond_true, ↓cond_false, enter, List.toList_toArray, ↓evRegion_f, ↓evRegion_t, Bool.false_and, cond_false, evOps, ↓stepOp_m, guardB, yieldedD, isWork, cond_true, workOk, workOp, Mx.force, opnd, Mx.look, Nat.reduceBEq, solid, Mx.fit, fitCs, fitC, List.isEmpty_cons, List.isEmpty_nil, Bool.false_or, Bool.or_false, Bool.true_or, Bool.or_true, Bool.and_true, Bool.true_and, Bool.and_false, Bool.not_true, Bool.not_false, Bool.not_not, Bool.or_not_self, Bool.not_or_self, Bool.and_self, Bool.or_self, toVs, cellsOf, toV, setReg_m, spend_m, hasOwn, ownFree, List.all_cons, List.all_nil, ownFreeC, Mx.put, ofConst, ofCell, after_some, Mx.prune, List.map_cons, List.map_nil, killB, killBs, andThen_normal, andThen_ret, andThen_exit, andThen_bif, after_bif, branchC_b, unblock_normal, unblock_ret, unblock_exit, unblock_bif, pureOp, gx_m, putDst, offReg_m, callFails, isFuncCall, Option.isNone_none, Option.isNone_some, Option.isSome_none, Option.isSome_some, fieldOff, loadAt, partD, List.length_cons, List.length_nil, List.map, List.drop_succ_cons, List.drop_zero, List.take_succ_cons, List.take_zero, List.take_nil, List.drop_nil, List.getElem?_cons_zero, List.getElem?_cons_succ, List.getElem?_nil, Nat.reduceAdd, Nat.reduceMul, Nat.zero_add, Nat.add_zero, binD, binV, eqCells, eqC, lenD, sliceOf, ite_true, if_true, eq_self, reduceIte, reduceCtorEq, finish_ret, finish_normal, finish_bif, giveBack, resAll, resOne, outD, outOk, stayC, cellOk, valOk, lowC, lowP, List.take_zero, List.length_nil, forceAll, bound, asNat, elemIs, isStrK, sameInt, sliceD, kill, spendLoc, spendOk, setOwn, dropAl, dropAls, inReg, inObj, isCell, gone, List.contains_cons, List.contains_nil, List.elem_cons, List.elem_nil, lend, lendA, tracked, trackedA, noSl, noSlC, noSlV, bare, bareC, List.any_cons, List.any_nil, frz, frzC, frzReg_m, isGive, argE, argsE, isOwn, noOwn, fill, setCells, setVs, takeParts, rowsOf, inOrder, ownAt, List.set_cons_zero, List.set_cons_succ, List.nil_append, List.cons_append, List.append_nil, Nat.reduceBNe, Nat.reduceSub, Nat.reduceLT, Nat.reduceLeDiff, decide_true, decide_false, List.length_append, List.append_assoc, List.concat_eq_append, List.getElem?_append_right, List.singleton_append, Int.cast_ofNat_Int, again_norm, againN_some, trunc_m, lowA, lowLoc, again_ret, again_exit, again_bif, beq_self_eq_true, findLoop, List.map_append, List.length_map, Bool.cond_true_left, Bool.cond_false_right, Bool.cond_false_left, Bool.cond_true_right, ge_iff_le, gt_iff_lt, evOpsK, ↓kindOp_m, kindW, plainWork, ownsDst, calmOp, calm, calmC, calmP, immB, noLoc, noLocC, readsAt, plainK, freeOk, pairOk, rwOk, List.getD_cons_zero, List.getD_cons_succ, Op.operands, Bool.not_eq_true, Option.map_some, Option.map_none, Int.reduceBEq, Int.reduceLT, Int.reduceLE, Int.reduceNeg, Bool.decide_eq_true, Int.reduceBNe, pickOk_n, pickOk_p, pickOk_tn, pickOk_tp, pickOk_f, pickOk_x, pickOk_h, pickOk_g, outTup, cond_nest_t, cond_nest_f, cond_same, ty3, ty4, hIn]
  simp only [countB, inB]
/-! ### value.count -/
def n70 : Note where
  keep := fun i => match i with
    | 0 => [0]
    | 1 => [2]
    | _ => []
  ro := fun _ => false
  mv := fun _ => false
  give := fun _ => false
  free := fun _ => []
theorem n70k0 : n70.keep 0 = [0] := rfl
theorem n70k1 : n70.keep 1 = [2] := rfl
theorem n70ro (t : Nat) : n70.ro t = (false) := rfl
theorem n70mv (t : Nat) : n70.mv t = (false) := rfl
theorem n70gv (t : Nat) : n70.give t = (false) := rfl
noncomputable def b70 : Code := bodyOf Try.f70
theorem r70 (C : Oracle) (L : Loops) (a : Int)  :
    evFn TT C L n70 Try.f70.results.toList (bodyOf Try.f70) [.v (.i .i64 a)] [] = some (.v (.b (countB a)), []) := by
  simp (maxSteps := 4000000) only [Try.f70, n70k0, n70k1, n70ro, n70mv, n70gv, evFn_finish, bodyOf, Option.getD_some, ↓evCode_seq, ↓evCode_region, ↓evCode_condC, ↓evCode_skip, ↓evCode_ret, ↓evCode_exit, ↓evCode_loop, ↓evCode_block_seq, ↓evCode_block_region, ↓evCode_block_cond, ↓evCode_block_block, ↓evCode_block_skip, ↓cond_true, ↓cond_false, enter, List.toList_toArray, ↓evRegion_f, ↓evRegion_t, Bool.false_and, cond_false, evOps, ↓stepOp_m, guardB, yieldedD, isWork, cond_true, workOk, workOp, Mx.force, opnd, Mx.look, Nat.reduceBEq, solid, Mx.fit, fitCs, fitC, List.isEmpty_cons, List.isEmpty_nil, Bool.false_or, Bool.or_false, Bool.true_or, Bool.or_true, Bool.and_true, Bool.true_and, Bool.and_false, Bool.not_true, Bool.not_false, Bool.not_not, Bool.or_not_self, Bool.not_or_self, Bool.and_self, Bool.or_self, toVs, cellsOf, toV, setReg_m, spend_m, hasOwn, ownFree, List.all_cons, List.all_nil, ownFreeC, Mx.put, ofConst, ofCell, after_some, Mx.prune, List.map_cons, List.map_nil, killB, killBs, andThen_normal, andThen_ret, andThen_exit, andThen_bif, after_bif, branchC_b, unblock_normal, unblock_ret, unblock_exit, unblock_bif, pureOp, gx_m, putDst, offReg_m, callFails, isFuncCall, Option.isNone_none, Option.isNone_some, Option.isSome_none, Option.isSome_some, fieldOff, loadAt, partD, List.length_cons, List.length_nil, List.map, List.drop_succ_cons, List.drop_zero, List.take_succ_cons, List.take_zero, List.take_nil, List.drop_nil, List.getElem?_cons_zero, List.getElem?_cons_succ, List.getElem?_nil, Nat.reduceAdd, Nat.reduceMul, Nat.zero_add, Nat.add_zero, binD, binV, eqCells, eqC, lenD, sliceOf, ite_true, if_true, eq_self, reduceIte, reduceCtorEq, finish_ret, finish_normal, finish_bif, giveBack, resAll, resOne, outD, outOk, stayC, cellOk, valOk, lowC, lowP, List.take_zero, List.length_nil, forceAll, bound, asNat, elemIs, isStrK, sameInt, sliceD, kill, spendLoc, spendOk, setOwn, dropAl, dropAls, inReg, inObj, isCell, gone, List.contains_cons, List.contains_nil, List.elem_cons, List.elem_nil, lend, lendA, tracked, trackedA, noSl, noSlC, noSlV, bare, bareC, List.any_cons, List.any_nil, frz, frzC, frzReg_m, isGive, argE, argsE, isOwn, noOwn, fill, setCells, setVs, takeParts, rowsOf, inOrder, ownAt, List.set_cons_zero, List.set_cons_succ, List.nil_append, List.cons_append, List.append_nil, Nat.reduceBNe, Nat.reduceSub, Nat.reduceLT, Nat.reduceLeDiff, decide_true, decide_false, List.length_append, List.append_assoc, List.concat_eq_append, List.getElem?_append_right, List.singleton_append, Int.cast_ofNat_Int, again_norm, againN_some, trunc_m, lowA, lowLoc, again_ret, again_exit, again_bif, beq_self_eq_true, findLoop, List.map_append, List.length_map, Bool.cond_true_left, Bool.cond_false_right, Bool.cond_false_left, Bool.cond_true_right, ge_iff_le, gt_iff_lt, evOpsK, ↓kindOp_m, kindW, plainWork, ownsDst, calmOp, calm, calmC, calmP, immB, noLoc, noLocC, readsAt, plainK, freeOk, pairOk, rwOk, List.getD_cons_zero, List.getD_cons_succ, Op.operands, Bool.not_eq_true, Option.map_some, Option.map_none, Int.reduceBEq, Int.reduceLT, Int.reduceLE, Int.reduceNeg, Bool.decide_eq_true, Int.reduceBNe, pickOk_n, pickOk_p, pickOk_tn, pickOk_tp, pickOk_f, pickOk_x, pickOk_h, pickOk_g, outTup, cond_nest_t, cond_nest_f, cond_same, ty3, ty4]
  simp only [countB, inB]
/-! ### rostrumref.numberMay -/
def n91 : Note where
  keep := fun i => match i with
    | 0 => [0]
    | 1 => [2]
    | _ => []
  ro := fun _ => false
  mv := fun _ => false
  give := fun _ => false
  free := fun _ => []
theorem n91k0 : n91.keep 0 = [0] := rfl
theorem n91k1 : n91.keep 1 = [2] := rfl
theorem n91ro (t : Nat) : n91.ro t = (false) := rfl
theorem n91mv (t : Nat) : n91.mv t = (false) := rfl
theorem n91gv (t : Nat) : n91.give t = (false) := rfl
noncomputable def b91 : Code := bodyOf Try.f91
theorem r91 (C : Oracle) (L : Loops) (a : Int) (hIn : ∀ a b c, C 55 [.v (.i .i64 a), .v (.i .i64 b), .v (.i .i64 c)] [] = some (.v (.b (inB a b c)), [])) :
    evFn TT C L n91 Try.f91.results.toList (bodyOf Try.f91) [.v (.i .i64 a)] [] = some (.v (.b (numB a)), []) := by
  simp (maxSteps := 4000000) only [Try.f91, n91k0, n91k1, n91ro, n91mv, n91gv, evFn_finish, bodyOf, Option.getD_some, ↓evCode_seq, ↓evCode_region, ↓evCode_condC, ↓evCode_skip, ↓evCode_ret, ↓evCode_exit, ↓evCode_loop, ↓evCode_block_seq, ↓evCode_block_region, ↓evCode_block_cond, ↓evCode_block_block, ↓evCode_block_skip, ↓cond_true, ↓cond_false, enter, List.toList_toArray, ↓evRegion_f, ↓evRegion_t, Bool.false_and, cond_false, evOps, ↓stepOp_m, guardB, yieldedD, isWork, cond_true, workOk, workOp, Mx.force, opnd, Mx.look, Nat.reduceBEq, solid, Mx.fit, fitCs, fitC, List.isEmpty_cons, List.isEmpty_nil, Bool.false_or, Bool.or_false, Bool.true_or, Bool.or_true, Bool.and_true, Bool.true_and, Bool.and_false, Bool.not_true, Bool.not_false, Bool.not_not, Bool.or_not_self, Bool.not_or_self, Bool.and_self, Bool.or_self, toVs, cellsOf, toV, setReg_m, spend_m, hasOwn, ownFree, List.all_cons, List.all_nil, ownFreeC, Mx.put, ofConst, ofCell, after_some, Mx.prune, List.map_cons, List.map_nil, killB, killBs, andThen_normal, andThen_ret, andThen_exit, andThen_bif, after_bif, branchC_b, unblock_normal, unblock_ret, unblock_exit, unblock_bif, pureOp, gx_m, putDst, offReg_m, callFails, isFuncCall, Option.isNone_none, Option.isNone_some, Option.isSome_none, Option.isSome_some, fieldOff, loadAt, partD, List.length_cons, List.length_nil, List.map, List.drop_succ_cons, List.drop_zero, List.take_succ_cons, List.take_zero, List.take_nil, List.drop_nil, List.getElem?_cons_zero, List.getElem?_cons_succ, List.getElem?_nil, Nat.reduceAdd, Nat.reduceMul, Nat.zero_add, Nat.add_zero, binD, binV, eqCells, eqC, lenD, sliceOf, ite_true, if_true, eq_self, reduceIte, reduceCtorEq, finish_ret, finish_normal, finish_bif, giveBack, resAll, resOne, outD, outOk, stayC, cellOk, valOk, lowC, lowP, List.take_zero, List.length_nil, forceAll, bound, asNat, elemIs, isStrK, sameInt, sliceD, kill, spendLoc, spendOk, setOwn, dropAl, dropAls, inReg, inObj, isCell, gone, List.contains_cons, List.contains_nil, List.elem_cons, List.elem_nil, lend, lendA, tracked, trackedA, noSl, noSlC, noSlV, bare, bareC, List.any_cons, List.any_nil, frz, frzC, frzReg_m, isGive, argE, argsE, isOwn, noOwn, fill, setCells, setVs, takeParts, rowsOf, inOrder, ownAt, List.set_cons_zero, List.set_cons_succ, List.nil_append, List.cons_append, List.append_nil, Nat.reduceBNe, Nat.reduceSub, Nat.reduceLT, Nat.reduceLeDiff, decide_true, decide_false, List.length_append, List.append_assoc, List.concat_eq_append, List.getElem?_append_right, List.singleton_append, Int.cast_ofNat_Int, again_norm, againN_some, trunc_m, lowA, lowLoc, again_ret, again_exit, again_bif, beq_self_eq_true, findLoop, List.map_append, List.length_map, Bool.cond_true_left, Bool.cond_false_right, Bool.cond_false_left, Bool.cond_true_right, ge_iff_le, gt_iff_lt, evOpsK, ↓kindOp_m, kindW, plainWork, ownsDst, calmOp, calm, calmC, calmP, immB, noLoc, noLocC, readsAt, plainK, freeOk, pairOk, rwOk, List.getD_cons_zero, List.getD_cons_succ, Op.operands, Bool.not_eq_true, Option.map_some, Option.map_none, Int.reduceBEq, Int.reduceLT, Int.reduceLE, Int.reduceNeg, Bool.decide_eq_true, Int.reduceBNe, pickOk_n, pickOk_p, pickOk_tn, pickOk_tp, pickOk_f, pickOk_x, pickOk_h, pickOk_g, outTup, cond_nest_t, cond_nest_f, cond_same, ty3, ty4, hIn]
  simp only [numB, inB]
/-! ### client.number -/
def n127 : Note where
  keep := fun i => match i with
    | 0 => [0]
    | 1 => [2]
    | _ => []
  ro := fun _ => false
  mv := fun _ => false
  give := fun _ => false
  free := fun _ => []
theorem n127k0 : n127.keep 0 = [0] := rfl
theorem n127k1 : n127.keep 1 = [2] := rfl
theorem n127ro (t : Nat) : n127.ro t = (false) := rfl
theorem n127mv (t : Nat) : n127.mv t = (false) := rfl
theorem n127gv (t : Nat) : n127.give t = (false) := rfl
noncomputable def b127 : Code := bodyOf Try.f127
theorem r127 (C : Oracle) (L : Loops) (a : Int)  :
    evFn TT C L n127 Try.f127.results.toList (bodyOf Try.f127) [.v (.i .i64 a)] [] = some (.v (.b (numB a)), []) := by
  simp (maxSteps := 4000000) only [Try.f127, n127k0, n127k1, n127ro, n127mv, n127gv, evFn_finish, bodyOf, Option.getD_some, ↓evCode_seq, ↓evCode_region, ↓evCode_condC, ↓evCode_skip, ↓evCode_ret, ↓evCode_exit, ↓evCode_loop, ↓evCode_block_seq, ↓evCode_block_region, ↓evCode_block_cond, ↓evCode_block_block, ↓evCode_block_skip, ↓cond_true, ↓cond_false, enter, List.toList_toArray, ↓evRegion_f, ↓evRegion_t, Bool.false_and, cond_false, evOps, ↓stepOp_m, guardB, yieldedD, isWork, cond_true, workOk, workOp, Mx.force, opnd, Mx.look, Nat.reduceBEq, solid, Mx.fit, fitCs, fitC, List.isEmpty_cons, List.isEmpty_nil, Bool.false_or, Bool.or_false, Bool.true_or, Bool.or_true, Bool.and_true, Bool.true_and, Bool.and_false, Bool.not_true, Bool.not_false, Bool.not_not, Bool.or_not_self, Bool.not_or_self, Bool.and_self, Bool.or_self, toVs, cellsOf, toV, setReg_m, spend_m, hasOwn, ownFree, List.all_cons, List.all_nil, ownFreeC, Mx.put, ofConst, ofCell, after_some, Mx.prune, List.map_cons, List.map_nil, killB, killBs, andThen_normal, andThen_ret, andThen_exit, andThen_bif, after_bif, branchC_b, unblock_normal, unblock_ret, unblock_exit, unblock_bif, pureOp, gx_m, putDst, offReg_m, callFails, isFuncCall, Option.isNone_none, Option.isNone_some, Option.isSome_none, Option.isSome_some, fieldOff, loadAt, partD, List.length_cons, List.length_nil, List.map, List.drop_succ_cons, List.drop_zero, List.take_succ_cons, List.take_zero, List.take_nil, List.drop_nil, List.getElem?_cons_zero, List.getElem?_cons_succ, List.getElem?_nil, Nat.reduceAdd, Nat.reduceMul, Nat.zero_add, Nat.add_zero, binD, binV, eqCells, eqC, lenD, sliceOf, ite_true, if_true, eq_self, reduceIte, reduceCtorEq, finish_ret, finish_normal, finish_bif, giveBack, resAll, resOne, outD, outOk, stayC, cellOk, valOk, lowC, lowP, List.take_zero, List.length_nil, forceAll, bound, asNat, elemIs, isStrK, sameInt, sliceD, kill, spendLoc, spendOk, setOwn, dropAl, dropAls, inReg, inObj, isCell, gone, List.contains_cons, List.contains_nil, List.elem_cons, List.elem_nil, lend, lendA, tracked, trackedA, noSl, noSlC, noSlV, bare, bareC, List.any_cons, List.any_nil, frz, frzC, frzReg_m, isGive, argE, argsE, isOwn, noOwn, fill, setCells, setVs, takeParts, rowsOf, inOrder, ownAt, List.set_cons_zero, List.set_cons_succ, List.nil_append, List.cons_append, List.append_nil, Nat.reduceBNe, Nat.reduceSub, Nat.reduceLT, Nat.reduceLeDiff, decide_true, decide_false, List.length_append, List.append_assoc, List.concat_eq_append, List.getElem?_append_right, List.singleton_append, Int.cast_ofNat_Int, again_norm, againN_some, trunc_m, lowA, lowLoc, again_ret, again_exit, again_bif, beq_self_eq_true, findLoop, List.map_append, List.length_map, Bool.cond_true_left, Bool.cond_false_right, Bool.cond_false_left, Bool.cond_true_right, ge_iff_le, gt_iff_lt, evOpsK, ↓kindOp_m, kindW, plainWork, ownsDst, calmOp, calm, calmC, calmP, immB, noLoc, noLocC, readsAt, plainK, freeOk, pairOk, rwOk, List.getD_cons_zero, List.getD_cons_succ, Op.operands, Bool.not_eq_true, Option.map_some, Option.map_none, Int.reduceBEq, Int.reduceLT, Int.reduceLE, Int.reduceNeg, Bool.decide_eq_true, Int.reduceBNe, pickOk_n, pickOk_p, pickOk_tn, pickOk_tp, pickOk_f, pickOk_x, pickOk_h, pickOk_g, outTup, cond_nest_t, cond_nest_f, cond_same, ty3, ty4]
  simp only [numB, inB]
/-! ### rostrumref.CommandFault -/
def n130 : Note where
  keep := fun i => match i with
    | 0 => [1]
    | 1 => [1, 10]
    | 2 => [2]
    | 3 => [1, 3]
    | 4 => [1, 3, 4]
    | 5 => [1, 3, 4, 5]
    | 6 => [1, 3, 4, 5, 6]
    | 7 => [1, 4, 6, 86]
    | 8 => [2]
    | 9 => [1, 108]
    | 10 => [2]
    | 11 => [112]
    | 12 => [2]
    | 13 => [2]
    | _ => []
  ro := fun t => t == 1
  mv := fun _ => false
  give := fun _ => false
  free := fun _ => []
theorem n130k0 : n130.keep 0 = [1] := rfl
theorem n130k1 : n130.keep 1 = [1, 10] := rfl
theorem n130k2 : n130.keep 2 = [2] := rfl
theorem n130k3 : n130.keep 3 = [1, 3] := rfl
theorem n130k4 : n130.keep 4 = [1, 3, 4] := rfl
theorem n130k5 : n130.keep 5 = [1, 3, 4, 5] := rfl
theorem n130k6 : n130.keep 6 = [1, 3, 4, 5, 6] := rfl
theorem n130k7 : n130.keep 7 = [1, 4, 6, 86] := rfl
theorem n130k8 : n130.keep 8 = [2] := rfl
theorem n130k9 : n130.keep 9 = [1, 108] := rfl
theorem n130k10 : n130.keep 10 = [2] := rfl
theorem n130k11 : n130.keep 11 = [112] := rfl
theorem n130k12 : n130.keep 12 = [2] := rfl
theorem n130k13 : n130.keep 13 = [2] := rfl
theorem n130ro (t : Nat) : n130.ro t = (t == 1) := rfl
theorem n130mv (t : Nat) : n130.mv t = (false) := rfl
theorem n130gv (t : Nat) : n130.give t = (false) := rfl
noncomputable def b130 : Code := bodyOf Try.f130
theorem r130 (C : Oracle) (L : Loops) (k n : Int) (key field text : ByteArray) (hIn : ∀ a b c, C 55 [.v (.i .i64 a), .v (.i .i64 b), .v (.i .i64 c)] [] = some (.v (.b (inB a b c)), []))(hF : ∀ s, C 81 [.v (.s s)] [] = some (.v (.b (fieldB s)), []))(hT : ∀ s, C 80 [.v (.s s)] [] = some (.v (.b (textB s)), []))(hC : ∀ a, C 82 [.v (.i .i64 a)] [] = some (.v (.b (countB a)), [])) :
    evFn TT C L n130 Try.f130.results.toList (bodyOf Try.f130) [.agg [.v (.i .i64 k), .v (.s key), .v (.s field), .v (.s text), .v (.i .i64 n)]] [] = some (.v (.i .i64 (cmdF k key field text n)), []) := by
  simp (maxSteps := 4000000) only [Try.f130, n130k0, n130k1, n130k2, n130k3, n130k4, n130k5, n130k6, n130k7, n130k8, n130k9, n130k10, n130k11, n130k12, n130k13, n130ro, n130mv, n130gv, evFn_finish, bodyOf, Option.getD_some, ↓evCode_seq, ↓evCode_region, ↓evCode_condC, ↓evCode_skip, ↓evCode_ret, ↓evCode_exit, ↓evCode_loop, ↓evCode_block_seq, ↓evCode_block_region, ↓evCode_block_cond, ↓evCode_block_block, ↓evCode_block_skip, ↓cond_true, ↓cond_false, enter, List.toList_toArray, ↓evRegion_f, ↓evRegion_t, Bool.false_and, cond_false, evOps, ↓stepOp_m, guardB, yieldedD, isWork, cond_true, workOk, workOp, Mx.force, opnd, Mx.look, Nat.reduceBEq, solid, Mx.fit, fitCs, fitC, List.isEmpty_cons, List.isEmpty_nil, Bool.false_or, Bool.or_false, Bool.true_or, Bool.or_true, Bool.and_true, Bool.true_and, Bool.and_false, Bool.not_true, Bool.not_false, Bool.not_not, Bool.or_not_self, Bool.not_or_self, Bool.and_self, Bool.or_self, toVs, cellsOf, toV, setReg_m, spend_m, hasOwn, ownFree, List.all_cons, List.all_nil, ownFreeC, Mx.put, ofConst, ofCell, after_some, Mx.prune, List.map_cons, List.map_nil, killB, killBs, andThen_normal, andThen_ret, andThen_exit, andThen_bif, after_bif, branchC_b, unblock_normal, unblock_ret, unblock_exit, unblock_bif, pureOp, gx_m, putDst, offReg_m, callFails, isFuncCall, Option.isNone_none, Option.isNone_some, Option.isSome_none, Option.isSome_some, fieldOff, loadAt, partD, List.length_cons, List.length_nil, List.map, List.drop_succ_cons, List.drop_zero, List.take_succ_cons, List.take_zero, List.take_nil, List.drop_nil, List.getElem?_cons_zero, List.getElem?_cons_succ, List.getElem?_nil, Nat.reduceAdd, Nat.reduceMul, Nat.zero_add, Nat.add_zero, binD, binV, eqCells, eqC, lenD, sliceOf, ite_true, if_true, eq_self, reduceIte, reduceCtorEq, finish_ret, finish_normal, finish_bif, giveBack, resAll, resOne, outD, outOk, stayC, cellOk, valOk, lowC, lowP, List.take_zero, List.length_nil, forceAll, bound, asNat, elemIs, isStrK, sameInt, sliceD, kill, spendLoc, spendOk, setOwn, dropAl, dropAls, inReg, inObj, isCell, gone, List.contains_cons, List.contains_nil, List.elem_cons, List.elem_nil, lend, lendA, tracked, trackedA, noSl, noSlC, noSlV, bare, bareC, List.any_cons, List.any_nil, frz, frzC, frzReg_m, isGive, argE, argsE, isOwn, noOwn, fill, setCells, setVs, takeParts, rowsOf, inOrder, ownAt, List.set_cons_zero, List.set_cons_succ, List.nil_append, List.cons_append, List.append_nil, Nat.reduceBNe, Nat.reduceSub, Nat.reduceLT, Nat.reduceLeDiff, decide_true, decide_false, List.length_append, List.append_assoc, List.concat_eq_append, List.getElem?_append_right, List.singleton_append, Int.cast_ofNat_Int, again_norm, againN_some, trunc_m, lowA, lowLoc, again_ret, again_exit, again_bif, beq_self_eq_true, findLoop, List.map_append, List.length_map, Bool.cond_true_left, Bool.cond_false_right, Bool.cond_false_left, Bool.cond_true_right, ge_iff_le, gt_iff_lt, evOpsK, ↓kindOp_m, kindW, plainWork, ownsDst, calmOp, calm, calmC, calmP, immB, noLoc, noLocC, readsAt, plainK, freeOk, pairOk, rwOk, List.getD_cons_zero, List.getD_cons_succ, Op.operands, Bool.not_eq_true, Option.map_some, Option.map_none, Int.reduceBEq, Int.reduceLT, Int.reduceLE, Int.reduceNeg, Bool.decide_eq_true, Int.reduceBNe, pickOk_n, pickOk_p, pickOk_tn, pickOk_tp, pickOk_f, pickOk_x, pickOk_h, pickOk_g, outTup, cond_nest_t, cond_nest_f, cond_same, ty3, ty4, ty9, ty25, ty34, hIn, hF, hT, hC, emp_l, empty_l, emptymk_l]
  simp only [cmdF, resI, bne, Bool.not_not]
/-! ### value.CheckCommand -/
def n128 : Note where
  keep := fun i => match i with
    | 0 => [1]
    | 1 => [1, 11]
    | 2 => [2]
    | 3 => [1, 3]
    | 4 => [1, 3, 18]
    | 5 => [1, 3, 18, 19]
    | 6 => [1, 3, 18, 19]
    | 7 => [1, 3, 18, 19]
    | 8 => [1, 3, 18, 19]
    | 9 => [1, 3, 18, 19]
    | 10 => [1, 3, 18, 19]
    | 11 => [1, 3, 18, 19]
    | 12 => [1, 3, 18, 19]
    | 13 => [1, 3]
    | 14 => [1, 3, 18, 31]
    | 15 => [1, 3, 18, 31]
    | 16 => [1, 3]
    | 17 => [1, 3, 18, 37]
    | 18 => [1, 3]
    | 19 => [1, 3, 18, 45]
    | 20 => [1, 3, 18, 45]
    | 21 => [1, 3]
    | 22 => [1, 3, 18, 51]
    | 23 => [1, 3]
    | 24 => [1, 3, 59]
    | 25 => [1, 3]
    | 26 => [1, 64]
    | 27 => [2]
    | 28 => [1, 95]
    | 29 => [2]
    | 30 => [99]
    | 31 => [2]
    | 32 => [2]
    | _ => []
  ro := fun t => t == 1
  mv := fun _ => false
  give := fun _ => false
  free := fun i => match i with | 18 => [(0, 2), (1, 2), (0, 3), (1, 3), (2, 4), (3, 4), (2, 5), (3, 5)] | 23 => [(0, 2), (1, 2), (0, 3), (1, 3), (2, 4), (3, 4), (2, 5), (3, 5)] | _ => []
theorem n128k0 : n128.keep 0 = [1] := rfl
theorem n128k1 : n128.keep 1 = [1, 11] := rfl
theorem n128k2 : n128.keep 2 = [2] := rfl
theorem n128k3 : n128.keep 3 = [1, 3] := rfl
theorem n128k4 : n128.keep 4 = [1, 3, 18] := rfl
theorem n128k5 : n128.keep 5 = [1, 3, 18, 19] := rfl
theorem n128k6 : n128.keep 6 = [1, 3, 18, 19] := rfl
theorem n128k7 : n128.keep 7 = [1, 3, 18, 19] := rfl
theorem n128k8 : n128.keep 8 = [1, 3, 18, 19] := rfl
theorem n128k9 : n128.keep 9 = [1, 3, 18, 19] := rfl
theorem n128k10 : n128.keep 10 = [1, 3, 18, 19] := rfl
theorem n128k11 : n128.keep 11 = [1, 3, 18, 19] := rfl
theorem n128k12 : n128.keep 12 = [1, 3, 18, 19] := rfl
theorem n128k13 : n128.keep 13 = [1, 3] := rfl
theorem n128k14 : n128.keep 14 = [1, 3, 18, 31] := rfl
theorem n128k15 : n128.keep 15 = [1, 3, 18, 31] := rfl
theorem n128k16 : n128.keep 16 = [1, 3] := rfl
theorem n128k17 : n128.keep 17 = [1, 3, 18, 37] := rfl
theorem n128k18 : n128.keep 18 = [1, 3] := rfl
theorem n128k19 : n128.keep 19 = [1, 3, 18, 45] := rfl
theorem n128k20 : n128.keep 20 = [1, 3, 18, 45] := rfl
theorem n128k21 : n128.keep 21 = [1, 3] := rfl
theorem n128k22 : n128.keep 22 = [1, 3, 18, 51] := rfl
theorem n128k23 : n128.keep 23 = [1, 3] := rfl
theorem n128k24 : n128.keep 24 = [1, 3, 59] := rfl
theorem n128k25 : n128.keep 25 = [1, 3] := rfl
theorem n128k26 : n128.keep 26 = [1, 64] := rfl
theorem n128k27 : n128.keep 27 = [2] := rfl
theorem n128k28 : n128.keep 28 = [1, 95] := rfl
theorem n128k29 : n128.keep 29 = [2] := rfl
theorem n128k30 : n128.keep 30 = [99] := rfl
theorem n128k31 : n128.keep 31 = [2] := rfl
theorem n128k32 : n128.keep 32 = [2] := rfl
theorem n128ro (t : Nat) : n128.ro t = (t == 1) := rfl
theorem n128mv (t : Nat) : n128.mv t = (false) := rfl
theorem n128gv (t : Nat) : n128.give t = (false) := rfl
theorem n128f18 : n128.free 18 = [(0, 2), (1, 2), (0, 3), (1, 3), (2, 4), (3, 4), (2, 5), (3, 5)] := rfl
theorem n128f23 : n128.free 23 = [(0, 2), (1, 2), (0, 3), (1, 3), (2, 4), (3, 4), (2, 5), (3, 5)] := rfl
noncomputable def b128 : Code := bodyOf Try.f128
set_option maxRecDepth 100000 in
set_option maxHeartbeats 4000000 in
theorem r128 (C : Oracle) (L : Loops) (k n : Int) (key field text : ByteArray) (hF : ∀ s, C 67 [.v (.s s)] [] = some (.v (.b (fieldB s)), []))(hT : ∀ s, C 62 [.v (.s s)] [] = some (.v (.b (textB s)), []))(hC : ∀ a, C 70 [.v (.i .i64 a)] [] = some (.v (.b (countB a)), [])) :
    evFn TT C L n128 Try.f128.results.toList (bodyOf Try.f128) [.agg [.v (.i .i64 k), .v (.s key), .v (.s field), .v (.s text), .v (.i .i64 n)]] [] = some (.v (.i .i64 (cmdF k key field text n)), []) := by
  by_cases hr : (decide (k < 1) || decide (22 < k)) = true
  · have h2 : inB k 1 22 = false := by
      simp only [Bool.or_eq_true, decide_eq_true_eq] at hr
      simp only [inB, Bool.and_eq_false_iff, decide_eq_false_iff_not]; omega
    simp (maxSteps := 4000000) only [cmdF, h2, hr, Try.f128, n128k0, n128k1, n128k2, n128k3, n128k4, n128k5, n128k6, n128k7, n128k8, n128k9, n128k10, n128k11, n128k12, n128k13, n128k14, n128k15, n128k16, n128k17, n128k18, n128k19, n128k20, n128k21, n128k22, n128k23, n128k24, n128k25, n128k26, n128k27, n128k28, n128k29, n128k30, n128k31, n128k32, n128f18, n128f23, n128ro, n128mv, n128gv, evFn_finish, bodyOf, Option.getD_some, ↓evCode_seq, ↓evCode_region, ↓evCode_condC, ↓evCode_skip, ↓evCode_ret, ↓evCode_exit, ↓evCode_loop, ↓evCode_block_seq, ↓evCode_block_region, ↓evCode_block_cond, ↓evCode_block_block, ↓evCode_block_skip, ↓cond_true, ↓cond_false, enter, List.toList_toArray, ↓evRegion_f, ↓evRegion_t, Bool.false_and, cond_false, evOps, ↓stepOp_m, guardB, yieldedD, isWork, cond_true, workOk, workOp, Mx.force, opnd, Mx.look, Nat.reduceBEq, solid, Mx.fit, fitCs, fitC, List.isEmpty_cons, List.isEmpty_nil, Bool.false_or, Bool.or_false, Bool.true_or, Bool.or_true, Bool.and_true, Bool.true_and, Bool.and_false, Bool.not_true, Bool.not_false, Bool.not_not, Bool.or_not_self, Bool.not_or_self, Bool.and_self, Bool.or_self, toVs, cellsOf, toV, setReg_m, spend_m, hasOwn, ownFree, List.all_cons, List.all_nil, ownFreeC, Mx.put, ofConst, ofCell, after_some, Mx.prune, List.map_cons, List.map_nil, killB, killBs, andThen_normal, andThen_ret, andThen_exit, andThen_bif, after_bif, branchC_b, unblock_normal, unblock_ret, unblock_exit, unblock_bif, pureOp, gx_m, putDst, offReg_m, callFails, isFuncCall, Option.isNone_none, Option.isNone_some, Option.isSome_none, Option.isSome_some, fieldOff, loadAt, partD, List.length_cons, List.length_nil, List.map, List.drop_succ_cons, List.drop_zero, List.take_succ_cons, List.take_zero, List.take_nil, List.drop_nil, List.getElem?_cons_zero, List.getElem?_cons_succ, List.getElem?_nil, Nat.reduceAdd, Nat.reduceMul, Nat.zero_add, Nat.add_zero, binD, binV, eqCells, eqC, lenD, sliceOf, ite_true, if_true, eq_self, reduceIte, reduceCtorEq, finish_ret, finish_normal, finish_bif, giveBack, resAll, resOne, outD, outOk, stayC, cellOk, valOk, lowC, lowP, List.take_zero, List.length_nil, forceAll, bound, asNat, elemIs, isStrK, sameInt, sliceD, kill, spendLoc, spendOk, setOwn, dropAl, dropAls, inReg, inObj, isCell, gone, List.contains_cons, List.contains_nil, List.elem_cons, List.elem_nil, lend, lendA, tracked, trackedA, noSl, noSlC, noSlV, bare, bareC, List.any_cons, List.any_nil, frz, frzC, frzReg_m, isGive, argE, argsE, isOwn, noOwn, fill, setCells, setVs, takeParts, rowsOf, inOrder, ownAt, List.set_cons_zero, List.set_cons_succ, List.nil_append, List.cons_append, List.append_nil, Nat.reduceBNe, Nat.reduceSub, Nat.reduceLT, Nat.reduceLeDiff, decide_true, decide_false, List.length_append, List.append_assoc, List.concat_eq_append, List.getElem?_append_right, List.singleton_append, Int.cast_ofNat_Int, again_norm, againN_some, trunc_m, lowA, lowLoc, again_ret, again_exit, again_bif, beq_self_eq_true, findLoop, List.map_append, List.length_map, Bool.cond_true_left, Bool.cond_false_right, Bool.cond_false_left, Bool.cond_true_right, ge_iff_le, gt_iff_lt, evOpsK, ↓kindOp_m, kindW, plainWork, ownsDst, calmOp, calm, calmC, calmP, immB, noLoc, noLocC, readsAt, plainK, freeOk, pairOk, rwOk, List.getD_cons_zero, List.getD_cons_succ, Op.operands, Bool.not_eq_true, Option.map_some, Option.map_none, Int.reduceBEq, Int.reduceLT, Int.reduceLE, Int.reduceNeg, Bool.decide_eq_true, Int.reduceBNe, pickOk_n, pickOk_p, pickOk_tn, pickOk_tp, pickOk_f, pickOk_x, pickOk_h, pickOk_g, outTup, cond_nest_t, cond_nest_f, cond_same, ty3, ty4, ty9, ty25, ty34, emp_l, empty_l, emptymk_l]
  rw [Bool.not_eq_true] at hr
  have hk : k = 1 ∨ k = 2 ∨ k = 3 ∨ k = 4 ∨ k = 5 ∨ k = 6 ∨ k = 7 ∨ k = 8 ∨ k = 9 ∨ k = 10 ∨ k = 11 ∨ k = 12 ∨ k = 13 ∨ k = 14 ∨ k = 15 ∨ k = 16 ∨ k = 17 ∨ k = 18 ∨ k = 19 ∨ k = 20 ∨ k = 21 ∨ k = 22 := by
    simp only [Bool.or_eq_false_iff, decide_eq_false_iff_not] at hr; omega
  rcases hk with rfl | rfl | rfl | rfl | rfl | rfl | rfl | rfl | rfl | rfl | rfl | rfl | rfl | rfl | rfl | rfl | rfl | rfl | rfl | rfl | rfl | rfl
  all_goals simp (maxSteps := 4000000) only [cmdF, inB, resI, Try.f128, n128k0, n128k1, n128k2, n128k3, n128k4, n128k5, n128k6, n128k7, n128k8, n128k9, n128k10, n128k11, n128k12, n128k13, n128k14, n128k15, n128k16, n128k17, n128k18, n128k19, n128k20, n128k21, n128k22, n128k23, n128k24, n128k25, n128k26, n128k27, n128k28, n128k29, n128k30, n128k31, n128k32, n128f18, n128f23, n128ro, n128mv, n128gv, evFn_finish, bodyOf, Option.getD_some, ↓evCode_seq, ↓evCode_region, ↓evCode_condC, ↓evCode_skip, ↓evCode_ret, ↓evCode_exit, ↓evCode_loop, ↓evCode_block_seq, ↓evCode_block_region, ↓evCode_block_cond, ↓evCode_block_block, ↓evCode_block_skip, ↓cond_true, ↓cond_false, enter, List.toList_toArray, ↓evRegion_f, ↓evRegion_t, Bool.false_and, cond_false, evOps, ↓stepOp_m, guardB, yieldedD, isWork, cond_true, workOk, workOp, Mx.force, opnd, Mx.look, Nat.reduceBEq, solid, Mx.fit, fitCs, fitC, List.isEmpty_cons, List.isEmpty_nil, Bool.false_or, Bool.or_false, Bool.true_or, Bool.or_true, Bool.and_true, Bool.true_and, Bool.and_false, Bool.not_true, Bool.not_false, Bool.not_not, Bool.or_not_self, Bool.not_or_self, Bool.and_self, Bool.or_self, toVs, cellsOf, toV, setReg_m, spend_m, hasOwn, ownFree, List.all_cons, List.all_nil, ownFreeC, Mx.put, ofConst, ofCell, after_some, Mx.prune, List.map_cons, List.map_nil, killB, killBs, andThen_normal, andThen_ret, andThen_exit, andThen_bif, after_bif, branchC_b, unblock_normal, unblock_ret, unblock_exit, unblock_bif, pureOp, gx_m, putDst, offReg_m, callFails, isFuncCall, Option.isNone_none, Option.isNone_some, Option.isSome_none, Option.isSome_some, fieldOff, loadAt, partD, List.length_cons, List.length_nil, List.map, List.drop_succ_cons, List.drop_zero, List.take_succ_cons, List.take_zero, List.take_nil, List.drop_nil, List.getElem?_cons_zero, List.getElem?_cons_succ, List.getElem?_nil, Nat.reduceAdd, Nat.reduceMul, Nat.zero_add, Nat.add_zero, binD, binV, eqCells, eqC, lenD, sliceOf, ite_true, if_true, eq_self, reduceIte, reduceCtorEq, finish_ret, finish_normal, finish_bif, giveBack, resAll, resOne, outD, outOk, stayC, cellOk, valOk, lowC, lowP, List.take_zero, List.length_nil, forceAll, bound, asNat, elemIs, isStrK, sameInt, sliceD, kill, spendLoc, spendOk, setOwn, dropAl, dropAls, inReg, inObj, isCell, gone, List.contains_cons, List.contains_nil, List.elem_cons, List.elem_nil, lend, lendA, tracked, trackedA, noSl, noSlC, noSlV, bare, bareC, List.any_cons, List.any_nil, frz, frzC, frzReg_m, isGive, argE, argsE, isOwn, noOwn, fill, setCells, setVs, takeParts, rowsOf, inOrder, ownAt, List.set_cons_zero, List.set_cons_succ, List.nil_append, List.cons_append, List.append_nil, Nat.reduceBNe, Nat.reduceSub, Nat.reduceLT, Nat.reduceLeDiff, decide_true, decide_false, List.length_append, List.append_assoc, List.concat_eq_append, List.getElem?_append_right, List.singleton_append, Int.cast_ofNat_Int, again_norm, againN_some, trunc_m, lowA, lowLoc, again_ret, again_exit, again_bif, beq_self_eq_true, findLoop, List.map_append, List.length_map, Bool.cond_true_left, Bool.cond_false_right, Bool.cond_false_left, Bool.cond_true_right, ge_iff_le, gt_iff_lt, evOpsK, ↓kindOp_m, kindW, plainWork, ownsDst, calmOp, calm, calmC, calmP, immB, noLoc, noLocC, readsAt, plainK, freeOk, pairOk, rwOk, List.getD_cons_zero, List.getD_cons_succ, Op.operands, Bool.not_eq_true, Option.map_some, Option.map_none, Int.reduceBEq, Int.reduceLT, Int.reduceLE, Int.reduceNeg, Bool.decide_eq_true, Int.reduceBNe, pickOk_n, pickOk_p, pickOk_tn, pickOk_tp, pickOk_f, pickOk_x, pickOk_h, pickOk_g, outTup, cond_nest_t, cond_nest_f, cond_same, ty3, ty4, ty9, ty25, ty34, hF, hT, hC, emp_l, empty_l, emptymk_l]
  all_goals (generalize emp key = a; generalize emp field = b; generalize emp text = c; generalize (n == 0) = d; cases a <;> cases b <;> cases c <;> cases d <;> rfl)
end Go.Proofs.Ytnjkmbogbfjffaa
