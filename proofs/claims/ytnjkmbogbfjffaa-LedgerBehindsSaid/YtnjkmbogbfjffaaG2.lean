/- Part of the proof by the machine Mx: G2. -/
import Derived.Test.YtnjkmbogbfjffaaMxFour
import Derived.Test.YtnjkmbogbfjffaaStr
import Derived.Test.YtnjkmbogbfjffaaG0
set_option linter.unusedSimpArgs false
set_option linter.unusedVariables false
set_option linter.constructorNameAsVariable false
set_option linter.unnecessarySimpa false
namespace Go.Proofs.Ytnjkmbogbfjffaa
open Go Go.Mx Go.Proofs
/-! ### rostrumref.CallFault -/
def n104 : Note where
  keep := fun i => match i with
    | 0 => [1]
    | 1 => [1, 5]
    | 2 => [14]
    | 3 => [2]
    | 4 => [2]
    | 5 => [1, 24]
    | 6 => [2]
    | 7 => [2]
    | _ => []
  ro := fun t => t == 1
  mv := fun _ => false
  give := fun _ => false
  free := fun _ => []
theorem n104k0 : n104.keep 0 = [1] := rfl
theorem n104k1 : n104.keep 1 = [1, 5] := rfl
theorem n104k2 : n104.keep 2 = [14] := rfl
theorem n104k3 : n104.keep 3 = [2] := rfl
theorem n104k4 : n104.keep 4 = [2] := rfl
theorem n104k5 : n104.keep 5 = [1, 24] := rfl
theorem n104k6 : n104.keep 6 = [2] := rfl
theorem n104k7 : n104.keep 7 = [2] := rfl
theorem n104ro (t : Nat) : n104.ro t = (t == 1) := rfl
theorem n104mv (t : Nat) : n104.mv t = (false) := rfl
theorem n104gv (t : Nat) : n104.give t = (false) := rfl
noncomputable def b104 : Code := bodyOf Try.f104
theorem r104 (C : Oracle) (L : Loops) (cl seq k n : Int) (key field text : ByteArray) (hN : ∀ a, C 91 [.v (.i .i64 a)] [] = some (.v (.b (numB a)), []))(hC : ∀ k n key field text, C 130 [.agg [.v (.i .i64 k), .v (.s key), .v (.s field), .v (.s text), .v (.i .i64 n)]] [] = some (.v (.i .i64 (cmdF k key field text n)), [])) :
    evFn TT C L n104 Try.f104.results.toList (bodyOf Try.f104) [.agg [.v (.i .i64 cl), .v (.i .i64 seq), .v (.i .i64 k), .v (.s key), .v (.s field), .v (.s text), .v (.i .i64 n)]] [] = some (.v (.i .i64 (callF cl seq k key field text n)), []) := by
  cases h1 : (cl == 0) <;> cases h2 : (seq == 0)
  all_goals simp (maxSteps := 4000000) only [Try.f104, n104k0, n104k1, n104k2, n104k3, n104k4, n104k5, n104k6, n104k7, n104ro, n104mv, n104gv, evFn_finish, bodyOf, Option.getD_some, ↓evCode_seq, ↓evCode_region, ↓evCode_condC, ↓evCode_skip, ↓evCode_ret, ↓evCode_exit, ↓evCode_loop, ↓evCode_block_seq, ↓evCode_block_region, ↓evCode_block_cond, ↓evCode_block_block, ↓evCode_block_skip, ↓cond_true, ↓cond_false, enter, List.toList_toArray, ↓evRegion_f, ↓evRegion_t, Bool.false_and, cond_false, evOps, ↓stepOp_m, guardB, yieldedD, isWork, cond_true, workOk, workOp, Mx.force, opnd, Mx.look, Nat.reduceBEq, solid, Mx.fit, fitCs, fitC, List.isEmpty_cons, List.isEmpty_nil, Bool.false_or, Bool.or_false, Bool.true_or, Bool.or_true, Bool.and_true, Bool.true_and, Bool.and_false, Bool.not_true, Bool.not_false, Bool.not_not, Bool.or_not_self, Bool.not_or_self, Bool.and_self, Bool.or_self, toVs, cellsOf, toV, setReg_m, spend_m, hasOwn, ownFree, List.all_cons, List.all_nil, ownFreeC, Mx.put, ofConst, ofCell, after_some, Mx.prune, List.map_cons, List.map_nil, killB, killBs, andThen_normal, andThen_ret, andThen_exit, andThen_bif, after_bif, branchC_b, unblock_normal, unblock_ret, unblock_exit, unblock_bif, pureOp, gx_m, putDst, offReg_m, callFails, isFuncCall, Option.isNone_none, Option.isNone_some, Option.isSome_none, Option.isSome_some, fieldOff, loadAt, partD, List.length_cons, List.length_nil, List.map, List.drop_succ_cons, List.drop_zero, List.take_succ_cons, List.take_zero, List.take_nil, List.drop_nil, List.getElem?_cons_zero, List.getElem?_cons_succ, List.getElem?_nil, Nat.reduceAdd, Nat.reduceMul, Nat.zero_add, Nat.add_zero, binD, binV, eqCells, eqC, lenD, sliceOf, ite_true, if_true, eq_self, reduceIte, reduceCtorEq, finish_ret, finish_normal, finish_bif, giveBack, resAll, resOne, outD, outOk, stayC, cellOk, valOk, lowC, lowP, List.take_zero, List.length_nil, forceAll, bound, asNat, elemIs, isStrK, sameInt, sliceD, kill, spendLoc, spendOk, setOwn, dropAl, dropAls, inReg, inObj, isCell, gone, List.contains_cons, List.contains_nil, List.elem_cons, List.elem_nil, lend, lendA, tracked, trackedA, noSl, noSlC, noSlV, bare, bareC, List.any_cons, List.any_nil, frz, frzC, frzReg_m, isGive, argE, argsE, isOwn, noOwn, fill, setCells, setVs, takeParts, rowsOf, inOrder, ownAt, List.set_cons_zero, List.set_cons_succ, List.nil_append, List.cons_append, List.append_nil, Nat.reduceBNe, Nat.reduceSub, Nat.reduceLT, Nat.reduceLeDiff, decide_true, decide_false, List.length_append, List.append_assoc, List.concat_eq_append, List.getElem?_append_right, List.singleton_append, Int.cast_ofNat_Int, again_norm, againN_some, trunc_m, lowA, lowLoc, again_ret, again_exit, again_bif, beq_self_eq_true, findLoop, List.map_append, List.length_map, Bool.cond_true_left, Bool.cond_false_right, Bool.cond_false_left, Bool.cond_true_right, ge_iff_le, gt_iff_lt, evOpsK, ↓kindOp_m, kindW, plainWork, ownsDst, calmOp, calm, calmC, calmP, immB, noLoc, noLocC, readsAt, plainK, freeOk, pairOk, rwOk, List.getD_cons_zero, List.getD_cons_succ, Op.operands, Bool.not_eq_true, Option.map_some, Option.map_none, Int.reduceBEq, Int.reduceLT, Int.reduceLE, Int.reduceNeg, Bool.decide_eq_true, Int.reduceBNe, pickOk_n, pickOk_p, pickOk_tn, pickOk_tp, pickOk_f, pickOk_x, pickOk_h, pickOk_g, outTup, cond_nest_t, cond_nest_f, cond_same, ty3, ty4, ty9, ty25, ty34, ty36, hN, hC, emp_l, empty_l, emptymk_l, h1, h2, bne, callF, cmd0, resI]
/-! ### client.CheckCall -/
def n102 : Note where
  keep := fun i => match i with
    | 0 => [1]
    | 1 => [1, 5]
    | 2 => [8]
    | 3 => [2]
    | 4 => [2]
    | 5 => [1, 18]
    | 6 => [2]
    | 7 => [2]
    | _ => []
  ro := fun t => t == 1
  mv := fun _ => false
  give := fun _ => false
  free := fun _ => []
theorem n102k0 : n102.keep 0 = [1] := rfl
theorem n102k1 : n102.keep 1 = [1, 5] := rfl
theorem n102k2 : n102.keep 2 = [8] := rfl
theorem n102k3 : n102.keep 3 = [2] := rfl
theorem n102k4 : n102.keep 4 = [2] := rfl
theorem n102k5 : n102.keep 5 = [1, 18] := rfl
theorem n102k6 : n102.keep 6 = [2] := rfl
theorem n102k7 : n102.keep 7 = [2] := rfl
theorem n102ro (t : Nat) : n102.ro t = (t == 1) := rfl
theorem n102mv (t : Nat) : n102.mv t = (false) := rfl
theorem n102gv (t : Nat) : n102.give t = (false) := rfl
noncomputable def b102 : Code := bodyOf Try.f102
theorem r102 (C : Oracle) (L : Loops) (cl seq k n : Int) (key field text : ByteArray) (hN : ∀ a, C 127 [.v (.i .i64 a)] [] = some (.v (.b (numB a)), []))(hC : ∀ k n key field text, C 128 [.agg [.v (.i .i64 k), .v (.s key), .v (.s field), .v (.s text), .v (.i .i64 n)]] [] = some (.v (.i .i64 (cmdF k key field text n)), [])) :
    evFn TT C L n102 Try.f102.results.toList (bodyOf Try.f102) [.agg [.v (.i .i64 cl), .v (.i .i64 seq), .v (.i .i64 k), .v (.s key), .v (.s field), .v (.s text), .v (.i .i64 n)]] [] = some (.v (.i .i64 (callF cl seq k key field text n)), []) := by
  cases h1 : (cl == 0) <;> cases h2 : (seq == 0)
  all_goals simp (maxSteps := 4000000) only [Try.f102, n102k0, n102k1, n102k2, n102k3, n102k4, n102k5, n102k6, n102k7, n102ro, n102mv, n102gv, evFn_finish, bodyOf, Option.getD_some, ↓evCode_seq, ↓evCode_region, ↓evCode_condC, ↓evCode_skip, ↓evCode_ret, ↓evCode_exit, ↓evCode_loop, ↓evCode_block_seq, ↓evCode_block_region, ↓evCode_block_cond, ↓evCode_block_block, ↓evCode_block_skip, ↓cond_true, ↓cond_false, enter, List.toList_toArray, ↓evRegion_f, ↓evRegion_t, Bool.false_and, cond_false, evOps, ↓stepOp_m, guardB, yieldedD, isWork, cond_true, workOk, workOp, Mx.force, opnd, Mx.look, Nat.reduceBEq, solid, Mx.fit, fitCs, fitC, List.isEmpty_cons, List.isEmpty_nil, Bool.false_or, Bool.or_false, Bool.true_or, Bool.or_true, Bool.and_true, Bool.true_and, Bool.and_false, Bool.not_true, Bool.not_false, Bool.not_not, Bool.or_not_self, Bool.not_or_self, Bool.and_self, Bool.or_self, toVs, cellsOf, toV, setReg_m, spend_m, hasOwn, ownFree, List.all_cons, List.all_nil, ownFreeC, Mx.put, ofConst, ofCell, after_some, Mx.prune, List.map_cons, List.map_nil, killB, killBs, andThen_normal, andThen_ret, andThen_exit, andThen_bif, after_bif, branchC_b, unblock_normal, unblock_ret, unblock_exit, unblock_bif, pureOp, gx_m, putDst, offReg_m, callFails, isFuncCall, Option.isNone_none, Option.isNone_some, Option.isSome_none, Option.isSome_some, fieldOff, loadAt, partD, List.length_cons, List.length_nil, List.map, List.drop_succ_cons, List.drop_zero, List.take_succ_cons, List.take_zero, List.take_nil, List.drop_nil, List.getElem?_cons_zero, List.getElem?_cons_succ, List.getElem?_nil, Nat.reduceAdd, Nat.reduceMul, Nat.zero_add, Nat.add_zero, binD, binV, eqCells, eqC, lenD, sliceOf, ite_true, if_true, eq_self, reduceIte, reduceCtorEq, finish_ret, finish_normal, finish_bif, giveBack, resAll, resOne, outD, outOk, stayC, cellOk, valOk, lowC, lowP, List.take_zero, List.length_nil, forceAll, bound, asNat, elemIs, isStrK, sameInt, sliceD, kill, spendLoc, spendOk, setOwn, dropAl, dropAls, inReg, inObj, isCell, gone, List.contains_cons, List.contains_nil, List.elem_cons, List.elem_nil, lend, lendA, tracked, trackedA, noSl, noSlC, noSlV, bare, bareC, List.any_cons, List.any_nil, frz, frzC, frzReg_m, isGive, argE, argsE, isOwn, noOwn, fill, setCells, setVs, takeParts, rowsOf, inOrder, ownAt, List.set_cons_zero, List.set_cons_succ, List.nil_append, List.cons_append, List.append_nil, Nat.reduceBNe, Nat.reduceSub, Nat.reduceLT, Nat.reduceLeDiff, decide_true, decide_false, List.length_append, List.append_assoc, List.concat_eq_append, List.getElem?_append_right, List.singleton_append, Int.cast_ofNat_Int, again_norm, againN_some, trunc_m, lowA, lowLoc, again_ret, again_exit, again_bif, beq_self_eq_true, findLoop, List.map_append, List.length_map, Bool.cond_true_left, Bool.cond_false_right, Bool.cond_false_left, Bool.cond_true_right, ge_iff_le, gt_iff_lt, evOpsK, ↓kindOp_m, kindW, plainWork, ownsDst, calmOp, calm, calmC, calmP, immB, noLoc, noLocC, readsAt, plainK, freeOk, pairOk, rwOk, List.getD_cons_zero, List.getD_cons_succ, Op.operands, Bool.not_eq_true, Option.map_some, Option.map_none, Int.reduceBEq, Int.reduceLT, Int.reduceLE, Int.reduceNeg, Bool.decide_eq_true, Int.reduceBNe, pickOk_n, pickOk_p, pickOk_tn, pickOk_tp, pickOk_f, pickOk_x, pickOk_h, pickOk_g, outTup, cond_nest_t, cond_nest_f, cond_same, ty3, ty4, ty9, ty25, ty34, ty36, hN, hC, emp_l, empty_l, emptymk_l, h1, h2, bne, callF, cmd0, resI]
  all_goals (generalize (k == 0) = a0; generalize emp key = a; generalize emp field = b; generalize emp text = c; generalize (n == 0) = d; cases a0 <;> cases a <;> cases b <;> cases c <;> cases d <;> rfl)
/-! ### rostrumref.ItemFault -/
def n58 : Note where
  keep := fun i => match i with
    | 0 => [1]
    | 1 => [1, 12]
    | 2 => [2]
    | 3 => [1, 15]
    | 4 => [2]
    | 5 => [22]
    | 6 => [2]
    | 7 => [2]
    | _ => []
  ro := fun t => t == 1
  mv := fun _ => false
  give := fun _ => false
  free := fun _ => []
theorem n58k0 : n58.keep 0 = [1] := rfl
theorem n58k1 : n58.keep 1 = [1, 12] := rfl
theorem n58k2 : n58.keep 2 = [2] := rfl
theorem n58k3 : n58.keep 3 = [1, 15] := rfl
theorem n58k4 : n58.keep 4 = [2] := rfl
theorem n58k5 : n58.keep 5 = [22] := rfl
theorem n58k6 : n58.keep 6 = [2] := rfl
theorem n58k7 : n58.keep 7 = [2] := rfl
theorem n58ro (t : Nat) : n58.ro t = (t == 1) := rfl
theorem n58mv (t : Nat) : n58.mv t = (false) := rfl
theorem n58gv (t : Nat) : n58.give t = (false) := rfl
noncomputable def b58 : Code := bodyOf Try.f58
theorem r58 (C : Oracle) (L : Loops) (term time : Int) (nop : Bool) (cl seq k n : Int) (key field text : ByteArray) (hN : ∀ a, C 91 [.v (.i .i64 a)] [] = some (.v (.b (numB a)), []))(hIn : ∀ a b c, C 55 [.v (.i .i64 a), .v (.i .i64 b), .v (.i .i64 c)] [] = some (.v (.b (inB a b c)), []))(hC : ∀ cl seq k n key field text, C 104 [.agg [.v (.i .i64 cl), .v (.i .i64 seq), .v (.i .i64 k), .v (.s key), .v (.s field), .v (.s text), .v (.i .i64 n)]] [] = some (.v (.i .i64 (callF cl seq k key field text n)), [])) :
    evFn TT C L n58 Try.f58.results.toList (bodyOf Try.f58) [.agg [.v (.i .i64 term), .v (.i .i64 time), .v (.b nop), .v (.i .i64 cl), .v (.i .i64 seq), .v (.i .i64 k), .v (.s key), .v (.s field), .v (.s text), .v (.i .i64 n)]] [] = some (.v (.i .i64 (itemF term time nop cl seq k key field text n)), []) := by
  cases nop
  all_goals simp (maxSteps := 4000000) only [Try.f58, n58k0, n58k1, n58k2, n58k3, n58k4, n58k5, n58k6, n58k7, n58ro, n58mv, n58gv, evFn_finish, bodyOf, Option.getD_some, ↓evCode_seq, ↓evCode_region, ↓evCode_condC, ↓evCode_skip, ↓evCode_ret, ↓evCode_exit, ↓evCode_loop, ↓evCode_block_seq, ↓evCode_block_region, ↓evCode_block_cond, ↓evCode_block_block, ↓evCode_block_skip, ↓cond_true, ↓cond_false, enter, List.toList_toArray, ↓evRegion_f, ↓evRegion_t, Bool.false_and, cond_false, evOps, ↓stepOp_m, guardB, yieldedD, isWork, cond_true, workOk, workOp, Mx.force, opnd, Mx.look, Nat.reduceBEq, solid, Mx.fit, fitCs, fitC, List.isEmpty_cons, List.isEmpty_nil, Bool.false_or, Bool.or_false, Bool.true_or, Bool.or_true, Bool.and_true, Bool.true_and, Bool.and_false, Bool.not_true, Bool.not_false, Bool.not_not, Bool.or_not_self, Bool.not_or_self, Bool.and_self, Bool.or_self, toVs, cellsOf, toV, setReg_m, spend_m, hasOwn, ownFree, List.all_cons, List.all_nil, ownFreeC, Mx.put, ofConst, ofCell, after_some, Mx.prune, List.map_cons, List.map_nil, killB, killBs, andThen_normal, andThen_ret, andThen_exit, andThen_bif, after_bif, branchC_b, unblock_normal, unblock_ret, unblock_exit, unblock_bif, pureOp, gx_m, putDst, offReg_m, callFails, isFuncCall, Option.isNone_none, Option.isNone_some, Option.isSome_none, Option.isSome_some, fieldOff, loadAt, partD, List.length_cons, List.length_nil, List.map, List.drop_succ_cons, List.drop_zero, List.take_succ_cons, List.take_zero, List.take_nil, List.drop_nil, List.getElem?_cons_zero, List.getElem?_cons_succ, List.getElem?_nil, Nat.reduceAdd, Nat.reduceMul, Nat.zero_add, Nat.add_zero, binD, binV, eqCells, eqC, lenD, sliceOf, ite_true, if_true, eq_self, reduceIte, reduceCtorEq, finish_ret, finish_normal, finish_bif, giveBack, resAll, resOne, outD, outOk, stayC, cellOk, valOk, lowC, lowP, List.take_zero, List.length_nil, forceAll, bound, asNat, elemIs, isStrK, sameInt, sliceD, kill, spendLoc, spendOk, setOwn, dropAl, dropAls, inReg, inObj, isCell, gone, List.contains_cons, List.contains_nil, List.elem_cons, List.elem_nil, lend, lendA, tracked, trackedA, noSl, noSlC, noSlV, bare, bareC, List.any_cons, List.any_nil, frz, frzC, frzReg_m, isGive, argE, argsE, isOwn, noOwn, fill, setCells, setVs, takeParts, rowsOf, inOrder, ownAt, List.set_cons_zero, List.set_cons_succ, List.nil_append, List.cons_append, List.append_nil, Nat.reduceBNe, Nat.reduceSub, Nat.reduceLT, Nat.reduceLeDiff, decide_true, decide_false, List.length_append, List.append_assoc, List.concat_eq_append, List.getElem?_append_right, List.singleton_append, Int.cast_ofNat_Int, again_norm, againN_some, trunc_m, lowA, lowLoc, again_ret, again_exit, again_bif, beq_self_eq_true, findLoop, List.map_append, List.length_map, Bool.cond_true_left, Bool.cond_false_right, Bool.cond_false_left, Bool.cond_true_right, ge_iff_le, gt_iff_lt, evOpsK, ↓kindOp_m, kindW, plainWork, ownsDst, calmOp, calm, calmC, calmP, immB, noLoc, noLocC, readsAt, plainK, freeOk, pairOk, rwOk, List.getD_cons_zero, List.getD_cons_succ, Op.operands, Bool.not_eq_true, Option.map_some, Option.map_none, Int.reduceBEq, Int.reduceLT, Int.reduceLE, Int.reduceNeg, Bool.decide_eq_true, Int.reduceBNe, pickOk_n, pickOk_p, pickOk_tn, pickOk_tp, pickOk_f, pickOk_x, pickOk_h, pickOk_g, outTup, cond_nest_t, cond_nest_f, cond_same, ty3, ty4, ty9, ty25, ty34, ty36, ty38, hN, hIn, hC, emp_l, empty_l, emptymk_l, bne, itemF, call0, cmd0, resI]
/-! ### wire.CheckItem -/
def n56 : Note where
  keep := fun i => match i with
    | 0 => [1]
    | 1 => [1, 20]
    | 2 => [2]
    | 3 => [1, 22]
    | 4 => [26]
    | 5 => [2]
    | 6 => [2]
    | 7 => [2]
    | _ => []
  ro := fun t => t == 1
  mv := fun _ => false
  give := fun _ => false
  free := fun _ => []
theorem n56k0 : n56.keep 0 = [1] := rfl
theorem n56k1 : n56.keep 1 = [1, 20] := rfl
theorem n56k2 : n56.keep 2 = [2] := rfl
theorem n56k3 : n56.keep 3 = [1, 22] := rfl
theorem n56k4 : n56.keep 4 = [26] := rfl
theorem n56k5 : n56.keep 5 = [2] := rfl
theorem n56k6 : n56.keep 6 = [2] := rfl
theorem n56k7 : n56.keep 7 = [2] := rfl
theorem n56ro (t : Nat) : n56.ro t = (t == 1) := rfl
theorem n56mv (t : Nat) : n56.mv t = (false) := rfl
theorem n56gv (t : Nat) : n56.give t = (false) := rfl
noncomputable def b56 : Code := bodyOf Try.f56
theorem r56 (C : Oracle) (L : Loops) (term time : Int) (nop : Bool) (cl seq k n : Int) (key field text : ByteArray) (hC : ∀ cl seq k n key field text, C 102 [.agg [.v (.i .i64 cl), .v (.i .i64 seq), .v (.i .i64 k), .v (.s key), .v (.s field), .v (.s text), .v (.i .i64 n)]] [] = some (.v (.i .i64 (callF cl seq k key field text n)), [])) :
    evFn TT C L n56 Try.f56.results.toList (bodyOf Try.f56) [.agg [.v (.i .i64 term), .v (.i .i64 time), .v (.b nop), .v (.i .i64 cl), .v (.i .i64 seq), .v (.i .i64 k), .v (.s key), .v (.s field), .v (.s text), .v (.i .i64 n)]] [] = some (.v (.i .i64 (itemF term time nop cl seq k key field text n)), []) := by
  cases nop
  all_goals simp (maxSteps := 4000000) only [Try.f56, n56k0, n56k1, n56k2, n56k3, n56k4, n56k5, n56k6, n56k7, n56ro, n56mv, n56gv, evFn_finish, bodyOf, Option.getD_some, ↓evCode_seq, ↓evCode_region, ↓evCode_condC, ↓evCode_skip, ↓evCode_ret, ↓evCode_exit, ↓evCode_loop, ↓evCode_block_seq, ↓evCode_block_region, ↓evCode_block_cond, ↓evCode_block_block, ↓evCode_block_skip, ↓cond_true, ↓cond_false, enter, List.toList_toArray, ↓evRegion_f, ↓evRegion_t, Bool.false_and, cond_false, evOps, ↓stepOp_m, guardB, yieldedD, isWork, cond_true, workOk, workOp, Mx.force, opnd, Mx.look, Nat.reduceBEq, solid, Mx.fit, fitCs, fitC, List.isEmpty_cons, List.isEmpty_nil, Bool.false_or, Bool.or_false, Bool.true_or, Bool.or_true, Bool.and_true, Bool.true_and, Bool.and_false, Bool.not_true, Bool.not_false, Bool.not_not, Bool.or_not_self, Bool.not_or_self, Bool.and_self, Bool.or_self, toVs, cellsOf, toV, setReg_m, spend_m, hasOwn, ownFree, List.all_cons, List.all_nil, ownFreeC, Mx.put, ofConst, ofCell, after_some, Mx.prune, List.map_cons, List.map_nil, killB, killBs, andThen_normal, andThen_ret, andThen_exit, andThen_bif, after_bif, branchC_b, unblock_normal, unblock_ret, unblock_exit, unblock_bif, pureOp, gx_m, putDst, offReg_m, callFails, isFuncCall, Option.isNone_none, Option.isNone_some, Option.isSome_none, Option.isSome_some, fieldOff, loadAt, partD, List.length_cons, List.length_nil, List.map, List.drop_succ_cons, List.drop_zero, List.take_succ_cons, List.take_zero, List.take_nil, List.drop_nil, List.getElem?_cons_zero, List.getElem?_cons_succ, List.getElem?_nil, Nat.reduceAdd, Nat.reduceMul, Nat.zero_add, Nat.add_zero, binD, binV, eqCells, eqC, lenD, sliceOf, ite_true, if_true, eq_self, reduceIte, reduceCtorEq, finish_ret, finish_normal, finish_bif, giveBack, resAll, resOne, outD, outOk, stayC, cellOk, valOk, lowC, lowP, List.take_zero, List.length_nil, forceAll, bound, asNat, elemIs, isStrK, sameInt, sliceD, kill, spendLoc, spendOk, setOwn, dropAl, dropAls, inReg, inObj, isCell, gone, List.contains_cons, List.contains_nil, List.elem_cons, List.elem_nil, lend, lendA, tracked, trackedA, noSl, noSlC, noSlV, bare, bareC, List.any_cons, List.any_nil, frz, frzC, frzReg_m, isGive, argE, argsE, isOwn, noOwn, fill, setCells, setVs, takeParts, rowsOf, inOrder, ownAt, List.set_cons_zero, List.set_cons_succ, List.nil_append, List.cons_append, List.append_nil, Nat.reduceBNe, Nat.reduceSub, Nat.reduceLT, Nat.reduceLeDiff, decide_true, decide_false, List.length_append, List.append_assoc, List.concat_eq_append, List.getElem?_append_right, List.singleton_append, Int.cast_ofNat_Int, again_norm, againN_some, trunc_m, lowA, lowLoc, again_ret, again_exit, again_bif, beq_self_eq_true, findLoop, List.map_append, List.length_map, Bool.cond_true_left, Bool.cond_false_right, Bool.cond_false_left, Bool.cond_true_right, ge_iff_le, gt_iff_lt, evOpsK, ↓kindOp_m, kindW, plainWork, ownsDst, calmOp, calm, calmC, calmP, immB, noLoc, noLocC, readsAt, plainK, freeOk, pairOk, rwOk, List.getD_cons_zero, List.getD_cons_succ, Op.operands, Bool.not_eq_true, Option.map_some, Option.map_none, Int.reduceBEq, Int.reduceLT, Int.reduceLE, Int.reduceNeg, Bool.decide_eq_true, Int.reduceBNe, pickOk_n, pickOk_p, pickOk_tn, pickOk_tp, pickOk_f, pickOk_x, pickOk_h, pickOk_g, outTup, cond_nest_t, cond_nest_f, cond_same, ty3, ty4, ty9, ty25, ty34, ty36, ty38, hC, emp_l, empty_l, emptymk_l, bne, itemF, call0, cmd0, resI]
  all_goals simp only [out_in, out_in', numB, inB]
end Go.Proofs.Ytnjkmbogbfjffaa
