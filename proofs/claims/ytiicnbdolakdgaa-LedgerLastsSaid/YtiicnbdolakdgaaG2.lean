/- Part of the proof by the machine Mx: G2. -/
import Derived.Test.YtiicnbdolakdgaaMxFour
import Derived.Test.YtiicnbdolakdgaaStr
import Derived.Test.YtiicnbdolakdgaaG0
set_option linter.unusedSimpArgs false
set_option linter.unusedVariables false
set_option linter.constructorNameAsVariable false
set_option linter.unnecessarySimpa false
namespace Go.Proofs.Ytiicnbdolakdgaa
open Go Go.Mx Go.Proofs
/-! ### rostrumlaw.ValueCommands -/
def n9 : Note where
  keep := fun i => match i with
    | 0 => [1]
    | 1 => [1, 3]
    | 2 => [3, 4]
    | 3 => [2]
    | _ => []
  ro := fun t => t == 1
  mv := fun _ => false
  give := fun _ => false
  free := fun _ => []
theorem n9k0 : n9.keep 0 = [1] := rfl
theorem n9k1 : n9.keep 1 = [1, 3] := rfl
theorem n9k2 : n9.keep 2 = [3, 4] := rfl
theorem n9k3 : n9.keep 3 = [2] := rfl
theorem n9ro (t : Nat) : n9.ro t = (t == 1) := rfl
theorem n9mv (t : Nat) : n9.mv t = (false) := rfl
theorem n9gv (t : Nat) : n9.give t = (false) := rfl
noncomputable def b9 : Code := bodyOf Try.f9
theorem r9 (C : Oracle) (L : Loops) (k n : Int) (key field text : ByteArray) (h1 : ∀ k n key field text, C 30 [.agg [.v (.i .i64 k), .v (.s key), .v (.s field), .v (.s text), .v (.i .i64 n)]] [] = some (.v (.i .i64 (cmdF k key field text n)), []))(h2 : ∀ k n key field text, C 31 [.agg [.v (.i .i64 k), .v (.s key), .v (.s field), .v (.s text), .v (.i .i64 n)]] [] = some (.v (.i .i64 (cmdF k key field text n)), [])) :
    evFn TT C L n9 Try.f9.results.toList (bodyOf Try.f9) [.agg [.v (.i .i64 k), .v (.s key), .v (.s field), .v (.s text), .v (.i .i64 n)]] [] = some (.v (.b true), []) := by
  simp (maxSteps := 4000000) only [Try.f9, n9k0, n9k1, n9k2, n9k3, n9ro, n9mv, n9gv, evFn_finish, bodyOf, Option.getD_some, ↓evCode_seq, ↓evCode_region, ↓evCode_condC, ↓evCode_skip, ↓evCode_ret, ↓evCode_exit, ↓evCode_loop, ↓evCode_block_seq, ↓evCode_block_region, ↓evCode_block_cond, ↓evCode_block_block, ↓evCode_block_skip, ↓cond_true, ↓cond_false, enter, List.toList_toArray, ↓evRegion_f, ↓evRegion_t, Bool.false_and, cond_false, evOps, ↓stepOp_m, guardB, yieldedD, isWork, cond_true, workOk, workOp, Mx.force, opnd, Mx.look, Nat.reduceBEq, solid, Mx.fit, fitCs, fitC, List.isEmpty_cons, List.isEmpty_nil, Bool.false_or, Bool.or_false, Bool.true_or, Bool.or_true, Bool.and_true, Bool.true_and, Bool.and_false, Bool.not_true, Bool.not_false, Bool.not_not, Bool.or_not_self, Bool.not_or_self, Bool.and_self, Bool.or_self, toVs, cellsOf, toV, setReg_m, spend_m, hasOwn, ownFree, List.all_cons, List.all_nil, ownFreeC, Mx.put, ofConst, ofCell, after_some, Mx.prune, List.map_cons, List.map_nil, killB, killBs, andThen_normal, andThen_ret, andThen_exit, andThen_bif, after_bif, branchC_b, unblock_normal, unblock_ret, unblock_exit, unblock_bif, pureOp, gx_m, putDst, offReg_m, callFails, isFuncCall, Option.isNone_none, Option.isNone_some, Option.isSome_none, Option.isSome_some, fieldOff, loadAt, partD, List.length_cons, List.length_nil, List.map, List.drop_succ_cons, List.drop_zero, List.take_succ_cons, List.take_zero, List.take_nil, List.drop_nil, List.getElem?_cons_zero, List.getElem?_cons_succ, List.getElem?_nil, Nat.reduceAdd, Nat.reduceMul, Nat.zero_add, Nat.add_zero, binD, binV, eqCells, eqC, lenD, sliceOf, ite_true, if_true, eq_self, reduceIte, reduceCtorEq, finish_ret, finish_normal, finish_bif, giveBack, resAll, resOne, outD, outOk, stayC, cellOk, valOk, lowC, lowP, List.take_zero, List.length_nil, forceAll, bound, asNat, elemIs, isStrK, sameInt, sliceD, kill, spendLoc, spendOk, setOwn, dropAl, dropAls, inReg, inObj, isCell, gone, List.contains_cons, List.contains_nil, List.elem_cons, List.elem_nil, lend, lendA, tracked, trackedA, noSl, noSlC, noSlV, bare, bareC, List.any_cons, List.any_nil, frz, frzC, frzReg_m, isGive, argE, argsE, isOwn, noOwn, fill, setCells, setVs, takeParts, rowsOf, inOrder, ownAt, List.set_cons_zero, List.set_cons_succ, List.nil_append, List.cons_append, List.append_nil, Nat.reduceBNe, Nat.reduceSub, Nat.reduceLT, Nat.reduceLeDiff, decide_true, decide_false, List.length_append, List.append_assoc, List.concat_eq_append, List.getElem?_append_right, List.singleton_append, Int.cast_ofNat_Int, again_normal, again_ret, again_exit, again_bif, beq_self_eq_true, findLoop, List.map_append, List.length_map, Bool.cond_true_left, Bool.cond_false_right, Bool.cond_false_left, Bool.cond_true_right, ge_iff_le, gt_iff_lt, evOpsK, ↓kindOp_m, kindW, plainWork, ownsDst, calmOp, calm, calmC, calmP, immB, noLoc, noLocC, readsAt, plainK, freeOk, pairOk, rwOk, List.getD_cons_zero, List.getD_cons_succ, Op.operands, Bool.not_eq_true, Option.map_some, Option.map_none, Int.reduceBEq, Int.reduceLT, Int.reduceLE, Int.reduceNeg, Bool.decide_eq_true, Int.reduceBNe, pickOk_n, pickOk_p, pickOk_tn, pickOk_tp, pickOk_f, pickOk_x, pickOk_h, pickOk_g, ty3, ty4, ty9, ty22, ty60, h1, h2]
/-! ### rostrumref.CallFault -/
def n33 : Note where
  keep := fun i => match i with
    | 0 => [1]
    | 1 => [1, 5]
    | 2 => [14]
    | 3 => [2]
    | 4 => [2]
    | 5 => [1, 24]
    | 6 => [2]
    | 7 => [2]
    | _ => []
  ro := fun t => t == 1
  mv := fun _ => false
  give := fun _ => false
  free := fun _ => []
theorem n33k0 : n33.keep 0 = [1] := rfl
theorem n33k1 : n33.keep 1 = [1, 5] := rfl
theorem n33k2 : n33.keep 2 = [14] := rfl
theorem n33k3 : n33.keep 3 = [2] := rfl
theorem n33k4 : n33.keep 4 = [2] := rfl
theorem n33k5 : n33.keep 5 = [1, 24] := rfl
theorem n33k6 : n33.keep 6 = [2] := rfl
theorem n33k7 : n33.keep 7 = [2] := rfl
theorem n33ro (t : Nat) : n33.ro t = (t == 1) := rfl
theorem n33mv (t : Nat) : n33.mv t = (false) := rfl
theorem n33gv (t : Nat) : n33.give t = (false) := rfl
noncomputable def b33 : Code := bodyOf Try.f33
theorem r33 (C : Oracle) (L : Loops) (cl seq k n : Int) (key field text : ByteArray) (hN : ∀ a, C 61 [.v (.i .i64 a)] [] = some (.v (.b (numB a)), []))(hC : ∀ k n key field text, C 31 [.agg [.v (.i .i64 k), .v (.s key), .v (.s field), .v (.s text), .v (.i .i64 n)]] [] = some (.v (.i .i64 (cmdF k key field text n)), [])) :
    evFn TT C L n33 Try.f33.results.toList (bodyOf Try.f33) [.agg [.v (.i .i64 cl), .v (.i .i64 seq), .v (.i .i64 k), .v (.s key), .v (.s field), .v (.s text), .v (.i .i64 n)]] [] = some (.v (.i .i64 (callF cl seq k key field text n)), []) := by
  cases h1 : (cl == 0) <;> cases h2 : (seq == 0)
  all_goals simp (maxSteps := 4000000) only [Try.f33, n33k0, n33k1, n33k2, n33k3, n33k4, n33k5, n33k6, n33k7, n33ro, n33mv, n33gv, evFn_finish, bodyOf, Option.getD_some, ↓evCode_seq, ↓evCode_region, ↓evCode_condC, ↓evCode_skip, ↓evCode_ret, ↓evCode_exit, ↓evCode_loop, ↓evCode_block_seq, ↓evCode_block_region, ↓evCode_block_cond, ↓evCode_block_block, ↓evCode_block_skip, ↓cond_true, ↓cond_false, enter, List.toList_toArray, ↓evRegion_f, ↓evRegion_t, Bool.false_and, cond_false, evOps, ↓stepOp_m, guardB, yieldedD, isWork, cond_true, workOk, workOp, Mx.force, opnd, Mx.look, Nat.reduceBEq, solid, Mx.fit, fitCs, fitC, List.isEmpty_cons, List.isEmpty_nil, Bool.false_or, Bool.or_false, Bool.true_or, Bool.or_true, Bool.and_true, Bool.true_and, Bool.and_false, Bool.not_true, Bool.not_false, Bool.not_not, Bool.or_not_self, Bool.not_or_self, Bool.and_self, Bool.or_self, toVs, cellsOf, toV, setReg_m, spend_m, hasOwn, ownFree, List.all_cons, List.all_nil, ownFreeC, Mx.put, ofConst, ofCell, after_some, Mx.prune, List.map_cons, List.map_nil, killB, killBs, andThen_normal, andThen_ret, andThen_exit, andThen_bif, after_bif, branchC_b, unblock_normal, unblock_ret, unblock_exit, unblock_bif, pureOp, gx_m, putDst, offReg_m, callFails, isFuncCall, Option.isNone_none, Option.isNone_some, Option.isSome_none, Option.isSome_some, fieldOff, loadAt, partD, List.length_cons, List.length_nil, List.map, List.drop_succ_cons, List.drop_zero, List.take_succ_cons, List.take_zero, List.take_nil, List.drop_nil, List.getElem?_cons_zero, List.getElem?_cons_succ, List.getElem?_nil, Nat.reduceAdd, Nat.reduceMul, Nat.zero_add, Nat.add_zero, binD, binV, eqCells, eqC, lenD, sliceOf, ite_true, if_true, eq_self, reduceIte, reduceCtorEq, finish_ret, finish_normal, finish_bif, giveBack, resAll, resOne, outD, outOk, stayC, cellOk, valOk, lowC, lowP, List.take_zero, List.length_nil, forceAll, bound, asNat, elemIs, isStrK, sameInt, sliceD, kill, spendLoc, spendOk, setOwn, dropAl, dropAls, inReg, inObj, isCell, gone, List.contains_cons, List.contains_nil, List.elem_cons, List.elem_nil, lend, lendA, tracked, trackedA, noSl, noSlC, noSlV, bare, bareC, List.any_cons, List.any_nil, frz, frzC, frzReg_m, isGive, argE, argsE, isOwn, noOwn, fill, setCells, setVs, takeParts, rowsOf, inOrder, ownAt, List.set_cons_zero, List.set_cons_succ, List.nil_append, List.cons_append, List.append_nil, Nat.reduceBNe, Nat.reduceSub, Nat.reduceLT, Nat.reduceLeDiff, decide_true, decide_false, List.length_append, List.append_assoc, List.concat_eq_append, List.getElem?_append_right, List.singleton_append, Int.cast_ofNat_Int, again_normal, again_ret, again_exit, again_bif, beq_self_eq_true, findLoop, List.map_append, List.length_map, Bool.cond_true_left, Bool.cond_false_right, Bool.cond_false_left, Bool.cond_true_right, ge_iff_le, gt_iff_lt, evOpsK, ↓kindOp_m, kindW, plainWork, ownsDst, calmOp, calm, calmC, calmP, immB, noLoc, noLocC, readsAt, plainK, freeOk, pairOk, rwOk, List.getD_cons_zero, List.getD_cons_succ, Op.operands, Bool.not_eq_true, Option.map_some, Option.map_none, Int.reduceBEq, Int.reduceLT, Int.reduceLE, Int.reduceNeg, Bool.decide_eq_true, Int.reduceBNe, pickOk_n, pickOk_p, pickOk_tn, pickOk_tp, pickOk_f, pickOk_x, pickOk_h, pickOk_g, ty3, ty4, ty9, ty22, ty60, ty64, hN, hC, emp_l, empty_l, emptymk_l, h1, h2, bne, callF, cmd0, resI]
/-! ### client.CheckCall -/
def n32 : Note where
  keep := fun i => match i with
    | 0 => [1]
    | 1 => [1, 5]
    | 2 => [8]
    | 3 => [2]
    | 4 => [2]
    | 5 => [1, 18]
    | 6 => [2]
    | 7 => [2]
    | _ => []
  ro := fun t => t == 1
  mv := fun _ => false
  give := fun _ => false
  free := fun _ => []
theorem n32k0 : n32.keep 0 = [1] := rfl
theorem n32k1 : n32.keep 1 = [1, 5] := rfl
theorem n32k2 : n32.keep 2 = [8] := rfl
theorem n32k3 : n32.keep 3 = [2] := rfl
theorem n32k4 : n32.keep 4 = [2] := rfl
theorem n32k5 : n32.keep 5 = [1, 18] := rfl
theorem n32k6 : n32.keep 6 = [2] := rfl
theorem n32k7 : n32.keep 7 = [2] := rfl
theorem n32ro (t : Nat) : n32.ro t = (t == 1) := rfl
theorem n32mv (t : Nat) : n32.mv t = (false) := rfl
theorem n32gv (t : Nat) : n32.give t = (false) := rfl
noncomputable def b32 : Code := bodyOf Try.f32
theorem r32 (C : Oracle) (L : Loops) (cl seq k n : Int) (key field text : ByteArray) (hN : ∀ a, C 60 [.v (.i .i64 a)] [] = some (.v (.b (numB a)), []))(hC : ∀ k n key field text, C 30 [.agg [.v (.i .i64 k), .v (.s key), .v (.s field), .v (.s text), .v (.i .i64 n)]] [] = some (.v (.i .i64 (cmdF k key field text n)), [])) :
    evFn TT C L n32 Try.f32.results.toList (bodyOf Try.f32) [.agg [.v (.i .i64 cl), .v (.i .i64 seq), .v (.i .i64 k), .v (.s key), .v (.s field), .v (.s text), .v (.i .i64 n)]] [] = some (.v (.i .i64 (callF cl seq k key field text n)), []) := by
  cases h1 : (cl == 0) <;> cases h2 : (seq == 0)
  all_goals simp (maxSteps := 4000000) only [Try.f32, n32k0, n32k1, n32k2, n32k3, n32k4, n32k5, n32k6, n32k7, n32ro, n32mv, n32gv, evFn_finish, bodyOf, Option.getD_some, ↓evCode_seq, ↓evCode_region, ↓evCode_condC, ↓evCode_skip, ↓evCode_ret, ↓evCode_exit, ↓evCode_loop, ↓evCode_block_seq, ↓evCode_block_region, ↓evCode_block_cond, ↓evCode_block_block, ↓evCode_block_skip, ↓cond_true, ↓cond_false, enter, List.toList_toArray, ↓evRegion_f, ↓evRegion_t, Bool.false_and, cond_false, evOps, ↓stepOp_m, guardB, yieldedD, isWork, cond_true, workOk, workOp, Mx.force, opnd, Mx.look, Nat.reduceBEq, solid, Mx.fit, fitCs, fitC, List.isEmpty_cons, List.isEmpty_nil, Bool.false_or, Bool.or_false, Bool.true_or, Bool.or_true, Bool.and_true, Bool.true_and, Bool.and_false, Bool.not_true, Bool.not_false, Bool.not_not, Bool.or_not_self, Bool.not_or_self, Bool.and_self, Bool.or_self, toVs, cellsOf, toV, setReg_m, spend_m, hasOwn, ownFree, List.all_cons, List.all_nil, ownFreeC, Mx.put, ofConst, ofCell, after_some, Mx.prune, List.map_cons, List.map_nil, killB, killBs, andThen_normal, andThen_ret, andThen_exit, andThen_bif, after_bif, branchC_b, unblock_normal, unblock_ret, unblock_exit, unblock_bif, pureOp, gx_m, putDst, offReg_m, callFails, isFuncCall, Option.isNone_none, Option.isNone_some, Option.isSome_none, Option.isSome_some, fieldOff, loadAt, partD, List.length_cons, List.length_nil, List.map, List.drop_succ_cons, List.drop_zero, List.take_succ_cons, List.take_zero, List.take_nil, List.drop_nil, List.getElem?_cons_zero, List.getElem?_cons_succ, List.getElem?_nil, Nat.reduceAdd, Nat.reduceMul, Nat.zero_add, Nat.add_zero, binD, binV, eqCells, eqC, lenD, sliceOf, ite_true, if_true, eq_self, reduceIte, reduceCtorEq, finish_ret, finish_normal, finish_bif, giveBack, resAll, resOne, outD, outOk, stayC, cellOk, valOk, lowC, lowP, List.take_zero, List.length_nil, forceAll, bound, asNat, elemIs, isStrK, sameInt, sliceD, kill, spendLoc, spendOk, setOwn, dropAl, dropAls, inReg, inObj, isCell, gone, List.contains_cons, List.contains_nil, List.elem_cons, List.elem_nil, lend, lendA, tracked, trackedA, noSl, noSlC, noSlV, bare, bareC, List.any_cons, List.any_nil, frz, frzC, frzReg_m, isGive, argE, argsE, isOwn, noOwn, fill, setCells, setVs, takeParts, rowsOf, inOrder, ownAt, List.set_cons_zero, List.set_cons_succ, List.nil_append, List.cons_append, List.append_nil, Nat.reduceBNe, Nat.reduceSub, Nat.reduceLT, Nat.reduceLeDiff, decide_true, decide_false, List.length_append, List.append_assoc, List.concat_eq_append, List.getElem?_append_right, List.singleton_append, Int.cast_ofNat_Int, again_normal, again_ret, again_exit, again_bif, beq_self_eq_true, findLoop, List.map_append, List.length_map, Bool.cond_true_left, Bool.cond_false_right, Bool.cond_false_left, Bool.cond_true_right, ge_iff_le, gt_iff_lt, evOpsK, ↓kindOp_m, kindW, plainWork, ownsDst, calmOp, calm, calmC, calmP, immB, noLoc, noLocC, readsAt, plainK, freeOk, pairOk, rwOk, List.getD_cons_zero, List.getD_cons_succ, Op.operands, Bool.not_eq_true, Option.map_some, Option.map_none, Int.reduceBEq, Int.reduceLT, Int.reduceLE, Int.reduceNeg, Bool.decide_eq_true, Int.reduceBNe, pickOk_n, pickOk_p, pickOk_tn, pickOk_tp, pickOk_f, pickOk_x, pickOk_h, pickOk_g, ty3, ty4, ty9, ty22, ty60, ty64, hN, hC, emp_l, empty_l, emptymk_l, h1, h2, bne, callF, cmd0, resI]
  all_goals (generalize (k == 0) = a0; generalize emp key = a; generalize emp field = b; generalize emp text = c; generalize (n == 0) = d; cases a0 <;> cases a <;> cases b <;> cases c <;> cases d <;> rfl)
/-! ### rostrumlaw.ClientCalls -/
def n10 : Note where
  keep := fun i => match i with
    | 0 => [1]
    | 1 => [1, 3]
    | 2 => [3, 4]
    | 3 => [2]
    | _ => []
  ro := fun t => t == 1
  mv := fun _ => false
  give := fun _ => false
  free := fun _ => []
theorem n10k0 : n10.keep 0 = [1] := rfl
theorem n10k1 : n10.keep 1 = [1, 3] := rfl
theorem n10k2 : n10.keep 2 = [3, 4] := rfl
theorem n10k3 : n10.keep 3 = [2] := rfl
theorem n10ro (t : Nat) : n10.ro t = (t == 1) := rfl
theorem n10mv (t : Nat) : n10.mv t = (false) := rfl
theorem n10gv (t : Nat) : n10.give t = (false) := rfl
noncomputable def b10 : Code := bodyOf Try.f10
theorem r10 (C : Oracle) (L : Loops) (cl seq k n : Int) (key field text : ByteArray) (h1 : ∀ cl seq k n key field text, C 32 [.agg [.v (.i .i64 cl), .v (.i .i64 seq), .v (.i .i64 k), .v (.s key), .v (.s field), .v (.s text), .v (.i .i64 n)]] [] = some (.v (.i .i64 (callF cl seq k key field text n)), []))(h2 : ∀ cl seq k n key field text, C 33 [.agg [.v (.i .i64 cl), .v (.i .i64 seq), .v (.i .i64 k), .v (.s key), .v (.s field), .v (.s text), .v (.i .i64 n)]] [] = some (.v (.i .i64 (callF cl seq k key field text n)), [])) :
    evFn TT C L n10 Try.f10.results.toList (bodyOf Try.f10) [.agg [.v (.i .i64 cl), .v (.i .i64 seq), .v (.i .i64 k), .v (.s key), .v (.s field), .v (.s text), .v (.i .i64 n)]] [] = some (.v (.b true), []) := by
  simp (maxSteps := 4000000) only [Try.f10, n10k0, n10k1, n10k2, n10k3, n10ro, n10mv, n10gv, evFn_finish, bodyOf, Option.getD_some, ↓evCode_seq, ↓evCode_region, ↓evCode_condC, ↓evCode_skip, ↓evCode_ret, ↓evCode_exit, ↓evCode_loop, ↓evCode_block_seq, ↓evCode_block_region, ↓evCode_block_cond, ↓evCode_block_block, ↓evCode_block_skip, ↓cond_true, ↓cond_false, enter, List.toList_toArray, ↓evRegion_f, ↓evRegion_t, Bool.false_and, cond_false, evOps, ↓stepOp_m, guardB, yieldedD, isWork, cond_true, workOk, workOp, Mx.force, opnd, Mx.look, Nat.reduceBEq, solid, Mx.fit, fitCs, fitC, List.isEmpty_cons, List.isEmpty_nil, Bool.false_or, Bool.or_false, Bool.true_or, Bool.or_true, Bool.and_true, Bool.true_and, Bool.and_false, Bool.not_true, Bool.not_false, Bool.not_not, Bool.or_not_self, Bool.not_or_self, Bool.and_self, Bool.or_self, toVs, cellsOf, toV, setReg_m, spend_m, hasOwn, ownFree, List.all_cons, List.all_nil, ownFreeC, Mx.put, ofConst, ofCell, after_some, Mx.prune, List.map_cons, List.map_nil, killB, killBs, andThen_normal, andThen_ret, andThen_exit, andThen_bif, after_bif, branchC_b, unblock_normal, unblock_ret, unblock_exit, unblock_bif, pureOp, gx_m, putDst, offReg_m, callFails, isFuncCall, Option.isNone_none, Option.isNone_some, Option.isSome_none, Option.isSome_some, fieldOff, loadAt, partD, List.length_cons, List.length_nil, List.map, List.drop_succ_cons, List.drop_zero, List.take_succ_cons, List.take_zero, List.take_nil, List.drop_nil, List.getElem?_cons_zero, List.getElem?_cons_succ, List.getElem?_nil, Nat.reduceAdd, Nat.reduceMul, Nat.zero_add, Nat.add_zero, binD, binV, eqCells, eqC, lenD, sliceOf, ite_true, if_true, eq_self, reduceIte, reduceCtorEq, finish_ret, finish_normal, finish_bif, giveBack, resAll, resOne, outD, outOk, stayC, cellOk, valOk, lowC, lowP, List.take_zero, List.length_nil, forceAll, bound, asNat, elemIs, isStrK, sameInt, sliceD, kill, spendLoc, spendOk, setOwn, dropAl, dropAls, inReg, inObj, isCell, gone, List.contains_cons, List.contains_nil, List.elem_cons, List.elem_nil, lend, lendA, tracked, trackedA, noSl, noSlC, noSlV, bare, bareC, List.any_cons, List.any_nil, frz, frzC, frzReg_m, isGive, argE, argsE, isOwn, noOwn, fill, setCells, setVs, takeParts, rowsOf, inOrder, ownAt, List.set_cons_zero, List.set_cons_succ, List.nil_append, List.cons_append, List.append_nil, Nat.reduceBNe, Nat.reduceSub, Nat.reduceLT, Nat.reduceLeDiff, decide_true, decide_false, List.length_append, List.append_assoc, List.concat_eq_append, List.getElem?_append_right, List.singleton_append, Int.cast_ofNat_Int, again_normal, again_ret, again_exit, again_bif, beq_self_eq_true, findLoop, List.map_append, List.length_map, Bool.cond_true_left, Bool.cond_false_right, Bool.cond_false_left, Bool.cond_true_right, ge_iff_le, gt_iff_lt, evOpsK, ↓kindOp_m, kindW, plainWork, ownsDst, calmOp, calm, calmC, calmP, immB, noLoc, noLocC, readsAt, plainK, freeOk, pairOk, rwOk, List.getD_cons_zero, List.getD_cons_succ, Op.operands, Bool.not_eq_true, Option.map_some, Option.map_none, Int.reduceBEq, Int.reduceLT, Int.reduceLE, Int.reduceNeg, Bool.decide_eq_true, Int.reduceBNe, pickOk_n, pickOk_p, pickOk_tn, pickOk_tp, pickOk_f, pickOk_x, pickOk_h, pickOk_g, ty3, ty4, ty9, ty22, ty60, ty64, h1, h2]
/-! ### rostrumref.ItemFault -/
def n35 : Note where
  keep := fun i => match i with
    | 0 => [1]
    | 1 => [1, 12]
    | 2 => [2]
    | 3 => [1, 15]
    | 4 => [2]
    | 5 => [22]
    | 6 => [2]
    | 7 => [2]
    | _ => []
  ro := fun t => t == 1
  mv := fun _ => false
  give := fun _ => false
  free := fun _ => []
theorem n35k0 : n35.keep 0 = [1] := rfl
theorem n35k1 : n35.keep 1 = [1, 12] := rfl
theorem n35k2 : n35.keep 2 = [2] := rfl
theorem n35k3 : n35.keep 3 = [1, 15] := rfl
theorem n35k4 : n35.keep 4 = [2] := rfl
theorem n35k5 : n35.keep 5 = [22] := rfl
theorem n35k6 : n35.keep 6 = [2] := rfl
theorem n35k7 : n35.keep 7 = [2] := rfl
theorem n35ro (t : Nat) : n35.ro t = (t == 1) := rfl
theorem n35mv (t : Nat) : n35.mv t = (false) := rfl
theorem n35gv (t : Nat) : n35.give t = (false) := rfl
noncomputable def b35 : Code := bodyOf Try.f35
theorem r35 (C : Oracle) (L : Loops) (term time : Int) (nop : Bool) (cl seq k n : Int) (key field text : ByteArray) (hN : ∀ a, C 61 [.v (.i .i64 a)] [] = some (.v (.b (numB a)), []))(hIn : ∀ a b c, C 53 [.v (.i .i64 a), .v (.i .i64 b), .v (.i .i64 c)] [] = some (.v (.b (inB a b c)), []))(hC : ∀ cl seq k n key field text, C 33 [.agg [.v (.i .i64 cl), .v (.i .i64 seq), .v (.i .i64 k), .v (.s key), .v (.s field), .v (.s text), .v (.i .i64 n)]] [] = some (.v (.i .i64 (callF cl seq k key field text n)), [])) :
    evFn TT C L n35 Try.f35.results.toList (bodyOf Try.f35) [.agg [.v (.i .i64 term), .v (.i .i64 time), .v (.b nop), .v (.i .i64 cl), .v (.i .i64 seq), .v (.i .i64 k), .v (.s key), .v (.s field), .v (.s text), .v (.i .i64 n)]] [] = some (.v (.i .i64 (itemF term time nop cl seq k key field text n)), []) := by
  cases nop
  all_goals simp (maxSteps := 4000000) only [Try.f35, n35k0, n35k1, n35k2, n35k3, n35k4, n35k5, n35k6, n35k7, n35ro, n35mv, n35gv, evFn_finish, bodyOf, Option.getD_some, ↓evCode_seq, ↓evCode_region, ↓evCode_condC, ↓evCode_skip, ↓evCode_ret, ↓evCode_exit, ↓evCode_loop, ↓evCode_block_seq, ↓evCode_block_region, ↓evCode_block_cond, ↓evCode_block_block, ↓evCode_block_skip, ↓cond_true, ↓cond_false, enter, List.toList_toArray, ↓evRegion_f, ↓evRegion_t, Bool.false_and, cond_false, evOps, ↓stepOp_m, guardB, yieldedD, isWork, cond_true, workOk, workOp, Mx.force, opnd, Mx.look, Nat.reduceBEq, solid, Mx.fit, fitCs, fitC, List.isEmpty_cons, List.isEmpty_nil, Bool.false_or, Bool.or_false, Bool.true_or, Bool.or_true, Bool.and_true, Bool.true_and, Bool.and_false, Bool.not_true, Bool.not_false, Bool.not_not, Bool.or_not_self, Bool.not_or_self, Bool.and_self, Bool.or_self, toVs, cellsOf, toV, setReg_m, spend_m, hasOwn, ownFree, List.all_cons, List.all_nil, ownFreeC, Mx.put, ofConst, ofCell, after_some, Mx.prune, List.map_cons, List.map_nil, killB, killBs, andThen_normal, andThen_ret, andThen_exit, andThen_bif, after_bif, branchC_b, unblock_normal, unblock_ret, unblock_exit, unblock_bif, pureOp, gx_m, putDst, offReg_m, callFails, isFuncCall, Option.isNone_none, Option.isNone_some, Option.isSome_none, Option.isSome_some, fieldOff, loadAt, partD, List.length_cons, List.length_nil, List.map, List.drop_succ_cons, List.drop_zero, List.take_succ_cons, List.take_zero, List.take_nil, List.drop_nil, List.getElem?_cons_zero, List.getElem?_cons_succ, List.getElem?_nil, Nat.reduceAdd, Nat.reduceMul, Nat.zero_add, Nat.add_zero, binD, binV, eqCells, eqC, lenD, sliceOf, ite_true, if_true, eq_self, reduceIte, reduceCtorEq, finish_ret, finish_normal, finish_bif, giveBack, resAll, resOne, outD, outOk, stayC, cellOk, valOk, lowC, lowP, List.take_zero, List.length_nil, forceAll, bound, asNat, elemIs, isStrK, sameInt, sliceD, kill, spendLoc, spendOk, setOwn, dropAl, dropAls, inReg, inObj, isCell, gone, List.contains_cons, List.contains_nil, List.elem_cons, List.elem_nil, lend, lendA, tracked, trackedA, noSl, noSlC, noSlV, bare, bareC, List.any_cons, List.any_nil, frz, frzC, frzReg_m, isGive, argE, argsE, isOwn, noOwn, fill, setCells, setVs, takeParts, rowsOf, inOrder, ownAt, List.set_cons_zero, List.set_cons_succ, List.nil_append, List.cons_append, List.append_nil, Nat.reduceBNe, Nat.reduceSub, Nat.reduceLT, Nat.reduceLeDiff, decide_true, decide_false, List.length_append, List.append_assoc, List.concat_eq_append, List.getElem?_append_right, List.singleton_append, Int.cast_ofNat_Int, again_normal, again_ret, again_exit, again_bif, beq_self_eq_true, findLoop, List.map_append, List.length_map, Bool.cond_true_left, Bool.cond_false_right, Bool.cond_false_left, Bool.cond_true_right, ge_iff_le, gt_iff_lt, evOpsK, ↓kindOp_m, kindW, plainWork, ownsDst, calmOp, calm, calmC, calmP, immB, noLoc, noLocC, readsAt, plainK, freeOk, pairOk, rwOk, List.getD_cons_zero, List.getD_cons_succ, Op.operands, Bool.not_eq_true, Option.map_some, Option.map_none, Int.reduceBEq, Int.reduceLT, Int.reduceLE, Int.reduceNeg, Bool.decide_eq_true, Int.reduceBNe, pickOk_n, pickOk_p, pickOk_tn, pickOk_tp, pickOk_f, pickOk_x, pickOk_h, pickOk_g, ty3, ty4, ty9, ty22, ty60, ty64, ty68, hN, hIn, hC, emp_l, empty_l, emptymk_l, bne, itemF, call0, cmd0, resI]
/-! ### wire.CheckItem -/
def n34 : Note where
  keep := fun i => match i with
    | 0 => [1]
    | 1 => [1, 20]
    | 2 => [2]
    | 3 => [1, 22]
    | 4 => [26]
    | 5 => [2]
    | 6 => [2]
    | 7 => [2]
    | _ => []
  ro := fun t => t == 1
  mv := fun _ => false
  give := fun _ => false
  free := fun _ => []
theorem n34k0 : n34.keep 0 = [1] := rfl
theorem n34k1 : n34.keep 1 = [1, 20] := rfl
theorem n34k2 : n34.keep 2 = [2] := rfl
theorem n34k3 : n34.keep 3 = [1, 22] := rfl
theorem n34k4 : n34.keep 4 = [26] := rfl
theorem n34k5 : n34.keep 5 = [2] := rfl
theorem n34k6 : n34.keep 6 = [2] := rfl
theorem n34k7 : n34.keep 7 = [2] := rfl
theorem n34ro (t : Nat) : n34.ro t = (t == 1) := rfl
theorem n34mv (t : Nat) : n34.mv t = (false) := rfl
theorem n34gv (t : Nat) : n34.give t = (false) := rfl
noncomputable def b34 : Code := bodyOf Try.f34
theorem r34 (C : Oracle) (L : Loops) (term time : Int) (nop : Bool) (cl seq k n : Int) (key field text : ByteArray) (hC : ∀ cl seq k n key field text, C 32 [.agg [.v (.i .i64 cl), .v (.i .i64 seq), .v (.i .i64 k), .v (.s key), .v (.s field), .v (.s text), .v (.i .i64 n)]] [] = some (.v (.i .i64 (callF cl seq k key field text n)), [])) :
    evFn TT C L n34 Try.f34.results.toList (bodyOf Try.f34) [.agg [.v (.i .i64 term), .v (.i .i64 time), .v (.b nop), .v (.i .i64 cl), .v (.i .i64 seq), .v (.i .i64 k), .v (.s key), .v (.s field), .v (.s text), .v (.i .i64 n)]] [] = some (.v (.i .i64 (itemF term time nop cl seq k key field text n)), []) := by
  cases nop
  all_goals simp (maxSteps := 4000000) only [Try.f34, n34k0, n34k1, n34k2, n34k3, n34k4, n34k5, n34k6, n34k7, n34ro, n34mv, n34gv, evFn_finish, bodyOf, Option.getD_some, ↓evCode_seq, ↓evCode_region, ↓evCode_condC, ↓evCode_skip, ↓evCode_ret, ↓evCode_exit, ↓evCode_loop, ↓evCode_block_seq, ↓evCode_block_region, ↓evCode_block_cond, ↓evCode_block_block, ↓evCode_block_skip, ↓cond_true, ↓cond_false, enter, List.toList_toArray, ↓evRegion_f, ↓evRegion_t, Bool.false_and, cond_false, evOps, ↓stepOp_m, guardB, yieldedD, isWork, cond_true, workOk, workOp, Mx.force, opnd, Mx.look, Nat.reduceBEq, solid, Mx.fit, fitCs, fitC, List.isEmpty_cons, List.isEmpty_nil, Bool.false_or, Bool.or_false, Bool.true_or, Bool.or_true, Bool.and_true, Bool.true_and, Bool.and_false, Bool.not_true, Bool.not_false, Bool.not_not, Bool.or_not_self, Bool.not_or_self, Bool.and_self, Bool.or_self, toVs, cellsOf, toV, setReg_m, spend_m, hasOwn, ownFree, List.all_cons, List.all_nil, ownFreeC, Mx.put, ofConst, ofCell, after_some, Mx.prune, List.map_cons, List.map_nil, killB, killBs, andThen_normal, andThen_ret, andThen_exit, andThen_bif, after_bif, branchC_b, unblock_normal, unblock_ret, unblock_exit, unblock_bif, pureOp, gx_m, putDst, offReg_m, callFails, isFuncCall, Option.isNone_none, Option.isNone_some, Option.isSome_none, Option.isSome_some, fieldOff, loadAt, partD, List.length_cons, List.length_nil, List.map, List.drop_succ_cons, List.drop_zero, List.take_succ_cons, List.take_zero, List.take_nil, List.drop_nil, List.getElem?_cons_zero, List.getElem?_cons_succ, List.getElem?_nil, Nat.reduceAdd, Nat.reduceMul, Nat.zero_add, Nat.add_zero, binD, binV, eqCells, eqC, lenD, sliceOf, ite_true, if_true, eq_self, reduceIte, reduceCtorEq, finish_ret, finish_normal, finish_bif, giveBack, resAll, resOne, outD, outOk, stayC, cellOk, valOk, lowC, lowP, List.take_zero, List.length_nil, forceAll, bound, asNat, elemIs, isStrK, sameInt, sliceD, kill, spendLoc, spendOk, setOwn, dropAl, dropAls, inReg, inObj, isCell, gone, List.contains_cons, List.contains_nil, List.elem_cons, List.elem_nil, lend, lendA, tracked, trackedA, noSl, noSlC, noSlV, bare, bareC, List.any_cons, List.any_nil, frz, frzC, frzReg_m, isGive, argE, argsE, isOwn, noOwn, fill, setCells, setVs, takeParts, rowsOf, inOrder, ownAt, List.set_cons_zero, List.set_cons_succ, List.nil_append, List.cons_append, List.append_nil, Nat.reduceBNe, Nat.reduceSub, Nat.reduceLT, Nat.reduceLeDiff, decide_true, decide_false, List.length_append, List.append_assoc, List.concat_eq_append, List.getElem?_append_right, List.singleton_append, Int.cast_ofNat_Int, again_normal, again_ret, again_exit, again_bif, beq_self_eq_true, findLoop, List.map_append, List.length_map, Bool.cond_true_left, Bool.cond_false_right, Bool.cond_false_left, Bool.cond_true_right, ge_iff_le, gt_iff_lt, evOpsK, ↓kindOp_m, kindW, plainWork, ownsDst, calmOp, calm, calmC, calmP, immB, noLoc, noLocC, readsAt, plainK, freeOk, pairOk, rwOk, List.getD_cons_zero, List.getD_cons_succ, Op.operands, Bool.not_eq_true, Option.map_some, Option.map_none, Int.reduceBEq, Int.reduceLT, Int.reduceLE, Int.reduceNeg, Bool.decide_eq_true, Int.reduceBNe, pickOk_n, pickOk_p, pickOk_tn, pickOk_tp, pickOk_f, pickOk_x, pickOk_h, pickOk_g, ty3, ty4, ty9, ty22, ty60, ty64, ty68, hC, emp_l, empty_l, emptymk_l, bne, itemF, call0, cmd0, resI]
  all_goals simp only [out_in, out_in', numB, inB]
/-! ### rostrumlaw.WireItems -/
def n11 : Note where
  keep := fun i => match i with
    | 0 => [1]
    | 1 => [1, 3]
    | 2 => [3, 4]
    | 3 => [2]
    | _ => []
  ro := fun t => t == 1
  mv := fun _ => false
  give := fun _ => false
  free := fun _ => []
theorem n11k0 : n11.keep 0 = [1] := rfl
theorem n11k1 : n11.keep 1 = [1, 3] := rfl
theorem n11k2 : n11.keep 2 = [3, 4] := rfl
theorem n11k3 : n11.keep 3 = [2] := rfl
theorem n11ro (t : Nat) : n11.ro t = (t == 1) := rfl
theorem n11mv (t : Nat) : n11.mv t = (false) := rfl
theorem n11gv (t : Nat) : n11.give t = (false) := rfl
noncomputable def b11 : Code := bodyOf Try.f11
theorem r11 (C : Oracle) (L : Loops) (term time : Int) (nop : Bool) (cl seq k n : Int) (key field text : ByteArray) (h1 : ∀ term time nop cl seq k n key field text, C 34 [.agg [.v (.i .i64 term), .v (.i .i64 time), .v (.b nop), .v (.i .i64 cl), .v (.i .i64 seq), .v (.i .i64 k), .v (.s key), .v (.s field), .v (.s text), .v (.i .i64 n)]] [] = some (.v (.i .i64 (itemF term time nop cl seq k key field text n)), []))(h2 : ∀ term time nop cl seq k n key field text, C 35 [.agg [.v (.i .i64 term), .v (.i .i64 time), .v (.b nop), .v (.i .i64 cl), .v (.i .i64 seq), .v (.i .i64 k), .v (.s key), .v (.s field), .v (.s text), .v (.i .i64 n)]] [] = some (.v (.i .i64 (itemF term time nop cl seq k key field text n)), [])) :
    evFn TT C L n11 Try.f11.results.toList (bodyOf Try.f11) [.agg [.v (.i .i64 term), .v (.i .i64 time), .v (.b nop), .v (.i .i64 cl), .v (.i .i64 seq), .v (.i .i64 k), .v (.s key), .v (.s field), .v (.s text), .v (.i .i64 n)]] [] = some (.v (.b true), []) := by
  simp (maxSteps := 4000000) only [Try.f11, n11k0, n11k1, n11k2, n11k3, n11ro, n11mv, n11gv, evFn_finish, bodyOf, Option.getD_some, ↓evCode_seq, ↓evCode_region, ↓evCode_condC, ↓evCode_skip, ↓evCode_ret, ↓evCode_exit, ↓evCode_loop, ↓evCode_block_seq, ↓evCode_block_region, ↓evCode_block_cond, ↓evCode_block_block, ↓evCode_block_skip, ↓cond_true, ↓cond_false, enter, List.toList_toArray, ↓evRegion_f, ↓evRegion_t, Bool.false_and, cond_false, evOps, ↓stepOp_m, guardB, yieldedD, isWork, cond_true, workOk, workOp, Mx.force, opnd, Mx.look, Nat.reduceBEq, solid, Mx.fit, fitCs, fitC, List.isEmpty_cons, List.isEmpty_nil, Bool.false_or, Bool.or_false, Bool.true_or, Bool.or_true, Bool.and_true, Bool.true_and, Bool.and_false, Bool.not_true, Bool.not_false, Bool.not_not, Bool.or_not_self, Bool.not_or_self, Bool.and_self, Bool.or_self, toVs, cellsOf, toV, setReg_m, spend_m, hasOwn, ownFree, List.all_cons, List.all_nil, ownFreeC, Mx.put, ofConst, ofCell, after_some, Mx.prune, List.map_cons, List.map_nil, killB, killBs, andThen_normal, andThen_ret, andThen_exit, andThen_bif, after_bif, branchC_b, unblock_normal, unblock_ret, unblock_exit, unblock_bif, pureOp, gx_m, putDst, offReg_m, callFails, isFuncCall, Option.isNone_none, Option.isNone_some, Option.isSome_none, Option.isSome_some, fieldOff, loadAt, partD, List.length_cons, List.length_nil, List.map, List.drop_succ_cons, List.drop_zero, List.take_succ_cons, List.take_zero, List.take_nil, List.drop_nil, List.getElem?_cons_zero, List.getElem?_cons_succ, List.getElem?_nil, Nat.reduceAdd, Nat.reduceMul, Nat.zero_add, Nat.add_zero, binD, binV, eqCells, eqC, lenD, sliceOf, ite_true, if_true, eq_self, reduceIte, reduceCtorEq, finish_ret, finish_normal, finish_bif, giveBack, resAll, resOne, outD, outOk, stayC, cellOk, valOk, lowC, lowP, List.take_zero, List.length_nil, forceAll, bound, asNat, elemIs, isStrK, sameInt, sliceD, kill, spendLoc, spendOk, setOwn, dropAl, dropAls, inReg, inObj, isCell, gone, List.contains_cons, List.contains_nil, List.elem_cons, List.elem_nil, lend, lendA, tracked, trackedA, noSl, noSlC, noSlV, bare, bareC, List.any_cons, List.any_nil, frz, frzC, frzReg_m, isGive, argE, argsE, isOwn, noOwn, fill, setCells, setVs, takeParts, rowsOf, inOrder, ownAt, List.set_cons_zero, List.set_cons_succ, List.nil_append, List.cons_append, List.append_nil, Nat.reduceBNe, Nat.reduceSub, Nat.reduceLT, Nat.reduceLeDiff, decide_true, decide_false, List.length_append, List.append_assoc, List.concat_eq_append, List.getElem?_append_right, List.singleton_append, Int.cast_ofNat_Int, again_normal, again_ret, again_exit, again_bif, beq_self_eq_true, findLoop, List.map_append, List.length_map, Bool.cond_true_left, Bool.cond_false_right, Bool.cond_false_left, Bool.cond_true_right, ge_iff_le, gt_iff_lt, evOpsK, ↓kindOp_m, kindW, plainWork, ownsDst, calmOp, calm, calmC, calmP, immB, noLoc, noLocC, readsAt, plainK, freeOk, pairOk, rwOk, List.getD_cons_zero, List.getD_cons_succ, Op.operands, Bool.not_eq_true, Option.map_some, Option.map_none, Int.reduceBEq, Int.reduceLT, Int.reduceLE, Int.reduceNeg, Bool.decide_eq_true, Int.reduceBNe, pickOk_n, pickOk_p, pickOk_tn, pickOk_tp, pickOk_f, pickOk_x, pickOk_h, pickOk_g, ty3, ty4, ty9, ty22, ty60, ty64, ty68, h1, h2]
end Go.Proofs.Ytiicnbdolakdgaa
