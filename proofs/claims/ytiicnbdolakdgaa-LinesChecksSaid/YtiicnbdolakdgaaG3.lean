/- Part of the proof by the machine Mx (plain data in place of memory): G3. -/
import Derived.Test.YtiicnbdolakdgaaMxZk
import Derived.Test.YtiicnbdolakdgaaStr
import Derived.Test.YtiicnbdolakdgaaG0
import Derived.Test.YtiicnbdolakdgaaH0
set_option linter.unusedVariables false
set_option linter.unusedSimpArgs false
set_option linter.constructorNameAsVariable false
set_option linter.unnecessarySimpa false
namespace Go.Proofs.Ytiicnbdolakdgaa
open Go Go.Mx Go.Proofs
/-! ### rostrumref.withNode -/
def n63 : Note where
  keep := fun i => match i with
    | 0 => [0]
    | 1 => [2]
    | _ => []
  ro := fun _ => false
  mv := fun _ => false
  give := fun _ => false
  free := fun _ => []
theorem n63k0 : n63.keep 0 = [0] := rfl
theorem n63k1 : n63.keep 1 = [2] := rfl
theorem n63ro (t : Nat) : n63.ro t = (false) := rfl
theorem n63mv (t : Nat) : n63.mv t = (false) := rfl
theorem n63gv (t : Nat) : n63.give t = (false) := rfl
noncomputable def b63 : Code := bodyOf Try.f63
theorem r63 (C : Oracle) (L : Loops) (a : Int) (hIn : ∀ a b c, C 53 [.v (.i .i64 a), .v (.i .i64 b), .v (.i .i64 c)] [] = some (.v (.b (inB a b c)), [])) :
    evFn TT C L n63 Try.f63.results.toList (bodyOf Try.f63) [.v (.i .i64 a)] [] = some (.v (.b (withNodeB a)), []) := by
  simp (maxSteps := 4000000) only [Try.f63, n63k0, n63k1, n63ro, n63mv, n63gv, evFn_finish, bodyOf, Option.getD_some, ↓evCode_seq, ↓evCode_region, ↓evCode_condC, ↓evCode_skip, ↓evCode_ret, ↓evCode_exit, ↓evCode_loop, ↓evCode_block_seq, ↓evCode_block_region, ↓evCode_block_cond, ↓evCode_block_block, ↓evCode_block_skip, ↓cond_true, ↓cond_false, enter, List.toList_toArray, ↓evRegion_f, ↓evRegion_t, Bool.false_and, cond_false, evOps, ↓stepOp_m, guardB, yieldedD, isWork, cond_true, workOk, workOp, Mx.force, opnd, Mx.look, Nat.reduceBEq, solid, Mx.fit, fitCs, fitC, List.isEmpty_cons, List.isEmpty_nil, Bool.false_or, Bool.or_false, Bool.true_or, Bool.or_true, Bool.and_true, Bool.true_and, Bool.and_false, Bool.not_true, Bool.not_false, Bool.not_not, Bool.or_not_self, Bool.not_or_self, Bool.and_self, Bool.or_self, toVs, cellsOf, toV, setReg_m, spend_m, hasOwn, ownFree, List.all_cons, List.all_nil, ownFreeC, Mx.put, ofConst, ofCell, after_some, Mx.prune, List.map_cons, List.map_nil, killB, killBs, andThen_normal, andThen_ret, andThen_exit, andThen_bif, after_bif, branchC_b, unblock_normal, unblock_ret, unblock_exit, unblock_bif, pureOp, gx_m, putDst, offReg_m, callFails, isFuncCall, Option.isNone_none, Option.isNone_some, Option.isSome_none, Option.isSome_some, fieldOff, loadAt, partD, List.length_cons, List.length_nil, List.map, List.drop_succ_cons, List.drop_zero, List.take_succ_cons, List.take_zero, List.take_nil, List.drop_nil, List.getElem?_cons_zero, List.getElem?_cons_succ, List.getElem?_nil, Nat.reduceAdd, Nat.reduceMul, Nat.zero_add, Nat.add_zero, binD, binV, eqCells, eqC, lenD, sliceOf, ite_true, if_true, eq_self, reduceIte, reduceCtorEq, finish_ret, finish_normal, finish_bif, giveBack, resAll, resOne, outD, outOk, stayC, cellOk, valOk, lowC, lowP, List.take_zero, List.length_nil, forceAll, bound, asNat, elemIs, isStrK, sameInt, sliceD, kill, spendLoc, spendOk, setOwn, dropAl, dropAls, inReg, inObj, isCell, gone, List.contains_cons, List.contains_nil, List.elem_cons, List.elem_nil, lend, lendA, tracked, trackedA, noSl, noSlC, noSlV, bare, bareC, List.any_cons, List.any_nil, frz, frzC, frzReg_m, isGive, argE, argsE, isOwn, noOwn, fill, setCells, setVs, takeParts, rowsOf, inOrder, ownAt, List.set_cons_zero, List.set_cons_succ, List.nil_append, List.cons_append, List.append_nil, Nat.reduceBNe, Nat.reduceSub, Nat.reduceLT, Nat.reduceLeDiff, decide_true, decide_false, List.length_append, List.append_assoc, List.concat_eq_append, List.getElem?_append_right, List.singleton_append, Int.cast_ofNat_Int, again_normal, again_ret, again_exit, again_bif, beq_self_eq_true, findLoop, List.map_append, List.length_map, Bool.cond_true_left, Bool.cond_false_right, Bool.cond_false_left, Bool.cond_true_right, ge_iff_le, gt_iff_lt, evOpsK, ↓kindOp_m, kindW, plainWork, ownsDst, calmOp, calm, calmC, calmP, immB, noLoc, noLocC, readsAt, plainK, freeOk, pairOk, rwOk, List.getD_cons_zero, List.getD_cons_succ, Op.operands, Bool.not_eq_true, Option.map_some, Option.map_none, Int.reduceBEq, Int.reduceLT, Int.reduceLE, Int.reduceNeg, Bool.decide_eq_true, Int.reduceBNe, pickOk_n, pickOk_p, pickOk_tn, pickOk_tp, pickOk_f, pickOk_x, pickOk_h, pickOk_g, outTup, cond_nest_t, cond_nest_f, cond_same, ty3, ty4, hIn, withNodeB, bne]
/-! ### rostrumref.withPick -/
def n64 : Note where
  keep := fun i => match i with
    | 0 => [0]
    | 1 => [2]
    | _ => []
  ro := fun _ => false
  mv := fun _ => false
  give := fun _ => false
  free := fun _ => []
theorem n64k0 : n64.keep 0 = [0] := rfl
theorem n64k1 : n64.keep 1 = [2] := rfl
theorem n64ro (t : Nat) : n64.ro t = (false) := rfl
theorem n64mv (t : Nat) : n64.mv t = (false) := rfl
theorem n64gv (t : Nat) : n64.give t = (false) := rfl
noncomputable def b64 : Code := bodyOf Try.f64
theorem r64 (C : Oracle) (L : Loops) (a : Int) (hIn : ∀ a b c, C 53 [.v (.i .i64 a), .v (.i .i64 b), .v (.i .i64 c)] [] = some (.v (.b (inB a b c)), [])) :
    evFn TT C L n64 Try.f64.results.toList (bodyOf Try.f64) [.v (.i .i64 a)] [] = some (.v (.b (withPickB a)), []) := by
  simp (maxSteps := 4000000) only [Try.f64, n64k0, n64k1, n64ro, n64mv, n64gv, evFn_finish, bodyOf, Option.getD_some, ↓evCode_seq, ↓evCode_region, ↓evCode_condC, ↓evCode_skip, ↓evCode_ret, ↓evCode_exit, ↓evCode_loop, ↓evCode_block_seq, ↓evCode_block_region, ↓evCode_block_cond, ↓evCode_block_block, ↓evCode_block_skip, ↓cond_true, ↓cond_false, enter, List.toList_toArray, ↓evRegion_f, ↓evRegion_t, Bool.false_and, cond_false, evOps, ↓stepOp_m, guardB, yieldedD, isWork, cond_true, workOk, workOp, Mx.force, opnd, Mx.look, Nat.reduceBEq, solid, Mx.fit, fitCs, fitC, List.isEmpty_cons, List.isEmpty_nil, Bool.false_or, Bool.or_false, Bool.true_or, Bool.or_true, Bool.and_true, Bool.true_and, Bool.and_false, Bool.not_true, Bool.not_false, Bool.not_not, Bool.or_not_self, Bool.not_or_self, Bool.and_self, Bool.or_self, toVs, cellsOf, toV, setReg_m, spend_m, hasOwn, ownFree, List.all_cons, List.all_nil, ownFreeC, Mx.put, ofConst, ofCell, after_some, Mx.prune, List.map_cons, List.map_nil, killB, killBs, andThen_normal, andThen_ret, andThen_exit, andThen_bif, after_bif, branchC_b, unblock_normal, unblock_ret, unblock_exit, unblock_bif, pureOp, gx_m, putDst, offReg_m, callFails, isFuncCall, Option.isNone_none, Option.isNone_some, Option.isSome_none, Option.isSome_some, fieldOff, loadAt, partD, List.length_cons, List.length_nil, List.map, List.drop_succ_cons, List.drop_zero, List.take_succ_cons, List.take_zero, List.take_nil, List.drop_nil, List.getElem?_cons_zero, List.getElem?_cons_succ, List.getElem?_nil, Nat.reduceAdd, Nat.reduceMul, Nat.zero_add, Nat.add_zero, binD, binV, eqCells, eqC, lenD, sliceOf, ite_true, if_true, eq_self, reduceIte, reduceCtorEq, finish_ret, finish_normal, finish_bif, giveBack, resAll, resOne, outD, outOk, stayC, cellOk, valOk, lowC, lowP, List.take_zero, List.length_nil, forceAll, bound, asNat, elemIs, isStrK, sameInt, sliceD, kill, spendLoc, spendOk, setOwn, dropAl, dropAls, inReg, inObj, isCell, gone, List.contains_cons, List.contains_nil, List.elem_cons, List.elem_nil, lend, lendA, tracked, trackedA, noSl, noSlC, noSlV, bare, bareC, List.any_cons, List.any_nil, frz, frzC, frzReg_m, isGive, argE, argsE, isOwn, noOwn, fill, setCells, setVs, takeParts, rowsOf, inOrder, ownAt, List.set_cons_zero, List.set_cons_succ, List.nil_append, List.cons_append, List.append_nil, Nat.reduceBNe, Nat.reduceSub, Nat.reduceLT, Nat.reduceLeDiff, decide_true, decide_false, List.length_append, List.append_assoc, List.concat_eq_append, List.getElem?_append_right, List.singleton_append, Int.cast_ofNat_Int, again_normal, again_ret, again_exit, again_bif, beq_self_eq_true, findLoop, List.map_append, List.length_map, Bool.cond_true_left, Bool.cond_false_right, Bool.cond_false_left, Bool.cond_true_right, ge_iff_le, gt_iff_lt, evOpsK, ↓kindOp_m, kindW, plainWork, ownsDst, calmOp, calm, calmC, calmP, immB, noLoc, noLocC, readsAt, plainK, freeOk, pairOk, rwOk, List.getD_cons_zero, List.getD_cons_succ, Op.operands, Bool.not_eq_true, Option.map_some, Option.map_none, Int.reduceBEq, Int.reduceLT, Int.reduceLE, Int.reduceNeg, Bool.decide_eq_true, Int.reduceBNe, pickOk_n, pickOk_p, pickOk_tn, pickOk_tp, pickOk_f, pickOk_x, pickOk_h, pickOk_g, outTup, cond_nest_t, cond_nest_f, cond_same, ty3, ty4, hIn, withPickB]
/-! ### lines.has -/
def n62 : Note where
  keep := fun i => match i with
    | 0 => [0]
    | 1 => [4]
    | 2 => [4, 5]
    | 3 => [4, 5]
    | 4 => [4, 5]
    | 5 => [2, 3]
    | 6 => [4, 9]
    | 7 => [4, 9]
    | 8 => [2, 3]
    | 9 => [12]
    | 10 => [2, 3]
    | 11 => [2, 3]
    | _ => []
  ro := fun _ => false
  mv := fun _ => false
  give := fun _ => false
  free := fun _ => []
theorem n62k0 : n62.keep 0 = [0] := rfl
theorem n62k1 : n62.keep 1 = [4] := rfl
theorem n62k2 : n62.keep 2 = [4, 5] := rfl
theorem n62k3 : n62.keep 3 = [4, 5] := rfl
theorem n62k4 : n62.keep 4 = [4, 5] := rfl
theorem n62k5 : n62.keep 5 = [2, 3] := rfl
theorem n62k6 : n62.keep 6 = [4, 9] := rfl
theorem n62k7 : n62.keep 7 = [4, 9] := rfl
theorem n62k8 : n62.keep 8 = [2, 3] := rfl
theorem n62k9 : n62.keep 9 = [12] := rfl
theorem n62k10 : n62.keep 10 = [2, 3] := rfl
theorem n62k11 : n62.keep 11 = [2, 3] := rfl
theorem n62ro (t : Nat) : n62.ro t = (false) := rfl
theorem n62mv (t : Nat) : n62.mv t = (false) := rfl
theorem n62gv (t : Nat) : n62.give t = (false) := rfl
noncomputable def b62 : Code := bodyOf Try.f62
theorem r62 (C : Oracle) (L : Loops) (a : Int) :
    evFn TT C L n62 Try.f62.results.toList (bodyOf Try.f62) [.v (.i .i64 a)] [] = some (.tup [.v (.b (withNodeB a)), .v (.b (withPickB a))], []) := by
  by_cases ha : a = 5 ∨ a = 6 ∨ a = 7 ∨ a = 8 ∨ a = 9 ∨ a = 12
  · rcases ha with rfl | rfl | rfl | rfl | rfl | rfl
    all_goals simp only [withNodeB, withPickB, inB, bne, Try.f62, n62k0, n62k1, n62k2, n62k3, n62k4, n62k5, n62k6, n62k7, n62k8, n62k9, n62k10, n62k11, n62ro, n62mv, n62gv, evFn_finish, bodyOf, Option.getD_some, ↓evCode_seq, ↓evCode_region, ↓evCode_condC, ↓evCode_skip, ↓evCode_ret, ↓evCode_exit, ↓evCode_loop, ↓evCode_block_seq, ↓evCode_block_region, ↓evCode_block_cond, ↓evCode_block_block, ↓evCode_block_skip, ↓cond_true, ↓cond_false, enter, List.toList_toArray, ↓evRegion_f, ↓evRegion_t, Bool.false_and, cond_false, evOps, ↓stepOp_m, guardB, yieldedD, isWork, cond_true, workOk, workOp, Mx.force, opnd, Mx.look, Nat.reduceBEq, solid, Mx.fit, fitCs, fitC, List.isEmpty_cons, List.isEmpty_nil, Bool.false_or, Bool.or_false, Bool.true_or, Bool.or_true, Bool.and_true, Bool.true_and, Bool.and_false, Bool.not_true, Bool.not_false, Bool.not_not, Bool.or_not_self, Bool.not_or_self, Bool.and_self, Bool.or_self, toVs, cellsOf, toV, setReg_m, spend_m, hasOwn, ownFree, List.all_cons, List.all_nil, ownFreeC, Mx.put, ofConst, ofCell, after_some, Mx.prune, List.map_cons, List.map_nil, killB, killBs, andThen_normal, andThen_ret, andThen_exit, andThen_bif, after_bif, branchC_b, unblock_normal, unblock_ret, unblock_exit, unblock_bif, pureOp, gx_m, putDst, offReg_m, callFails, isFuncCall, Option.isNone_none, Option.isNone_some, Option.isSome_none, Option.isSome_some, fieldOff, loadAt, partD, List.length_cons, List.length_nil, List.map, List.drop_succ_cons, List.drop_zero, List.take_succ_cons, List.take_zero, List.take_nil, List.drop_nil, List.getElem?_cons_zero, List.getElem?_cons_succ, List.getElem?_nil, Nat.reduceAdd, Nat.reduceMul, Nat.zero_add, Nat.add_zero, binD, binV, eqCells, eqC, lenD, sliceOf, ite_true, if_true, eq_self, reduceIte, reduceCtorEq, finish_ret, finish_normal, finish_bif, giveBack, resAll, resOne, outD, outOk, stayC, cellOk, valOk, lowC, lowP, List.take_zero, List.length_nil, forceAll, bound, asNat, elemIs, isStrK, sameInt, sliceD, kill, spendLoc, spendOk, setOwn, dropAl, dropAls, inReg, inObj, isCell, gone, List.contains_cons, List.contains_nil, List.elem_cons, List.elem_nil, lend, lendA, tracked, trackedA, noSl, noSlC, noSlV, bare, bareC, List.any_cons, List.any_nil, frz, frzC, frzReg_m, isGive, argE, argsE, isOwn, noOwn, fill, setCells, setVs, takeParts, rowsOf, inOrder, ownAt, List.set_cons_zero, List.set_cons_succ, List.nil_append, List.cons_append, List.append_nil, Nat.reduceBNe, Nat.reduceSub, Nat.reduceLT, Nat.reduceLeDiff, decide_true, decide_false, List.length_append, List.append_assoc, List.concat_eq_append, List.getElem?_append_right, List.singleton_append, Int.cast_ofNat_Int, again_normal, again_ret, again_exit, again_bif, beq_self_eq_true, findLoop, List.map_append, List.length_map, Bool.cond_true_left, Bool.cond_false_right, Bool.cond_false_left, Bool.cond_true_right, ge_iff_le, gt_iff_lt, evOpsK, ↓kindOp_m, kindW, plainWork, ownsDst, calmOp, calm, calmC, calmP, immB, noLoc, noLocC, readsAt, plainK, freeOk, pairOk, rwOk, List.getD_cons_zero, List.getD_cons_succ, Op.operands, Bool.not_eq_true, Option.map_some, Option.map_none, Int.reduceBEq, Int.reduceLT, Int.reduceLE, Int.reduceNeg, Bool.decide_eq_true, Int.reduceBNe, pickOk_n, pickOk_p, pickOk_tn, pickOk_tp, pickOk_f, pickOk_x, pickOk_h, pickOk_g, outTup, cond_nest_t, cond_nest_f, cond_same, ty3, ty4]
  have h5 : (a == 5) = false := by simp; omega
  have h6 : (a == 6) = false := by simp; omega
  have h7 : (a == 7) = false := by simp; omega
  have h8 : (a == 8) = false := by simp; omega
  have h9 : (a == 9) = false := by simp; omega
  have h12 : (a == 12) = false := by simp; omega
  have hw : withNodeB a = true := by
    have : inB a 6 8 = false := by simp only [inB, Bool.and_eq_false_iff, decide_eq_false_iff_not]; omega
    simp only [withNodeB, this, h12]; rfl
  have hp : withPickB a = false := by simp only [withPickB, inB, Bool.and_eq_false_iff, decide_eq_false_iff_not]; omega
  simp (maxSteps := 4000000) only [Try.f62, n62k0, n62k1, n62k2, n62k3, n62k4, n62k5, n62k6, n62k7, n62k8, n62k9, n62k10, n62k11, n62ro, n62mv, n62gv, evFn_finish, bodyOf, Option.getD_some, ↓evCode_seq, ↓evCode_region, ↓evCode_condC, ↓evCode_skip, ↓evCode_ret, ↓evCode_exit, ↓evCode_loop, ↓evCode_block_seq, ↓evCode_block_region, ↓evCode_block_cond, ↓evCode_block_block, ↓evCode_block_skip, ↓cond_true, ↓cond_false, enter, List.toList_toArray, ↓evRegion_f, ↓evRegion_t, Bool.false_and, cond_false, evOps, ↓stepOp_m, guardB, yieldedD, isWork, cond_true, workOk, workOp, Mx.force, opnd, Mx.look, Nat.reduceBEq, solid, Mx.fit, fitCs, fitC, List.isEmpty_cons, List.isEmpty_nil, Bool.false_or, Bool.or_false, Bool.true_or, Bool.or_true, Bool.and_true, Bool.true_and, Bool.and_false, Bool.not_true, Bool.not_false, Bool.not_not, Bool.or_not_self, Bool.not_or_self, Bool.and_self, Bool.or_self, toVs, cellsOf, toV, setReg_m, spend_m, hasOwn, ownFree, List.all_cons, List.all_nil, ownFreeC, Mx.put, ofConst, ofCell, after_some, Mx.prune, List.map_cons, List.map_nil, killB, killBs, andThen_normal, andThen_ret, andThen_exit, andThen_bif, after_bif, branchC_b, unblock_normal, unblock_ret, unblock_exit, unblock_bif, pureOp, gx_m, putDst, offReg_m, callFails, isFuncCall, Option.isNone_none, Option.isNone_some, Option.isSome_none, Option.isSome_some, fieldOff, loadAt, partD, List.length_cons, List.length_nil, List.map, List.drop_succ_cons, List.drop_zero, List.take_succ_cons, List.take_zero, List.take_nil, List.drop_nil, List.getElem?_cons_zero, List.getElem?_cons_succ, List.getElem?_nil, Nat.reduceAdd, Nat.reduceMul, Nat.zero_add, Nat.add_zero, binD, binV, eqCells, eqC, lenD, sliceOf, ite_true, if_true, eq_self, reduceIte, reduceCtorEq, finish_ret, finish_normal, finish_bif, giveBack, resAll, resOne, outD, outOk, stayC, cellOk, valOk, lowC, lowP, List.take_zero, List.length_nil, forceAll, bound, asNat, elemIs, isStrK, sameInt, sliceD, kill, spendLoc, spendOk, setOwn, dropAl, dropAls, inReg, inObj, isCell, gone, List.contains_cons, List.contains_nil, List.elem_cons, List.elem_nil, lend, lendA, tracked, trackedA, noSl, noSlC, noSlV, bare, bareC, List.any_cons, List.any_nil, frz, frzC, frzReg_m, isGive, argE, argsE, isOwn, noOwn, fill, setCells, setVs, takeParts, rowsOf, inOrder, ownAt, List.set_cons_zero, List.set_cons_succ, List.nil_append, List.cons_append, List.append_nil, Nat.reduceBNe, Nat.reduceSub, Nat.reduceLT, Nat.reduceLeDiff, decide_true, decide_false, List.length_append, List.append_assoc, List.concat_eq_append, List.getElem?_append_right, List.singleton_append, Int.cast_ofNat_Int, again_normal, again_ret, again_exit, again_bif, beq_self_eq_true, findLoop, List.map_append, List.length_map, Bool.cond_true_left, Bool.cond_false_right, Bool.cond_false_left, Bool.cond_true_right, ge_iff_le, gt_iff_lt, evOpsK, ↓kindOp_m, kindW, plainWork, ownsDst, calmOp, calm, calmC, calmP, immB, noLoc, noLocC, readsAt, plainK, freeOk, pairOk, rwOk, List.getD_cons_zero, List.getD_cons_succ, Op.operands, Bool.not_eq_true, Option.map_some, Option.map_none, Int.reduceBEq, Int.reduceLT, Int.reduceLE, Int.reduceNeg, Bool.decide_eq_true, Int.reduceBNe, pickOk_n, pickOk_p, pickOk_tn, pickOk_tp, pickOk_f, pickOk_x, pickOk_h, pickOk_g, outTup, cond_nest_t, cond_nest_f, cond_same, ty3, ty4, h5, h6, h7, h8, h9, h12, hw, hp]
/-! ### rostrumref.ActFault -/
def n40 : Note where
  keep := fun i => match i with
    | 0 => [1]
    | 1 => [1, 6]
    | 2 => [2]
    | 3 => [1, 26]
    | 4 => [2]
    | 5 => [1, 57]
    | 6 => [2]
    | 7 => [1, 60]
    | 8 => [2]
    | 9 => [2]
    | _ => []
  ro := fun t => t == 1
  mv := fun _ => false
  give := fun _ => false
  free := fun _ => []
theorem n40k0 : n40.keep 0 = [1] := rfl
theorem n40k1 : n40.keep 1 = [1, 6] := rfl
theorem n40k2 : n40.keep 2 = [2] := rfl
theorem n40k3 : n40.keep 3 = [1, 26] := rfl
theorem n40k4 : n40.keep 4 = [2] := rfl
theorem n40k5 : n40.keep 5 = [1, 57] := rfl
theorem n40k6 : n40.keep 6 = [2] := rfl
theorem n40k7 : n40.keep 7 = [1, 60] := rfl
theorem n40k8 : n40.keep 8 = [2] := rfl
theorem n40k9 : n40.keep 9 = [2] := rfl
theorem n40ro (t : Nat) : n40.ro t = (t == 1) := rfl
theorem n40mv (t : Nat) : n40.mv t = (false) := rfl
theorem n40gv (t : Nat) : n40.give t = (false) := rfl
noncomputable def b40 : Code := bodyOf Try.f40
set_option maxRecDepth 100000 in
set_option maxHeartbeats 4000000 in
theorem r40 (C : Oracle) (L : Loops) (kind node pick : Int) (cl seq k n : Int) (key field text : ByteArray) (hIn : ∀ a b c, C 53 [.v (.i .i64 a), .v (.i .i64 b), .v (.i .i64 c)] [] = some (.v (.b (inB a b c)), []))(hWN : ∀ a, C 63 [.v (.i .i64 a)] [] = some (.v (.b (withNodeB a)), []))(hWP : ∀ a, C 64 [.v (.i .i64 a)] [] = some (.v (.b (withPickB a)), []))(hC : ∀ cl seq k n key field text, C 33 [.agg [.v (.i .i64 cl), .v (.i .i64 seq), .v (.i .i64 k), .v (.s key), .v (.s field), .v (.s text), .v (.i .i64 n)]] [] = some (.v (.i .i64 (callF cl seq k key field text n)), [])) :
    evFn TT C L n40 Try.f40.results.toList (bodyOf Try.f40) [.agg [.v (.i .i64 kind), .v (.i .i64 node), .v (.i .i64 pick), .v (.i .i64 cl), .v (.i .i64 seq), .v (.i .i64 k), .v (.s key), .v (.s field), .v (.s text), .v (.i .i64 n)]] [] = some (.v (.i .i64 (actF kind node pick cl seq k key field text n)), []) := by
  by_cases hr : inB kind 1 12 = false
  · have hr' : (decide (kind < 1) || decide (12 < kind)) = true := by rw [out_in, hr]; rfl
    simp (maxSteps := 4000000) only [actF, hr, hr', Try.f40, n40k0, n40k1, n40k2, n40k3, n40k4, n40k5, n40k6, n40k7, n40k8, n40k9, n40ro, n40mv, n40gv, evFn_finish, bodyOf, Option.getD_some, ↓evCode_seq, ↓evCode_region, ↓evCode_condC, ↓evCode_skip, ↓evCode_ret, ↓evCode_exit, ↓evCode_loop, ↓evCode_block_seq, ↓evCode_block_region, ↓evCode_block_cond, ↓evCode_block_block, ↓evCode_block_skip, ↓cond_true, ↓cond_false, enter, List.toList_toArray, ↓evRegion_f, ↓evRegion_t, Bool.false_and, cond_false, evOps, ↓stepOp_m, guardB, yieldedD, isWork, cond_true, workOk, workOp, Mx.force, opnd, Mx.look, Nat.reduceBEq, solid, Mx.fit, fitCs, fitC, List.isEmpty_cons, List.isEmpty_nil, Bool.false_or, Bool.or_false, Bool.true_or, Bool.or_true, Bool.and_true, Bool.true_and, Bool.and_false, Bool.not_true, Bool.not_false, Bool.not_not, Bool.or_not_self, Bool.not_or_self, Bool.and_self, Bool.or_self, toVs, cellsOf, toV, setReg_m, spend_m, hasOwn, ownFree, List.all_cons, List.all_nil, ownFreeC, Mx.put, ofConst, ofCell, after_some, Mx.prune, List.map_cons, List.map_nil, killB, killBs, andThen_normal, andThen_ret, andThen_exit, andThen_bif, after_bif, branchC_b, unblock_normal, unblock_ret, unblock_exit, unblock_bif, pureOp, gx_m, putDst, offReg_m, callFails, isFuncCall, Option.isNone_none, Option.isNone_some, Option.isSome_none, Option.isSome_some, fieldOff, loadAt, partD, List.length_cons, List.length_nil, List.map, List.drop_succ_cons, List.drop_zero, List.take_succ_cons, List.take_zero, List.take_nil, List.drop_nil, List.getElem?_cons_zero, List.getElem?_cons_succ, List.getElem?_nil, Nat.reduceAdd, Nat.reduceMul, Nat.zero_add, Nat.add_zero, binD, binV, eqCells, eqC, lenD, sliceOf, ite_true, if_true, eq_self, reduceIte, reduceCtorEq, finish_ret, finish_normal, finish_bif, giveBack, resAll, resOne, outD, outOk, stayC, cellOk, valOk, lowC, lowP, List.take_zero, List.length_nil, forceAll, bound, asNat, elemIs, isStrK, sameInt, sliceD, kill, spendLoc, spendOk, setOwn, dropAl, dropAls, inReg, inObj, isCell, gone, List.contains_cons, List.contains_nil, List.elem_cons, List.elem_nil, lend, lendA, tracked, trackedA, noSl, noSlC, noSlV, bare, bareC, List.any_cons, List.any_nil, frz, frzC, frzReg_m, isGive, argE, argsE, isOwn, noOwn, fill, setCells, setVs, takeParts, rowsOf, inOrder, ownAt, List.set_cons_zero, List.set_cons_succ, List.nil_append, List.cons_append, List.append_nil, Nat.reduceBNe, Nat.reduceSub, Nat.reduceLT, Nat.reduceLeDiff, decide_true, decide_false, List.length_append, List.append_assoc, List.concat_eq_append, List.getElem?_append_right, List.singleton_append, Int.cast_ofNat_Int, again_normal, again_ret, again_exit, again_bif, beq_self_eq_true, findLoop, List.map_append, List.length_map, Bool.cond_true_left, Bool.cond_false_right, Bool.cond_false_left, Bool.cond_true_right, ge_iff_le, gt_iff_lt, evOpsK, ↓kindOp_m, kindW, plainWork, ownsDst, calmOp, calm, calmC, calmP, immB, noLoc, noLocC, readsAt, plainK, freeOk, pairOk, rwOk, List.getD_cons_zero, List.getD_cons_succ, Op.operands, Bool.not_eq_true, Option.map_some, Option.map_none, Int.reduceBEq, Int.reduceLT, Int.reduceLE, Int.reduceNeg, Bool.decide_eq_true, Int.reduceBNe, pickOk_n, pickOk_p, pickOk_tn, pickOk_tp, pickOk_f, pickOk_x, pickOk_h, pickOk_g, outTup, cond_nest_t, cond_nest_f, cond_same, ty3, ty4, ty9, ty22, ty60, ty64, ty75, emp_l, empty_l, emptymk_l, bne, actF, call0, cmd0, resI, withNodeB, withPickB, hIn, hWN, hWP, hC]
  have hk : kind = 1 ∨ kind = 2 ∨ kind = 3 ∨ kind = 4 ∨ kind = 5 ∨ kind = 6 ∨ kind = 7 ∨ kind = 8 ∨ kind = 9 ∨ kind = 10 ∨ kind = 11 ∨ kind = 12 := by
    simp only [inB, Bool.and_eq_false_iff, decide_eq_false_iff_not] at hr; omega
  clear hr
  rcases hk with rfl | rfl | rfl | rfl | rfl | rfl | rfl | rfl | rfl | rfl | rfl | rfl
  all_goals (cases hn : (node == 0) <;> cases hp : (pick == 0))
  all_goals simp (maxSteps := 4000000) only [Try.f40, n40k0, n40k1, n40k2, n40k3, n40k4, n40k5, n40k6, n40k7, n40k8, n40k9, n40ro, n40mv, n40gv, evFn_finish, bodyOf, Option.getD_some, ↓evCode_seq, ↓evCode_region, ↓evCode_condC, ↓evCode_skip, ↓evCode_ret, ↓evCode_exit, ↓evCode_loop, ↓evCode_block_seq, ↓evCode_block_region, ↓evCode_block_cond, ↓evCode_block_block, ↓evCode_block_skip, ↓cond_true, ↓cond_false, enter, List.toList_toArray, ↓evRegion_f, ↓evRegion_t, Bool.false_and, cond_false, evOps, ↓stepOp_m, guardB, yieldedD, isWork, cond_true, workOk, workOp, Mx.force, opnd, Mx.look, Nat.reduceBEq, solid, Mx.fit, fitCs, fitC, List.isEmpty_cons, List.isEmpty_nil, Bool.false_or, Bool.or_false, Bool.true_or, Bool.or_true, Bool.and_true, Bool.true_and, Bool.and_false, Bool.not_true, Bool.not_false, Bool.not_not, Bool.or_not_self, Bool.not_or_self, Bool.and_self, Bool.or_self, toVs, cellsOf, toV, setReg_m, spend_m, hasOwn, ownFree, List.all_cons, List.all_nil, ownFreeC, Mx.put, ofConst, ofCell, after_some, Mx.prune, List.map_cons, List.map_nil, killB, killBs, andThen_normal, andThen_ret, andThen_exit, andThen_bif, after_bif, branchC_b, unblock_normal, unblock_ret, unblock_exit, unblock_bif, pureOp, gx_m, putDst, offReg_m, callFails, isFuncCall, Option.isNone_none, Option.isNone_some, Option.isSome_none, Option.isSome_some, fieldOff, loadAt, partD, List.length_cons, List.length_nil, List.map, List.drop_succ_cons, List.drop_zero, List.take_succ_cons, List.take_zero, List.take_nil, List.drop_nil, List.getElem?_cons_zero, List.getElem?_cons_succ, List.getElem?_nil, Nat.reduceAdd, Nat.reduceMul, Nat.zero_add, Nat.add_zero, binD, binV, eqCells, eqC, lenD, sliceOf, ite_true, if_true, eq_self, reduceIte, reduceCtorEq, finish_ret, finish_normal, finish_bif, giveBack, resAll, resOne, outD, outOk, stayC, cellOk, valOk, lowC, lowP, List.take_zero, List.length_nil, forceAll, bound, asNat, elemIs, isStrK, sameInt, sliceD, kill, spendLoc, spendOk, setOwn, dropAl, dropAls, inReg, inObj, isCell, gone, List.contains_cons, List.contains_nil, List.elem_cons, List.elem_nil, lend, lendA, tracked, trackedA, noSl, noSlC, noSlV, bare, bareC, List.any_cons, List.any_nil, frz, frzC, frzReg_m, isGive, argE, argsE, isOwn, noOwn, fill, setCells, setVs, takeParts, rowsOf, inOrder, ownAt, List.set_cons_zero, List.set_cons_succ, List.nil_append, List.cons_append, List.append_nil, Nat.reduceBNe, Nat.reduceSub, Nat.reduceLT, Nat.reduceLeDiff, decide_true, decide_false, List.length_append, List.append_assoc, List.concat_eq_append, List.getElem?_append_right, List.singleton_append, Int.cast_ofNat_Int, again_normal, again_ret, again_exit, again_bif, beq_self_eq_true, findLoop, List.map_append, List.length_map, Bool.cond_true_left, Bool.cond_false_right, Bool.cond_false_left, Bool.cond_true_right, ge_iff_le, gt_iff_lt, evOpsK, ↓kindOp_m, kindW, plainWork, ownsDst, calmOp, calm, calmC, calmP, immB, noLoc, noLocC, readsAt, plainK, freeOk, pairOk, rwOk, List.getD_cons_zero, List.getD_cons_succ, Op.operands, Bool.not_eq_true, Option.map_some, Option.map_none, Int.reduceBEq, Int.reduceLT, Int.reduceLE, Int.reduceNeg, Bool.decide_eq_true, Int.reduceBNe, pickOk_n, pickOk_p, pickOk_tn, pickOk_tp, pickOk_f, pickOk_x, pickOk_h, pickOk_g, outTup, cond_nest_t, cond_nest_f, cond_same, ty3, ty4, ty9, ty22, ty60, ty64, ty75, hIn, hWN, hWP, hC, inB, hn, hp, emp_l, empty_l, emptymk_l, bne, actF, call0, cmd0, resI, withNodeB, withPickB]
  trace_state
  all_goals sorry
/-! ### lines.Check -/
def n39 : Note where
  keep := fun i => match i with
    | 0 => [1]
    | 1 => [1, 12]
    | 2 => [2]
    | 3 => [1, 3, 4]
    | 4 => [1, 3, 4, 19]
    | 5 => [2]
    | 6 => [1, 44]
    | 7 => [2]
    | 8 => [1, 72]
    | 9 => [2]
    | 10 => [2]
    | _ => []
  ro := fun t => t == 1
  mv := fun _ => false
  give := fun _ => false
  free := fun _ => []
theorem n39k0 : n39.keep 0 = [1] := rfl
theorem n39k1 : n39.keep 1 = [1, 12] := rfl
theorem n39k2 : n39.keep 2 = [2] := rfl
theorem n39k3 : n39.keep 3 = [1, 3, 4] := rfl
theorem n39k4 : n39.keep 4 = [1, 3, 4, 19] := rfl
theorem n39k5 : n39.keep 5 = [2] := rfl
theorem n39k6 : n39.keep 6 = [1, 44] := rfl
theorem n39k7 : n39.keep 7 = [2] := rfl
theorem n39k8 : n39.keep 8 = [1, 72] := rfl
theorem n39k9 : n39.keep 9 = [2] := rfl
theorem n39k10 : n39.keep 10 = [2] := rfl
theorem n39ro (t : Nat) : n39.ro t = (t == 1) := rfl
theorem n39mv (t : Nat) : n39.mv t = (false) := rfl
theorem n39gv (t : Nat) : n39.give t = (false) := rfl
noncomputable def b39 : Code := bodyOf Try.f39
set_option maxRecDepth 100000 in
set_option maxHeartbeats 4000000 in
theorem r39 (C : Oracle) (L : Loops) (kind node pick : Int) (cl seq k n : Int) (key field text : ByteArray) (hH : ∀ a, C 62 [.v (.i .i64 a)] [] = some (.tup [.v (.b (withNodeB a)), .v (.b (withPickB a))], []))(hC : ∀ cl seq k n key field text, C 32 [.agg [.v (.i .i64 cl), .v (.i .i64 seq), .v (.i .i64 k), .v (.s key), .v (.s field), .v (.s text), .v (.i .i64 n)]] [] = some (.v (.i .i64 (callF cl seq k key field text n)), [])) :
    evFn TT C L n39 Try.f39.results.toList (bodyOf Try.f39) [.agg [.v (.i .i64 kind), .v (.i .i64 node), .v (.i .i64 pick), .v (.i .i64 cl), .v (.i .i64 seq), .v (.i .i64 k), .v (.s key), .v (.s field), .v (.s text), .v (.i .i64 n)]] [] = some (.v (.i .i64 (actF kind node pick cl seq k key field text n)), []) := by
  by_cases hr : inB kind 1 12 = false
  · have hr' : (decide (kind < 1) || decide (12 < kind)) = true := by rw [out_in, hr]; rfl
    simp (maxSteps := 4000000) only [actF, hr, hr', Try.f39, n39k0, n39k1, n39k2, n39k3, n39k4, n39k5, n39k6, n39k7, n39k8, n39k9, n39k10, n39ro, n39mv, n39gv, evFn_finish, bodyOf, Option.getD_some, ↓evCode_seq, ↓evCode_region, ↓evCode_condC, ↓evCode_skip, ↓evCode_ret, ↓evCode_exit, ↓evCode_loop, ↓evCode_block_seq, ↓evCode_block_region, ↓evCode_block_cond, ↓evCode_block_block, ↓evCode_block_skip, ↓cond_true, ↓cond_false, enter, List.toList_toArray, ↓evRegion_f, ↓evRegion_t, Bool.false_and, cond_false, evOps, ↓stepOp_m, guardB, yieldedD, isWork, cond_true, workOk, workOp, Mx.force, opnd, Mx.look, Nat.reduceBEq, solid, Mx.fit, fitCs, fitC, List.isEmpty_cons, List.isEmpty_nil, Bool.false_or, Bool.or_false, Bool.true_or, Bool.or_true, Bool.and_true, Bool.true_and, Bool.and_false, Bool.not_true, Bool.not_false, Bool.not_not, Bool.or_not_self, Bool.not_or_self, Bool.and_self, Bool.or_self, toVs, cellsOf, toV, setReg_m, spend_m, hasOwn, ownFree, List.all_cons, List.all_nil, ownFreeC, Mx.put, ofConst, ofCell, after_some, Mx.prune, List.map_cons, List.map_nil, killB, killBs, andThen_normal, andThen_ret, andThen_exit, andThen_bif, after_bif, branchC_b, unblock_normal, unblock_ret, unblock_exit, unblock_bif, pureOp, gx_m, putDst, offReg_m, callFails, isFuncCall, Option.isNone_none, Option.isNone_some, Option.isSome_none, Option.isSome_some, fieldOff, loadAt, partD, List.length_cons, List.length_nil, List.map, List.drop_succ_cons, List.drop_zero, List.take_succ_cons, List.take_zero, List.take_nil, List.drop_nil, List.getElem?_cons_zero, List.getElem?_cons_succ, List.getElem?_nil, Nat.reduceAdd, Nat.reduceMul, Nat.zero_add, Nat.add_zero, binD, binV, eqCells, eqC, lenD, sliceOf, ite_true, if_true, eq_self, reduceIte, reduceCtorEq, finish_ret, finish_normal, finish_bif, giveBack, resAll, resOne, outD, outOk, stayC, cellOk, valOk, lowC, lowP, List.take_zero, List.length_nil, forceAll, bound, asNat, elemIs, isStrK, sameInt, sliceD, kill, spendLoc, spendOk, setOwn, dropAl, dropAls, inReg, inObj, isCell, gone, List.contains_cons, List.contains_nil, List.elem_cons, List.elem_nil, lend, lendA, tracked, trackedA, noSl, noSlC, noSlV, bare, bareC, List.any_cons, List.any_nil, frz, frzC, frzReg_m, isGive, argE, argsE, isOwn, noOwn, fill, setCells, setVs, takeParts, rowsOf, inOrder, ownAt, List.set_cons_zero, List.set_cons_succ, List.nil_append, List.cons_append, List.append_nil, Nat.reduceBNe, Nat.reduceSub, Nat.reduceLT, Nat.reduceLeDiff, decide_true, decide_false, List.length_append, List.append_assoc, List.concat_eq_append, List.getElem?_append_right, List.singleton_append, Int.cast_ofNat_Int, again_normal, again_ret, again_exit, again_bif, beq_self_eq_true, findLoop, List.map_append, List.length_map, Bool.cond_true_left, Bool.cond_false_right, Bool.cond_false_left, Bool.cond_true_right, ge_iff_le, gt_iff_lt, evOpsK, ↓kindOp_m, kindW, plainWork, ownsDst, calmOp, calm, calmC, calmP, immB, noLoc, noLocC, readsAt, plainK, freeOk, pairOk, rwOk, List.getD_cons_zero, List.getD_cons_succ, Op.operands, Bool.not_eq_true, Option.map_some, Option.map_none, Int.reduceBEq, Int.reduceLT, Int.reduceLE, Int.reduceNeg, Bool.decide_eq_true, Int.reduceBNe, pickOk_n, pickOk_p, pickOk_tn, pickOk_tp, pickOk_f, pickOk_x, pickOk_h, pickOk_g, outTup, cond_nest_t, cond_nest_f, cond_same, ty3, ty4, ty9, ty22, ty60, ty64, ty75, emp_l, empty_l, emptymk_l, bne, actF, call0, cmd0, resI, withNodeB, withPickB, hH, hC]
  have hk : kind = 1 ∨ kind = 2 ∨ kind = 3 ∨ kind = 4 ∨ kind = 5 ∨ kind = 6 ∨ kind = 7 ∨ kind = 8 ∨ kind = 9 ∨ kind = 10 ∨ kind = 11 ∨ kind = 12 := by
    simp only [inB, Bool.and_eq_false_iff, decide_eq_false_iff_not] at hr; omega
  clear hr
  rcases hk with rfl | rfl | rfl | rfl | rfl | rfl | rfl | rfl | rfl | rfl | rfl | rfl
  all_goals (cases hn : (node == 0) <;> cases hp : (pick == 0))
  all_goals simp (maxSteps := 4000000) only [Try.f39, n39k0, n39k1, n39k2, n39k3, n39k4, n39k5, n39k6, n39k7, n39k8, n39k9, n39k10, n39ro, n39mv, n39gv, evFn_finish, bodyOf, Option.getD_some, ↓evCode_seq, ↓evCode_region, ↓evCode_condC, ↓evCode_skip, ↓evCode_ret, ↓evCode_exit, ↓evCode_loop, ↓evCode_block_seq, ↓evCode_block_region, ↓evCode_block_cond, ↓evCode_block_block, ↓evCode_block_skip, ↓cond_true, ↓cond_false, enter, List.toList_toArray, ↓evRegion_f, ↓evRegion_t, Bool.false_and, cond_false, evOps, ↓stepOp_m, guardB, yieldedD, isWork, cond_true, workOk, workOp, Mx.force, opnd, Mx.look, Nat.reduceBEq, solid, Mx.fit, fitCs, fitC, List.isEmpty_cons, List.isEmpty_nil, Bool.false_or, Bool.or_false, Bool.true_or, Bool.or_true, Bool.and_true, Bool.true_and, Bool.and_false, Bool.not_true, Bool.not_false, Bool.not_not, Bool.or_not_self, Bool.not_or_self, Bool.and_self, Bool.or_self, toVs, cellsOf, toV, setReg_m, spend_m, hasOwn, ownFree, List.all_cons, List.all_nil, ownFreeC, Mx.put, ofConst, ofCell, after_some, Mx.prune, List.map_cons, List.map_nil, killB, killBs, andThen_normal, andThen_ret, andThen_exit, andThen_bif, after_bif, branchC_b, unblock_normal, unblock_ret, unblock_exit, unblock_bif, pureOp, gx_m, putDst, offReg_m, callFails, isFuncCall, Option.isNone_none, Option.isNone_some, Option.isSome_none, Option.isSome_some, fieldOff, loadAt, partD, List.length_cons, List.length_nil, List.map, List.drop_succ_cons, List.drop_zero, List.take_succ_cons, List.take_zero, List.take_nil, List.drop_nil, List.getElem?_cons_zero, List.getElem?_cons_succ, List.getElem?_nil, Nat.reduceAdd, Nat.reduceMul, Nat.zero_add, Nat.add_zero, binD, binV, eqCells, eqC, lenD, sliceOf, ite_true, if_true, eq_self, reduceIte, reduceCtorEq, finish_ret, finish_normal, finish_bif, giveBack, resAll, resOne, outD, outOk, stayC, cellOk, valOk, lowC, lowP, List.take_zero, List.length_nil, forceAll, bound, asNat, elemIs, isStrK, sameInt, sliceD, kill, spendLoc, spendOk, setOwn, dropAl, dropAls, inReg, inObj, isCell, gone, List.contains_cons, List.contains_nil, List.elem_cons, List.elem_nil, lend, lendA, tracked, trackedA, noSl, noSlC, noSlV, bare, bareC, List.any_cons, List.any_nil, frz, frzC, frzReg_m, isGive, argE, argsE, isOwn, noOwn, fill, setCells, setVs, takeParts, rowsOf, inOrder, ownAt, List.set_cons_zero, List.set_cons_succ, List.nil_append, List.cons_append, List.append_nil, Nat.reduceBNe, Nat.reduceSub, Nat.reduceLT, Nat.reduceLeDiff, decide_true, decide_false, List.length_append, List.append_assoc, List.concat_eq_append, List.getElem?_append_right, List.singleton_append, Int.cast_ofNat_Int, again_normal, again_ret, again_exit, again_bif, beq_self_eq_true, findLoop, List.map_append, List.length_map, Bool.cond_true_left, Bool.cond_false_right, Bool.cond_false_left, Bool.cond_true_right, ge_iff_le, gt_iff_lt, evOpsK, ↓kindOp_m, kindW, plainWork, ownsDst, calmOp, calm, calmC, calmP, immB, noLoc, noLocC, readsAt, plainK, freeOk, pairOk, rwOk, List.getD_cons_zero, List.getD_cons_succ, Op.operands, Bool.not_eq_true, Option.map_some, Option.map_none, Int.reduceBEq, Int.reduceLT, Int.reduceLE, Int.reduceNeg, Bool.decide_eq_true, Int.reduceBNe, pickOk_n, pickOk_p, pickOk_tn, pickOk_tp, pickOk_f, pickOk_x, pickOk_h, pickOk_g, outTup, cond_nest_t, cond_nest_f, cond_same, ty3, ty4, ty9, ty22, ty60, ty64, ty75, hH, hC, hn, hp, inB, emp_l, empty_l, emptymk_l, bne, actF, call0, cmd0, resI, withNodeB, withPickB]
  all_goals simp only [outN, outU, outU']
/-! ### rostrumlaw.LinesChecks -/
def n13 : Note where
  keep := fun i => match i with
    | 0 => [1]
    | 1 => [1, 3]
    | 2 => [3, 4]
    | 3 => [2]
    | _ => []
  ro := fun t => t == 1
  mv := fun _ => false
  give := fun _ => false
  free := fun _ => []
theorem n13k0 : n13.keep 0 = [1] := rfl
theorem n13k1 : n13.keep 1 = [1, 3] := rfl
theorem n13k2 : n13.keep 2 = [3, 4] := rfl
theorem n13k3 : n13.keep 3 = [2] := rfl
theorem n13ro (t : Nat) : n13.ro t = (t == 1) := rfl
theorem n13mv (t : Nat) : n13.mv t = (false) := rfl
theorem n13gv (t : Nat) : n13.give t = (false) := rfl
noncomputable def b13 : Code := bodyOf Try.f13
theorem r13 (C : Oracle) (L : Loops) (kind node pick : Int) (cl seq k n : Int) (key field text : ByteArray) (h1 : ∀ kind node pick cl seq k n key field text, C 39 [.agg [.v (.i .i64 kind), .v (.i .i64 node), .v (.i .i64 pick), .v (.i .i64 cl), .v (.i .i64 seq), .v (.i .i64 k), .v (.s key), .v (.s field), .v (.s text), .v (.i .i64 n)]] [] = some (.v (.i .i64 (actF kind node pick cl seq k key field text n)), []))(h2 : ∀ kind node pick cl seq k n key field text, C 40 [.agg [.v (.i .i64 kind), .v (.i .i64 node), .v (.i .i64 pick), .v (.i .i64 cl), .v (.i .i64 seq), .v (.i .i64 k), .v (.s key), .v (.s field), .v (.s text), .v (.i .i64 n)]] [] = some (.v (.i .i64 (actF kind node pick cl seq k key field text n)), [])) :
    evFn TT C L n13 Try.f13.results.toList (bodyOf Try.f13) [.agg [.v (.i .i64 kind), .v (.i .i64 node), .v (.i .i64 pick), .v (.i .i64 cl), .v (.i .i64 seq), .v (.i .i64 k), .v (.s key), .v (.s field), .v (.s text), .v (.i .i64 n)]] [] = some (.v (.b true), []) := by
  simp (maxSteps := 4000000) only [Try.f13, n13k0, n13k1, n13k2, n13k3, n13ro, n13mv, n13gv, evFn_finish, bodyOf, Option.getD_some, ↓evCode_seq, ↓evCode_region, ↓evCode_condC, ↓evCode_skip, ↓evCode_ret, ↓evCode_exit, ↓evCode_loop, ↓evCode_block_seq, ↓evCode_block_region, ↓evCode_block_cond, ↓evCode_block_block, ↓evCode_block_skip, ↓cond_true, ↓cond_false, enter, List.toList_toArray, ↓evRegion_f, ↓evRegion_t, Bool.false_and, cond_false, evOps, ↓stepOp_m, guardB, yieldedD, isWork, cond_true, workOk, workOp, Mx.force, opnd, Mx.look, Nat.reduceBEq, solid, Mx.fit, fitCs, fitC, List.isEmpty_cons, List.isEmpty_nil, Bool.false_or, Bool.or_false, Bool.true_or, Bool.or_true, Bool.and_true, Bool.true_and, Bool.and_false, Bool.not_true, Bool.not_false, Bool.not_not, Bool.or_not_self, Bool.not_or_self, Bool.and_self, Bool.or_self, toVs, cellsOf, toV, setReg_m, spend_m, hasOwn, ownFree, List.all_cons, List.all_nil, ownFreeC, Mx.put, ofConst, ofCell, after_some, Mx.prune, List.map_cons, List.map_nil, killB, killBs, andThen_normal, andThen_ret, andThen_exit, andThen_bif, after_bif, branchC_b, unblock_normal, unblock_ret, unblock_exit, unblock_bif, pureOp, gx_m, putDst, offReg_m, callFails, isFuncCall, Option.isNone_none, Option.isNone_some, Option.isSome_none, Option.isSome_some, fieldOff, loadAt, partD, List.length_cons, List.length_nil, List.map, List.drop_succ_cons, List.drop_zero, List.take_succ_cons, List.take_zero, List.take_nil, List.drop_nil, List.getElem?_cons_zero, List.getElem?_cons_succ, List.getElem?_nil, Nat.reduceAdd, Nat.reduceMul, Nat.zero_add, Nat.add_zero, binD, binV, eqCells, eqC, lenD, sliceOf, ite_true, if_true, eq_self, reduceIte, reduceCtorEq, finish_ret, finish_normal, finish_bif, giveBack, resAll, resOne, outD, outOk, stayC, cellOk, valOk, lowC, lowP, List.take_zero, List.length_nil, forceAll, bound, asNat, elemIs, isStrK, sameInt, sliceD, kill, spendLoc, spendOk, setOwn, dropAl, dropAls, inReg, inObj, isCell, gone, List.contains_cons, List.contains_nil, List.elem_cons, List.elem_nil, lend, lendA, tracked, trackedA, noSl, noSlC, noSlV, bare, bareC, List.any_cons, List.any_nil, frz, frzC, frzReg_m, isGive, argE, argsE, isOwn, noOwn, fill, setCells, setVs, takeParts, rowsOf, inOrder, ownAt, List.set_cons_zero, List.set_cons_succ, List.nil_append, List.cons_append, List.append_nil, Nat.reduceBNe, Nat.reduceSub, Nat.reduceLT, Nat.reduceLeDiff, decide_true, decide_false, List.length_append, List.append_assoc, List.concat_eq_append, List.getElem?_append_right, List.singleton_append, Int.cast_ofNat_Int, again_normal, again_ret, again_exit, again_bif, beq_self_eq_true, findLoop, List.map_append, List.length_map, Bool.cond_true_left, Bool.cond_false_right, Bool.cond_false_left, Bool.cond_true_right, ge_iff_le, gt_iff_lt, evOpsK, ↓kindOp_m, kindW, plainWork, ownsDst, calmOp, calm, calmC, calmP, immB, noLoc, noLocC, readsAt, plainK, freeOk, pairOk, rwOk, List.getD_cons_zero, List.getD_cons_succ, Op.operands, Bool.not_eq_true, Option.map_some, Option.map_none, Int.reduceBEq, Int.reduceLT, Int.reduceLE, Int.reduceNeg, Bool.decide_eq_true, Int.reduceBNe, pickOk_n, pickOk_p, pickOk_tn, pickOk_tp, pickOk_f, pickOk_x, pickOk_h, pickOk_g, outTup, cond_nest_t, cond_nest_f, cond_same, ty3, ty4, ty9, ty22, ty60, ty64, ty75, h1, h2]
end Go.Proofs.Ytiicnbdolakdgaa
